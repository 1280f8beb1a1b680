/- Proofs: contracts of both sides' functions that say what is valid; what is drawn from bytes. -/
import Derived.Test.YtjjheilajcepfaaGreatDoorD
import Derived.Test.YtjjheilajcepfaaGreatDoorC
import Derived.Test.YtjjheilajcepfaaGreatDoorRows
set_option linter.unusedVariables false
set_option linter.unusedSimpArgs false
set_option maxRecDepth 10000
set_option maxHeartbeats 4000000
open Go.Proofs
namespace Go.Al
variable{L:Nat}(h1:4096≤L)(h2:L≤1073741824)
theorem qv{c:Int}{xs:List Int}(h:(k5 c xs).2=true):(k5 c xs).1.ok=true:=by
 unfold k5 at h ⊢
 split at h
 rename_i h1;rw[if_pos h1];exact h1
 cases h
theorem ox{t:Tm}(h:(df t).2=true):(df t).1.ok=true:=qv h
theorem iu{t:Tm}(h:(cg t).2=true):(cg t).1.ok=true:=by
 unfold cg at h ⊢
 split at h
 cases h
 rename_i h1;rw[if_neg h1];exact qv h
theorem n9{t:Tm}(h:t.zero=true):t.ok=true:=by
 simp only[Tm.zero,aN,decide_eq_true_eq]at h
 have h3:t.xs=[]:=List.eq_nil_of_length_eq_zero (by omega)
 simp[Tm.ok,dT,h.1,h3]
theorem eF{p:List Nd}(h:gD p=true):1≤p.length∧p.length≤60∧(∀n∈p,cQ n=true)∧endP p 0=p.length:=by
 simp only[gD,aN,decide_eq_true_eq,List.all_eq_true]at h
 exact⟨by omega,by omega,h.2.1,h.2.2⟩
theorem sl{p:List Nd}(h:gD p=true){i:Nat}(hi:i<p.length):cQ (p.getD i default)=true:=by
 rw[am hi];exact(eF h).2.2.1 _ (List.getElem_mem hi)
theorem gT{n:Nd}(h:cQ n=true):n.term.ok=true:=by
 unfold cQ at h
 split at h
 simp only[aN]at h;exact n9 h.1.2
 split at h
 simp only[aN]at h;exact h.1.2
 split at h
 simp only[aN]at h;exact n9 h.1.2
 cases h
theorem mw{n:Nd}(h:cQ n=true):0≤n.fact:=by
 unfold cQ at h
 split at h
 simp only[aN,decide_eq_true_eq]at h;omega
 split at h
 simp only[aN,decide_eq_true_eq]at h;omega
 split at h
 simp only[aN,jg,decide_eq_true_eq]at h;omega
 cases h
theorem sk{n:Nd}(h:cQ n=true):n.mul.all co=true:=by
 unfold cQ at h
 split at h
 simp only[aN,kl]at h;exact h.2.1
 split at h
 simp only[aN,decide_eq_true_eq]at h
 rw[List.eq_nil_of_length_eq_zero (by omega:n.mul.length=0)];rfl
 split at h
 simp only[aN,decide_eq_true_eq]at h
 rw[List.eq_nil_of_length_eq_zero (by omega:n.mul.length=0)];rfl
 cases h
theorem jD{n:Nd}(h:cQ n=true):n.kind=1∨n.kind=2∨n.kind=3:=by
 unfold cQ at h
 split at h
 exact .inl ‹_›
 split at h
 exact .inr (.inl ‹_›)
 split at h
 exact .inr (.inr ‹_›)
 cases h
theorem nD{p:List Nd}{k:Nat}(hk:k<p.length)(h:(p.getD k default).kind=1):endP p k=k+1:=by
 have h1:=fH (l:=p) (n:=1) (by decide) hk
 rw[h,show dl 1= -1 from Z,show(1:Int)+ -1=0 from Z,mD (Int.le_refl 0)]at h1
 unfold endP;rw[h1];rfl
theorem mY{p:List Nd}(h:gD p=true){k:Nat}(h0:0<k)(hk:k<p.length): ∃a:Nat,(kk p k k).1=(a:Int)∧a<k:=by
 obtain⟨_,_,_,hend⟩:=eF h
 have key: ∀i,0<i→∃a:Nat,(kk p k i).1=(a:Int)∧a<i:=by
  intro i hi
  induction i with
  | zero=>omega
  | succ i ih=>
   unfold kk
   split
   rename_i hc
   by_cases h1:0<i
   obtain⟨a,h2,h3⟩:=ih h1
   exact⟨a,h2,by omega⟩
   obtain rfl:i=0:=by omega
   rcases hc with hc|hc
   have:=nD (by omega) hc
   omega
   omega
   exact⟨i,Z,by omega⟩
 exact key k h0
structure CS where
  all:List (List Tm)
  has:List Bool
  right:List Bool
  flaw:Int
def gI(p:List Nd)(k:Nat)(z:CS):Bool:=if k=0 then true else z.right.getD (kk p k k).1.toNat default
def oT(p:List Nd)(c0:List Tm)(k:Nat)(z:CS):List Tm:=if k=0 then c0 else if gI p k z=true then fz (p.getD (kk p k k).1.toNat default) (z.all.getD (kk p k k).1.toNat default) (kk p k k).2 else[]
def io(p:List Nd)(c0:List Tm)(k:Nat)(z:CS):Bool:=gI p k z&&em (p.getD k default) (oT p c0 k z)
def fy(p:List Nd)(c0:List Tm)(k:Nat)(z:CS):CS:=⟨z.all++[oT p c0 k z],z.has++[gI p k z],z.right++[io p c0 k z],if(gI p k z&& !io p c0 k z)&&decide (z.flaw<0)then(k:Int)else z.flaw⟩
def aX(p:List Nd)(c0:List Tm):Nat→CS
  | 0=>⟨[],[],[],-1⟩
  | k+1=>fy p c0 k (aX p c0 k)
structure CSok(p:List Nd)(k:Nat)(z:CS):Prop where
  all:z.all.length=k
  has:z.has.length=k
  right:z.right.length=k
  flaw: -1≤z.flaw∧z.flaw<k
  ctx: ∀j,j<k→z.has.getD j default=true→CtxOk (z.all.getD j default)
  good: ∀j,j<k→z.right.getD j default=true→z.has.getD j default=true∧em (p.getD j default) (z.all.getD j default)=true
theorem cy{α:Type}[Inhabited α]{l:List α}{a:α}{j:Nat}:(l++[a]).getD j default=if j=l.length then a else l.getD j default:=by
 simp only[List.getD_eq_getElem?_getD]
 by_cases h:j<l.length
 rw[List.getElem?_append_left h,if_neg (by omega)]
 by_cases e:j=l.length
 subst e;simp
 rw[if_neg e,List.getElem?_eq_none (by simp;omega),List.getElem?_eq_none (by omega)]
theorem ro{n:Nd}{ctx:List Tm}{first:Bool}(hn:cQ n=true)(hc:CtxOk ctx)(hk:n.kind≠1)(hr:em n ctx=true):CtxOk (fz n ctx first)∧(n.kind=3→0≤n.fact∧n.fact<ctx.length):=by
 unfold em at hr
 rw[if_neg hk]at hr
 split at hr
 cases hr
 rename_i h20
 have key: ∀t:Tm,t.ok=true→CtxOk (ctx++[t]):=fun t ht=>⟨fun u hu=>by
  rcases List.mem_append.1 hu with hu|hu
  · exact hc.ok u hu
  · simp at hu;subst hu;exact ht,by simp;omega⟩
 unfold fz
 split at hr
 rename_i h2
 rw[if_neg (by omega)]
 refine⟨?_,fun h=>absurd (h2.symm.trans h) (by decide)⟩
 split
 exact key _ (gT hn)
 exact key _ (ox hr)
 rename_i h2
 have h3:n.kind=3:=by rcases jD hn with h|h|h<;>first|exact h|contradiction
 rw[if_pos h3]
 split at hr
 cases hr
 rename_i h4
 exact⟨key _ (iu hr),fun _=>⟨mw hn,by omega⟩⟩
theorem mr{p:List Nd}{k:Nat}: ∀{i a:Nat},(kk p k i).1=(a:Int)→(p.getD a default).kind≠1∧(k:Int)<endP p a∧a<i
 | 0,a,h=>by have h:(-1:Int)=a:=h;omega
 | i+1,a,h=>by
  unfold kk at h
  split at h
  have:=mr h;exact⟨this.1,this.2.1,by omega⟩
  rename_i hc
  have h:(i:Int)=a:=h
  obtain rfl:i=a:=by omega
  exact⟨fun e=>hc (.inl e),by have:=fun e=>hc (.inr e);omega,by omega⟩
theorem t7{p:List Nd}{c0:List Tm}{k:Nat}{z:CS}(hp:gD p=true)(h0:CtxOk c0)(hk:k<p.length)(hz:CSok p k z)(hf:gI p k z=true):CtxOk (oT p c0 k z):=by
 unfold oT
 split
 exact h0
 rename_i hk0
 try rw[if_pos hf]
 obtain⟨a,ha,hak⟩:=mY hp (by omega) hk
 have hf':=hf
 unfold gI at hf'
 rw[if_neg hk0,ha,Int.toNat_natCast]at hf'
 obtain⟨h1,h2⟩:=hz.good a hak hf'
 rw[ha,Int.toNat_natCast]
 exact(ro (sl hp (by omega)) (hz.ctx a hak h1) (mr ha).1 h2).1
theorem CSok.step{p:List Nd}{c0:List Tm}{k:Nat}{z:CS}(hp:gD p=true)(h0:CtxOk c0)(hk:k<p.length)(hz:CSok p k z):CSok p (k+1) (fy p c0 k z):=by
 refine⟨by simp[fy,hz.all],by simp[fy,hz.has],by simp[fy,hz.right],?_,fun j hj h=>?_,fun j hj h=>?_⟩
 have:=hz.flaw
 unfold fy
 dsimp only
 split<;>omega
 simp only[fy,cy,hz.has,hz.all]at h ⊢
 by_cases e:j=k
 rw[if_pos e]at h ⊢;exact t7 hp h0 hk hz h
 rw[if_neg e]at h ⊢;exact hz.ctx j (by omega) h
 simp only[fy,cy,hz.has,hz.all,hz.right]at h ⊢
 by_cases e:j=k
 rw[if_pos e]at h
 rw[if_pos e,if_pos e,e]
 unfold io at h
 simpa using h
 rw[if_neg e]at h
 rw[if_neg e,if_neg e]
 exact hz.good j (by omega) h
theorem jP{p:List Nd}{c0:List Tm}(hp:gD p=true)(h0:CtxOk c0): ∀{k:Nat},k≤p.length→CSok p k (aX p c0 k)
 | 0,_=>⟨rfl,rfl,rfl,⟨Int.le_refl _,by show(-1:Int)<((0:Nat):Int);decide⟩,fun j hj=>absurd hj (Nat.not_lt_zero j),fun j hj=>absurd hj (Nat.not_lt_zero j)⟩
 | k+1,hk=>(jP hp h0 (k:=k) (by omega)).step hp h0 (by omega)
structure Con where
  all:List (List Tm)
  has:List Bool
  flaw:Int
  ok:Bool
def rI(s:Sq)(p:List Nd):Con:=if(df s.goal).2=true then⟨(aX p (eC s).1 p.length).all,(aX p (eC s).1 p.length).has,(aX p (eC s).1 p.length).flaw,true⟩else⟨[],[],0,false⟩
theorem eH{s:Sq}(h:ii s=true):(∀t∈s.facts,t.ok=true)∧s.facts.length≤13∧s.goal.ok=true:=by
 simp only[ii,gK,aN,decide_eq_true_eq,List.all_eq_true]at h
 exact⟨h.1.1,by omega,h.2⟩
theorem oK{s:Sq}(h:ii s=true):CtxOk (eC s).1:=by
 obtain⟨h1,h2,h3⟩:=eH h
 unfold eC
 split
 rename_i ho
 refine⟨fun u hu=>?_,by simp;omega⟩
 rcases List.mem_append.1 hu with hu|hu
 exact h1 u hu
 simp at hu;subst hu;exact ox ho
 exact⟨fun u hu=>by simp at hu,by simp⟩
theorem t6{s:Sq}:(eC s).2=(df s.goal).2:=by unfold eC;split<;>simp_all
theorem nt{b:Bool}(h:(!b)=true):b=false:=by cases b<;>simp_all
theorem nf{b:Bool}(h:(!b)=false):b=true:=by cases b<;>simp_all
theorem g2{a b:Bool}:(bif !a then true else !b)= !(a&&b):=by cases a<;>cases b<;>rfl
def l4(s:Sq)(p:List Nd):Bool:=(ii s&&gD p)&&((rI s p).ok&&decide ((rI s p).flaw<0))
theorem uJ{α β:Type}[Inhabited α]{l:List α}{f:α→β}{n:Nat}(h:n<l.length):(l.map f)[0+n]? = some (f (l.getD n default)):=by rw[Nat.zero_add];simp[h]
abbrev l5(ts:List Tm)(ms:List Int):Tm:=⟨ba Tm.c ts ms,aS (bC ts ms)⟩
abbrev bq(t:Tm):Tm:=⟨ba Tm.c [t] [-1]-1,aS (bC [t] [-1])⟩
def bd(ctx:List Tm)(ms:List Int):Bool:=decide (ms.length=ctx.length)&&(decide ((aS (bC ctx ms)).length=0)&&decide (ba Tm.c ctx ms<0))
def bT(s:Sq):List Tm×Bool:=if(ii s&&(bq s.goal).ok)=true then(s.facts++[bq s.goal],true)else([],false)
variable{ts:List Tm}{n:Int}
theorem wW:MQ h1 h2 128 [cO ts,eI n] [] (Plain (eB (gK ts n))):=by
 refine aH ?_ Z
 refine jB 21 h1 h2 Tryz.func128 Z fun O hF=>?_
 have hl:ts.length≤L:=by simpa[As.fact,A.fact,M.fact,D.fact,Ds.fact]using hF.1.1
 refine af (js Z (jn (ah (af (js Z (eh Z (ac Z (jn (ar Z (fun z10=>?_) (fun z10=>?_))))))))))
 try simp only[bL]at z10
 refine af (js Z (jr ?_))
 refine aC Z ?_
 rw[gK,decide_eq_false (show¬(ts.length:Int)≤n by omega),Bool.and_false]
 try simp only[bL]at z10
 refine al (ah (af (js Z (eh Z (js Z (jn (ak (av (X:=Nat) (fun i=>⟨[(1,eI n),(11,cO ts),(12,eI ts.length),(13,eI i)],[]⟩) (fun i=>i≤ts.length∧∀j (h:j<ts.length),j<i→Tm.ok ts[j]=true) (fun i=>ts.length-i) 0 (Ent.to ⟨Z,Z,Z,Z,aq⟩ Z) ?_ (fun i hi=>?_)))))))))
 exact⟨fg _,fun j h hj=>absurd hj (Nat.not_lt_zero j)⟩
 refine af (js Z (jn (ah (ar Z (fun z14=>?_) (fun z14=>?_)))))
 try simp only[bL]at z14
 refine al (ah (ak (af (uA Z Z (js Z (jl Z (jo Z (aZ (js Z (bE Z (k8 (t:=ts.getD i default) h1 h2) 19000 Z (js Z (jn (ar Z (fun z19=>?_) (fun z19=>?_))))))))))))))
 try simp only[bL]at z19
 refine af (js Z (jr ?_))
 refine aC Z ?_
 rw[am (by omega)]at z19
 rw[gK,lG i (by omega) z19,Bool.false_and]
 try simp only[bL]at z19
 refine al (ag (ji Z (js Z (jn ?_))))
 refine⟨i+1,(ap [] (e':=[(1,_),(11,_),(12,_),(13,_)]) Z Z ⟨Z,Z,Z,Z,aq⟩ Z),⟨by omega,fun j h hj=>?_⟩,by omega⟩
 by_cases e:j=i
 subst e;rw[am h]at z19;exact z19
 exact hi.2 j h (by omega)
 try simp only[bL]at z14
 refine bg (af (js Z (jr ?_)))
 refine aC Z ?_
 rw[gK,nd (fun j hj=>hi.2 j hj (by omega)),decide_eq_true (show(ts.length:Int)≤n by omega),Bool.true_and]
variable{s:Sq}
theorem wZ:MQ h1 h2 75 [kj s] [] (Plain (eB (ii s))):=by
 refine aH ?_ Z
 refine jB 11 h1 h2 Tryz.func75 Z fun O hF=>?_
 refine af (jx Z (js Z (aZ (ac Z (bE Z (wW h1 h2) 6000 Z (js Z (aG 3 Z Z Z (fun hx=>aB hx Z (aB hx Z (cH O hx Z Z Z Z (k8 h1 h2) (aa Z) Z Z Z Z Z Z Z (B0:=10000) Z (AN.nil)))) Z Z (aj (aw O Z Z Z Z Z) Z (js Z (jr ?_))))))))))
 refine aC Z ?_
 rw[Bool.cond_false_right];rfl
variable{t:Tm}
theorem uL:MQ h1 h2 82 [cP t] [] (Plain (cP ⟨t.c,aS t.xs⟩)):=by
 refine MC.data (jB 26 h1 h2 Tryz.func82 Z fun O hF=>?_)
 have hl:t.xs.length≤L:=by simpa[As.fact,A.fact,M.fact,Ms.fact,D.fact,Ds.fact]using hF.1.2.1.1
 refine af (jx Z (jl Z (aZ (ac Z (eh Z (js Z (jn (ah (ak (av (X:=Nat) (fun n=>⟨[(1,.c (.pt 1 0 0)),(2,.c (.pt 2 0 0)),(3,eI n)],[(1,.box [.d (.int .i64 t.c),.d (dV t.xs)]),(2,.box [.d (.int .i64 0),.d .nils])]⟩) (fun n=>n≤t.xs.length∧aS (t.xs.take n)=aS t.xs) (fun n=>n) t.xs.length (Ent.env ⟨Z,Z,Z,aq⟩) ?_ (fun n hi=>?_)))))))))))
 exact⟨bP _,by rw[List.take_length]⟩
 refine ah (af (aW Z (aG 7 Z Z Z (fun hx=>aB hx Z (aB hx Z (aB hx Z (dU hx (vF Z) Z (dU hx (vD Z) Z (aB hx Z (aB hx Z (AN.nil)))))))) Z Z (aj (aw O Z Z Z Z Z) Z (jn (ar Z (fun z17=>?_) (fun z17=>?_)))))))
 refine al (ak (ag (js Z (ji Z (js Z (jn ?_))))))
 rw[Bool.cond_false_right,aN,decide_eq_true_eq,decide_eq_true_eq]at z17
 obtain⟨k,hk⟩: ∃k,n=k+1:=⟨n-1,by omega⟩
 subst hk
 have hk2:((k+1:Nat):Int)-1=k:=by omega
 rw[hk2]at z17
 refine⟨k,Ent.to ⟨Z,Z,by rw[hk2];rfl,aq⟩ Z,⟨by omega,?_⟩,Nat.lt_succ_self k⟩
 rw[←hi.2,kF (by omega) (by simpa using z17.2)]
 refine bg (af (aW Z ?_))
 have hd:aS (t.xs.take n)=t.xs.take n:=f4 hi.1 (by
  rw[Bool.cond_false_right]at z17
  rcases Nat.eq_zero_or_pos n with h0|h0
  ·
   exact .inl h0
  ·
   refine .inr (fun h9=>?_)
   have e1:((n:Int)-1).toNat=n-1:=by omega
   rw[e1,h9]at z17;simp at z17;omega)
 have ht:=hi.2
 rw[hd]at ht
 refine aj ((cY O Z Z ⟨by omega,by simp;omega⟩).cast (v':=bD (aS t.xs)) (by rw[←ht];simp[List.map_take])) Z (js Z (jo Z (aZ (js Z (jo Z (jr ?_))))))
 refine aC Z ?_
 exact .v (.agg (aK Z))
theorem jN{f:Tm→Int}: ∀{ts:List Tm} {ms:List Int},ts.length≤ms.length→ba f (ts.take ts.length) (ms.take ts.length)=ba f ts ms
 | [],ms,_=>by cases ms<;>simp[ba]
 | t::ts,[],h=>by simp at h
 | t::ts,m::ms,h=>by
  have:=jN (f:=f) (ts:=ts) (ms:=ms) (by simpa using h)
  simp only[fh,List.take_succ_cons,ba]at this ⊢
  rw[this]
theorem pu{ts:List Tm}{ms:List Int}(h:ts.length≤ms.length):bC (ts.take ts.length) (ms.take ts.length)=bC ts ms:=by
 unfold bC
 apply List.map_congr_left
 intro k _
 exact jN h
variable{ms:List Int}
theorem tn(hc:CtxOk ts)(hm:ms.all dT=true)(hle:ts.length≤ms.length):MQ h1 h2 39 [cO ts,bD ms] [] (Plain (cP (l5 ts ms))):=by
 refine MC.data (jB 55 h1 h2 Tryz.func39 Z fun O hF=>?_)
 have hl:ms.length≤L:=by simpa[As.fact,A.fact,M.fact,D.fact,Ds.fact]using hF.2.1.1
 have hlc:=hc.len
 refine af (jl Z (aZ (aI (lJ O Z Z Z Z Z Z Z Z Z (by first|omega|(simp at *;omega)) (by first|omega|(simp at *;omega)) (by first|omega|(simp at *;omega)) (by first|omega|(dsimp only;omega)|(simp only[bL]at *;omega)) (by first|omega|(simp at *;omega)) Z Z Z) Z (js Z (jl Z (jo Z (jn (ah (af (js Z (eh Z (js Z (jn (ak (av (X:=Nat) (fun i=>⟨[(1,bD ms),(4,.c (.pt 4 0 0)),(5,.c (.pt 5 0 0)),(12,cO ts),(13,eI ts.length),(14,eI i)],[(4,.box [.d (.int .i64 0),.d .nils]),(5,.box [.d (.int .i64 (ba Tm.c (ts.take i) (ms.take i))),.rs 10 0 10]),(10,eA (bC (ts.take i) (ms.take i)))]⟩) (fun i=>i≤ts.length) (fun i=>ts.length-i) 0 (Ent.to ⟨Z,Z,Z,Z,Z,Z,aq⟩ Z) ?_ (fun i hi=>?_))))))))))))))))
 exact fg _
 refine af (js Z (jn (ah (ar Z (fun z15=>?_) (fun z15=>?_)))))
 try simp only[bL]at z15
 refine al (ah (ak (af (js Z (uA Z Z (js Z (jl Z (js Z (jo Z (jn (ah ?_)))))))))))
 have hi0:=hi
 have hts:=dL (hc.get (show i<ts.length by omega))
 have hd1:=lE (f:=Tm.c) (ts:=ts) (ms:=ms) (fun t ht=>(dL (hc.ok t ht)).c) hm hi (by omega)
 have hd2:=dv (f:=Tm.c) (ts:=ts) (ms:=ms) (i:=i) (by omega) (by omega)
 have hmi:dT (ms.getD i default)=true:=by rw[am (by omega)];exact List.all_eq_true.1 hm _ (List.getElem_mem _)
 have hmu:=cG hmi hts.c
 refine lU [_,_,_,_,_,_,_,_,_,_,_,_] [bc,ay [0],bc,bc,ay [2,3],ay [2,3,4],bc,ay [6],ay (rg 2 6),ay (rg 0 9),ay (rg 0 10),pe (rg 0 11) 0] [11] [_,_] (eR Z (ai (vN Z) (kc Z (kc Z (kc Z (ai (vF Z) (ai (vF Z) (kc Z (ai (eS Z Z Z) trivial))))))))) ?_
 refine jw [6,7,18,15,1,4,5,12,13,14] Z (ie ?_)
 refine af (ac Z (eh Z (js Z (jn (ak (av (X:=Nat) (fun j=>⟨[(1,bD ms),(4,.c (.pt 4 0 0)),(5,.c (.pt 5 0 0)),(12,cO ts),(13,eI ts.length),(14,eI i),(6,eI i),(31,bD (ts.getD i default).xs),(32,eI (ts.getD i default).xs.length),(33,eI j)],[(4,.box [.d (.int .i64 0),.d .nils]),(5,.box [.d (.int .i64 (ba Tm.c (ts.take i) (ms.take i)+ms.getD i default*(ts.getD i default).c)),.rs 10 0 10]),(10,eA (ej ts ms i j))]⟩) (fun j=>j≤(ts.getD i default).xs.length) (fun j=>(ts.getD i default).xs.length-j) 0 (((ap [4,5,10] (e':=[(1,_),(4,_),(5,_),(12,_),(13,_),(14,_),(6,_),(31,_),(32,_),(33,_)]) Z Z ⟨Z,Z,Z,Z,Z,Z,Z,Z,Z,Z,aq⟩ Z)).trans (Ent.to ⟨Z,Z,Z,Z,Z,Z,Z,Z,Z,Z,aq⟩ (by rw[ph];rfl))) ?_ (fun j hi=>?_)))))))
 exact fg _
 refine af (js Z (jn (ah (ar Z (fun z34=>?_) (fun z34=>?_)))))
 try simp only[bL]at z34
 refine al (ah (ak (af (js Z (uA Z Z (aW Z (jn ?_)))))))
 have hjl:j<10:=by have:=tT (hc.get (show i<ts.length by omega));omega
 have hpj:=mo (ts:=ts) (ms:=ms) (i:=i) hjl
 have hps:=pi (ts:=ts) (ms:=ms) (i:=i) hjl
 have hpl:=da (ts:=ts) (ms:=ms) (i:=i) (j:=j)
 have hd3:=lE (f:=cE j) (ts:=ts) (ms:=ms) (fun t ht=>(dL (hc.ok t ht)).get j) hm hi0 (by omega)
 have hmx:=cG hmi (hts.get j)
 rw[show(ts.getD i default).xs.getD j 0=(ts.getD i default).xs.getD j default from Z]at hmx
 refine lU [_,_,_,_,_,_,_,_,_,_,_,_,_,_] [bc,ay [0],bc,ay [0,1,2],ay (rg 0 4),bc,bc,ay [5,6],ay [5,6,7],bc,ay (rg 5 5),ay (rg 0 11),ay (rg 0 12),pe (rg 0 13) 0] [13] [_,_] (kc Z (kc Z (kc Z (ai (vI Z Z) (ai (dc O (ex:=[.int .i64 ((ej ts ms i j).getD j default)]) Z Z Z Z (uJ (by omega)) Z) (kc Z (kc Z (ai (vN Z) (kc Z (kc Z (ai (vF Z) (ai (vF Z) (ai (vI Z Z) (ai (ic (ex:=[.int .i64 ((ej ts ms i j).getD j default)]) (xs':=(ej ts ms i (j+1)).map (fun n=>[D.int .i64 n])) O Z Z Z Z Z Z Z Z Z Z Z Z Z Z Z (uJ (by omega)) (by rw[←hps,List.map_set];simp only[Int.toNat_natCast,Nat.zero_add];rfl) Z) trivial)))))))))))))) ?_
 refine jw [34,1,4,5,12,13,14,6,31,32,33] Z (ie ?_)
 refine ag (ji Z (js Z (jn ?_)))
 refine⟨j+1,Ent.to ⟨Z,Z,Z,Z,Z,Z,Z,Z,Z,Z,aq⟩ Z,by omega,by omega⟩
 try simp only[bL]at z34
 refine bg (ag (ji Z (js Z (jn ?_))))
 refine⟨i+1,((ap [4,5,10] (e':=[(1,_),(4,_),(5,_),(12,_),(13,_),(14,_)]) Z Z ⟨Z,Z,Z,Z,Z,Z,aq⟩ Z)).trans (Ent.to ⟨Z,Z,Z,Z,Z,Z,aq⟩ ?_),by omega,by omega⟩
 rw[hd2,←qU (j:=j) (by omega) (by omega) (by omega)];rfl
 try simp only[bL]at z15
 refine bg (af ?_)
 obtain rfl:i=ts.length:=by omega
 have hcl:=lN (ts:=ts.take ts.length) (ms:=ms.take ts.length)
 refine aA (Ent.freeze 10 (e':=[(5,_),(4,_)]) Z (fe [5,4] Z) (bu Z (.cons Z (.box (uE Z (.cons (.row Z (by rw[cj,hcl])) .nil))) (.skip .nil)))) ?_
 refine js Z (ab O Z Z Z Z (uL (t:=⟨ba Tm.c (ts.take ts.length) (ms.take ts.length),bC (ts.take ts.length) (ms.take ts.length)⟩) h1 h2) (aa Z) Z Z Z Z (B0:=55000) Z Z (jo Z (jr ?_)))
 refine aC Z ?_
 have e1:ba Tm.c (ts.take ts.length) (ms.take ts.length)=ba Tm.c ts ms:=jN hle
 have e2:bC (ts.take ts.length) (ms.take ts.length)=bC ts ms:=pu hle
 rw[e1,e2]
 exact .v (.agg (aK Z))
theorem wK{t:Tm}(h:t.ok=true):CtxOk [t]:=⟨fun u hu=>by simp at hu;subst hu;exact h,by simp⟩
theorem wJ{t:Tm}(h:Small t): -1000000≤ba Tm.c [t] [-1]∧ba Tm.c [t] [-1]≤1000000:=by
 have:=wc.1 h.c
 show -1000000≤ -1*t.c+0∧ -1*t.c+0≤1000000
 omega
theorem tu(ht:t.ok=true):MQ h1 h2 76 [cP t] [] (Plain (cP (bq t))):=by
 refine MC.data (jB 13 h1 h2 Tryz.func76 Z fun O hF=>?_)
 have hd1:=wJ (dL ht)
 refine af (jx Z (jl Z (aZ (js Z (aI (aP O Z Z Z Z Z Z Z Z Z Z Z) Z (aI (HS.lit O Z Z Z) Z (aA (Ent.freeze 5 (e':=[(6,_),(5,_),(2,_)]) Z (.cons Z (.keep Z) (.cons Z (.c (.row Z Z)) (fe [2] Z))) (bu Z (bu Z (.skip (eT Z .nil))))) ?_)))))))
 refine aA (Ent.freeze 6 (e':=[(6,_),(5,_),(2,_)]) Z (.cons Z (.c (.row Z Z)) (fe [5,2] Z)) (bu Z (bu Z (.skip .nil)))) ?_
 refine ab O Z Z Z Z (tn (ts:=[t]) (ms:=[-1]) h1 h2 (wK ht) (by decide) (bP 1)) (aa Z) Z Z Z Z (B0:=8000) Z Z (jl Z (jo Z (aZ (ac Z (ji Z (js Z (jo Z (aZ (js Z (jo Z (jr ?_)))))))))))
 refine aC Z ?_
 exact .v (.agg (aK Z))
theorem tw:MQ h1 h2 35 [kj s] [] (Plain (uH (bT s))):=by
 refine MC.data (jB 23 h1 h2 Tryz.func35 Z fun O hF=>?_)
 refine af (jx Z (ac Z (jn (ah (af (js Z (bE Z (wZ (s:=s) h1 h2) 6000 Z (ac Z (aG 5 Z Z Z (fun hx=>aB hx Z (aB hx Z (pO O hx Z Z Z Z (tu (t:=s.goal) h1 h2 (eH (by simpa using hx)).2.2) (aa Z) (B0:=11000) Z Z Z Z Z Z Z Z (cH O hx Z Z Z Z (k8 (t:=bq s.goal) h1 h2) (aa Z) Z Z Z Z Z Z Z (B0:=12000) Z (aB hx Z (AN.nil)))))) Z Z (aj (aD O Z Z Z Z Z) Z (jn (ar Z (fun z13=>?_) (fun z13=>?_)))))))))))))
 refine af (ac Z (jr ?_))
 refine aC Z ?_
 have hg:(ii s&&(bq s.goal).ok)=false:=by have h9:=z13;rw[g2]at h9;exact nt h9
 rw[show bT s=([],false)from if_neg (by rw[hg];decide)]
 exact .tup (.cons (.c .nils) (.cons (.c .d) .nil))
 refine al (ah (jw [1,0] Z ?_))
 have hg:(ii s&&(bq s.goal).ok)=true:=by have h9:=z13;rw[g2]at h9;exact nf h9
 have hsq:=(aN _ _ ▸ hg).1
 obtain⟨hs1,hs2,hs3⟩:=eH hsq
 refine xk [_,_,_,_,_,_,_,_,_,_,_] [bc,ay [0],pe [0,1] 0,pn [] 0 1,pn [3] 0 1,pe (rg 0 5) 1,pe (rg 0 6) 2,pe (rg 0 7) 3,pe (rg 0 8) 4,pn (rg 0 9) 5 5,pn (rg 0 10) 5 5] [2,5,6,7,8] [_,_,_,_,_,_] [[],[],[],[],[17000]] (ka Z Z (ka Z Z (ai (ai (bm (eQ O (B0:=17000) Z Z Z Z (wO (ts:=s.facts) h1 h2) (aa Z) Z Z Z Z)) Z) (ai (ka Z Z (kw Z Z)) (ai (ka Z Z (kw Z Z)) (ai (ai (bm (bA O (B0:=20000) Z Z Z Z (tu (t:=s.goal) h1 h2 hs3) (aa Z) Z Z Z Z Z)) Z) (ai (ai (bm (bA O (B0:=21000) Z Z Z Z (rL (t:=bq s.goal) h1 h2) (aa Z) Z Z Z Z Z)) Z) (ai (ai (bm (eG O Z Z Z Z Z Z Z Z Z Z Z Z Z Z)) Z) (ai (ai (ef (own:=false) (xs:=s.facts.map Tm.cells) (ys:=[Tm.cells (bq s.goal)]) (zs:=(s.facts++[bq s.goal]).map Tm.cells) (n:=(s.facts++[bq s.goal]).length) O Z Z Z Z Z Z Z Z Z Z Z Z Z Z Z Z (.row Z (cj _).symm) (.whole Z Z (.inr ⟨Z,Z⟩)) (by simp) Z (by simp;omega) (by simp;omega) (by simp) (by simp) Z) Z) (ka Z Z (ka Z Z trivial))))))))))) ?_
 refine jw [3,2,1,0] Z (ie ?_)
 refine lX ?_
 refine aC Z ?_
 rw[show bT s=(s.facts++[bq s.goal],true)from if_pos hg]
 exact .tup (.cons (.c (.whole Z (cj _).symm)) (.cons (.c .d) .nil))
theorem w6:MQ h1 h2 165 [eI n] [] (Plain (eI n)):=by
 refine aH ?_ Z
 refine jB 4 h1 h2 Tryz.func165 Z fun O hF=>?_
 refine af (js Z (aZ (ac Z (jr ?_))))
 refine aC Z ?_
 first|rfl|skip
theorem c90{k:Int}{n:Nat}(hn:n≤1073741824):MQ h1 h2 126 [eI k,eI n] [] (Plain (eB (jg 0 ((n:Int)-1) k))):=by
 refine aH ?_ Z
 refine jB 10 h1 h2 Tryz.func126 Z fun O hF=>?_
 refine af (js Z (aZ (ac Z (bE Z (w6 (n:=n) h1 h2) 8000 Z ?_))))
 first|refine ji Z ?_|refine cf Z Z ?_
 refine bE Z (qb h1 h2) 10000 Z (js Z (jr ?_))
 refine aC Z ?_
 first|rfl|skip
theorem uO{ctx:List Tm}(hc:CtxOk ctx)(hm:ms.all dT=true):MQ h1 h2 36 [cO ctx,bD ms] [] (Plain (eB (bd ctx ms))):=by
 refine aH ?_ Z
 refine jB 23 h1 h2 Tryz.func36 Z fun O hF=>?_
 refine af (js Z (jn (ah (af (js Z ?_)))))
 first|refine eh Z ?_|refine js Z ?_|refine cf Z Z ?_
 refine js Z ?_
 first|refine eh Z ?_|refine js Z ?_|refine cf Z Z ?_
 refine js Z (jn (ar Z (fun z10=>?_) (fun z10=>?_)))
 try simp only[bL]at z10
 refine af (js Z (jr ?_))
 refine aC Z ?_
 rw[bd,decide_eq_false (by omega),Bool.false_and]
 try simp only[bL]at z10
 refine al (af (ac Z (ab O Z Z Z Z (tn (ts:=ctx) (ms:=ms) h1 h2 hc hm (by omega)) (aa Z) Z Z Z Z (B0:=14000) Z Z (jl Z (jo Z (aZ (ac Z ?_)))))))
 first|refine eh Z ?_|refine js Z ?_|refine cf Z Z ?_
 refine ac Z (aG 3 Z Z Z (fun hx=>aB hx Z (aB hx Z (aB hx Z (AN.nil)))) Z Z ?_)
 first|refine aj (aw O Z Z Z Z Z) Z ?_|refine aj (aD O Z Z Z Z Z) Z ?_|refine aj (Val.pickB O Z Z Z Z Z) Z ?_
 refine js Z (jr ?_)
 refine aC Z ?_
 rw[bd,decide_eq_true (show ms.length=ctx.length by omega),Bool.true_and,Bool.cond_false_right,show decide (((l5 ctx ms).xs.length:Int)=0)=decide ((aS (bC ctx ms)).length=0)from decide_eq_decide.2 (by show((aS (bC ctx ms)).length:Int)=0↔_;omega)]
variable{r:List Tm}
theorem uM{c:Tm}(hl:(c::r).length≤1000):MQ h1 h2 164 [cO (c::r)] [] (Rows (.c (.rs 0 0 (c::r).length)) [oW (c::r)]):=by
 refine eY (jB 8 h1 h2 Tryz.func164 Z fun O hF=>?_)
 refine af (js Z (jn (ah (af (ac Z (jn (ar Z (fun z4=>?_) (fun z4=>?_))))))))
 exact pU z4
 refine al (af (aI (HS.lit O Z Z Z) Z (js Z (aA (kX 5 Z) (aI (cw (own:=false) (zs:=(c::r).map Tm.cells) (n:=(c::r).length) O Z (.row Z Z) (.slc (.inl Z)) (by simp) Z (by simp at hl ⊢;omega) (by simp at hl ⊢;omega) Z (by simp)) Z (js Z (jr ?_)))))))
 refine⟨.inl Z,_,cn,_,Z,[7],by decide,Z,Z,Z⟩
theorem tq{c:Tm}(hl:(c::r).length≤1000):MQ h1 h2 125 [cO (c::r),cP t] [] (Plain (cO (c::r++[t]))):=by
 refine MC.data (jB 10 h1 h2 Tryz.func125 Z fun O hF=>?_)
 refine af (jx Z (js Z (jn (ah (jw [3,0,1] Z (v9 [_,_,_,_,_,_] [bc,pe [0] 0,pn [] 0 1,pn [2] 0 1,pe [0,1,2,3] 1,pn [0,1,2,3,4] 2 2] [1,4] 3 8 (.row false 2 [Tm.cells t]) [_,_] [_] [[],[7000]] (kf Z Z Z (ai (ai (bo (bm (eQ O (B0:=7000) Z Z Z Z (uM (c:=c) (r:=r) h1 h2 hl) (aa Z) Z Z Z Z)) (bm (eQ O (B0:=7000) Z Z Z Z (uM (c:=c) (r:=r) h1 h2 hl) (aa Z) Z Z Z Z))) Z) (ai (kf Z Z Z (kg Z Z Z)) (ai (ai (ai (bm (eG O Z Z Z Z Z Z Z Z Z Z Z Z Z Z)) Z) (ai (bm (eG O Z Z Z Z Z Z Z Z Z Z Z Z Z Z)) Z)) (ai (ai (bo trivial (ef (own:=false) (xs:=(c::r).map Tm.cells) (ys:=[Tm.cells t]) (zs:=(c::r++[t]).map Tm.cells) (n:=(c::r++[t]).length) O Z Z Z Z Z Z Z Z Z Z Z Z Z Z Z Z (.row Z (cj _).symm) (.whole Z Z (.inr ⟨Z,Z⟩)) (by simp) Z (by simp at hl ⊢;omega) (by simp at hl ⊢;omega) (by simp) (by simp) Z)) Z) (ai (ai (bo trivial (V Z)) Z) trivial)))))) ?_))))))
 refine jw [4,1] Z (ie ?_)
 refine lX ?_
 refine aC Z ?_
 exact .v (.c (.whole Z (cj _).symm))
theorem rJ{x:Int}(hx: -1000000≤x∧x≤1000000):MQ h1 h2 114 [eI x] [] (Plain (eI x.natAbs)):=by
 refine aH ?_ Z
 refine jB 7 h1 h2 Tryz.func114 Z fun O hF=>?_
 refine af (js Z (aZ (ac Z (ji Z (ac Z (jr ?_))))))
 refine aC Z ?_
 exact congrArg eI (show(if 0-x>x then 0-x else x)=(x.natAbs:Int) by split<;>omega)
def rE(c g:Int):Int:=if c.tmod g<0 then c.tdiv g-1 else c.tdiv g
abbrev tiI(t:Tm):Tm:=⟨rE t.c (bQ t.xs),t.xs.map fun x=>x.tdiv (bQ t.xs)⟩
def gm(t:Tm):Tm×Bool:=if bQ t.xs<2 then(⟨0,[]⟩,false)else(tiI t,true)
def di(n:Nd):Int:=if cQ n=true then(if n.kind=1 then 0 else if n.kind=2 then 2 else 1)else -1
variable{xs:List Int}
theorem wU(ht:xs.all dT=true):MQ h1 h2 166 [bD xs] [] (Plain (eI (bQ xs))):=by
 refine aH ?_ Z
 refine jB 26 h1 h2 Tryz.func166 Z fun O hF=>?_
 have hl:xs.length≤L:=by simpa[As.fact,A.fact,M.fact,D.fact,Ds.fact]using hF.1.1
 refine af (js Z (aZ (js Z (jn (ah (af (js Z (eh Z (js Z (jn (ak (av (X:=Nat) (fun i=>⟨[(3,eI (bQ (xs.take i))),(8,bD xs),(9,eI xs.length),(10,eI i)],[]⟩) (fun i=>i≤xs.length) (fun i=>xs.length-i) 0 (Ent.env ⟨Z,Z,Z,Z,aq⟩) ?_ (fun i hi=>?_)))))))))))))
 exact fg _
 refine af (js Z (jn (ah (ar Z (fun z11=>?_) (fun z11=>?_)))))
 try simp only[bL]at z11
 refine al (ah (ak (af ?_)))
 have hi0:=hi
 have hx:=wc.1 (List.all_eq_true.1 ht _ (List.getElem_mem (show i<xs.length by omega)))
 rw[←am (by omega)]at hx
 have hgs:=iB (xs:=xs) (i:=i) (by omega)
 have hgl:=lB ht hi
 refine aj (bi O Z Z Z Z Z Z Z Z (gG (by omega))) Z (ac Z (aZ (ac Z (bE Z (rJ (x:=xs.getD i default) h1 h2 hx) 17000 Z (ac Z (jn (ah (ak (av (X:=Nat×Nat) (fun z=>⟨[(8,bD xs),(9,eI xs.length),(10,eI i),(6,eI z.1),(7,eI z.2)],[]⟩) (fun z=>Nat.gcd z.1 z.2=Nat.gcd (bQ (xs.take i)) (xs.getD i default).natAbs∧z.1≤1000000∧z.2≤1000000) (fun z=>z.2) (bQ (xs.take i),(xs.getD i default).natAbs) (Ent.env ⟨Z,Z,Z,Z,Z,aq⟩) ?_ (fun z hi=>?_))))))))))
 exact⟨Z,hgl,by show(xs.getD i default).natAbs≤1000000;omega⟩
 have hz:=i9 (a:=z.1) (b:=z.2) (by omega)
 refine ah (af (ac Z (jn (ar Z (fun z18=>?_) (fun z18=>?_)))))
 try simp only[bL]at z18
 refine al (ak (pH O _ [_,_,_,_,_,_] [bc,bc,bc,ay [1,2],ay [0,1],ay (rg 0 5)] [] [[],[],[6],[6],[],[6]] [_] Z Z (by decide) (by decide) (by kernel_rfl) (kc Z (kc Z (kc Z (ai (eM O Z Z Z Z (by omega) (by omega) (by omega)) (kc Z (kc Z trivial)))))) ?_))
 have hm:z.1%z.2<z.2:=Nat.mod_lt _ (by omega)
 refine⟨(z.2,z.1%z.2),Ent.env ⟨Z,Z,Z,Z,Z,aq⟩,⟨?_,hi.2.2,by show z.1%z.2≤1000000;omega⟩,hm⟩
 show Nat.gcd z.2 (z.1%z.2)=_
 rw[←hi.1,Nat.gcd_comm z.2,←Nat.gcd_rec,Nat.gcd_comm]
 try simp only[bL]at z18
 refine bg (ag (ac Z (jn (ag (ji Z (js Z (jn ?_)))))))
 have hz0:z.2=0:=by omega
 have hz1:z.1=bQ (xs.take (i+1)):=by rw[hgs,←hi.1,hz0,Nat.gcd_zero_right]
 rw[hz1]
 exact⟨i+1,Ent.env ⟨Z,Z,Z,Z,aq⟩,by omega,by omega⟩
 try simp only[bL]at z11
 refine bg (af (ac Z (jr ?_)))
 refine aC Z ?_
 obtain rfl:i=xs.length:=by omega
 rw[List.take_length]
theorem wT{a b:Int}(ha: -1000000≤a∧a≤1000000)(hb:b≠0):MQ h1 h2 167 [eI a,eI b] [] (Plain (eI (rE a b))):=by
 refine aH ?_ Z
 refine jB 16 h1 h2 Tryz.func167 Z fun O hF=>?_
 have hq:=gL (b:=b) ha
 have hr:=i9 (b:=b) ha
 refine af (js Z (aZ (ac Z (aj (vQ Z Z Z Z) Z (js Z (jn (ah (af (ac Z (aj (vR Z Z Z Z) Z (js Z (jn (ar Z (fun z12=>?_) (fun z12=>?_))))))))))))))
 try simp only[bL]at z12
 refine ag (js Z (ji Z (js Z (aZ (ac Z (jr ?_))))))
 refine aC Z ?_
 rw[rE,if_pos z12]
 try simp only[bL]at z12
 refine al (af (ac Z (jr ?_)))
 refine aC Z ?_
 rw[rE,if_neg (by omega)]
theorem vH:MQ h1 h2 78 [cP t] [] (Rows (.agg [.d (.int .i64 t.c),.rs 0 0 t.xs.length]) [eA t.xs]):=by
 refine eY (jB 9 h1 h2 Tryz.func78 Z fun O hF=>?_)
 refine af (jx Z (jl Z (jn (ah (lU [_,_,_,_,_,_,_] [pn [] 0 1,pn [0] 0 1,bc,ay [2],pe [2,3] 0,pn (rg 0 5) 1 1,pe (rg 0 6) 1] [4,6] [_,_,_] (ai (kc Z (V Z)) (ai (kc Z (V Z)) (kc Z (kc Z (ai (ry O (B0:=8000) Z Z Z Z (uQ (xs:=t.xs) h1 h2) (aa Z) Z Z Z Z Z) (kc Z (ai (eS Z Z Z) trivial))))))) ?_)))))
 refine lX ?_
 refine⟨.inl Z,_,cn,_,Z,[8000],by decide,Z,Z,Z⟩
def nT(xs:List Int)(g:Int)(i:Nat):List Int:=(xs.take i).map (fun x=>x.tdiv g)++xs.drop i
theorem q7{xs g}:nT xs g 0=xs:=by simp[nT]
theorem sm{xs:List Int}{g:Int}:nT xs g xs.length=xs.map fun x=>x.tdiv g:=by simp[nT]
theorem jX{xs g i}:(nT xs g i).length=xs.length:=by simp[nT];omega
theorem oA{xs:List Int}{g:Int}{i:Nat}(h:i<xs.length):((nT xs g i).map fun n=>[D.int .i64 n])[i]? = some [.int .i64 (xs.getD i default)]:=by
 rw[List.getElem?_map,nT,List.getElem?_append_right (by simp;omega),cj,List.length_take,Nat.min_eq_left (Nat.le_of_lt h),Nat.sub_self,List.getElem?_drop,Nat.add_zero,List.getElem?_eq_getElem h,am h]
 rfl
theorem q8{xs:List Int}{g:Int}{i:Nat}(h:i<xs.length):(nT xs g i).set i ((xs.getD i default).tdiv g)=nT xs g (i+1):=by
 have hl:((xs.take i).map fun x=>x.tdiv g).length=i:=by simp;omega
 rw[nT,List.set_append_right _ _ (by omega),hl,Nat.sub_self,nT,List.take_succ_eq_append_getElem h,List.drop_eq_getElem_cons h,List.set_cons_zero,am h,List.map_append,dz]
 rfl
theorem wY(ht:Small t):MQ h1 h2 127 [cP t] [] (Plain (fi (gm t))):=by
 refine MC.data (jB 36 h1 h2 Tryz.func127 Z fun O hF=>?_)
 have hl:t.xs.length≤L:=by simpa[As.fact,A.fact,M.fact,Ms.fact,D.fact,Ds.fact]using hF.1.2.1.1
 have z0:=wc.1 ht.c
 refine af (jx Z (au ?_))
 refine jl Z (au ?_)
 refine js Z (aZ (ac Z (bE Z (wU (xs:=t.xs) h1 h2 ht.xs) 10000 Z (js Z (jn (ah (af (ac Z (jn (ar Z (fun z11=>?_) (fun z11=>?_)))))))))))
 try simp only[bL]at z11
 refine af (js Z (jo Z (au ?_)))
 refine js Z (jr ?_)
 refine aC Z ?_
 rw[show gm t=(⟨0,[]⟩,false)from if_pos (by omega)]
 exact .tup (.cons (.agg (.cons .d (.cons .nils .nil))) (.cons (.c .d) .nil))
 try simp only[bL]at z11
 refine al (af ?_)
 obtain⟨g,hg⟩: ∃g:Int,g=(bQ t.xs:Int):=⟨_,rfl⟩
 rw[←hg]
 rw[←hg]at z11
 refine js Z (iG O (B0:=15000) Z Z Z Z (vH (t:=t) h1 h2) (aa Z) Z Z Z Z Z Z (au ?_))
 refine jl Z (au ?_)
 refine jo Z (au ?_)
 refine aZ (aW Z (bE Z (wT (a:=t.c) (b:=g) h1 h2 z0 (by omega)) 19000 Z (js Z (jo Z (au ?_)))))
 refine jn (ah (af (ac Z (cf Z Z (js Z (jn (ak (av (X:=Nat) (fun i=>⟨[(2,.c (.pt 2 0 0)),(4,eI g),(5,.c (.pt 5 0 0)),(22,eI t.xs.length),(23,eI i)],[(2,.box [.d (.int .i64 0),.d .nils]),(5,.box [.d (.int .i64 (rE t.c g)),.rs 15000 0 t.xs.length]),(15000,eA (nT t.xs g i))]⟩) (fun i=>i≤t.xs.length) (fun i=>t.xs.length-i) 0 (((ap [2,5,15000] (e':=[(2,_),(4,_),(5,_),(22,_),(23,_)]) Z Z ⟨Z,Z,Z,Z,Z,aq⟩ Z)).trans (Ent.to ⟨Z,Z,Z,Z,Z,aq⟩ (by rw[q7];rfl))) ?_ (fun i hi=>?_)))))))))
 exact fg _
 refine af (js Z (jn (ah (ar Z (fun z24=>?_) (fun z24=>?_)))))
 try simp only[bL]at z24
 refine al (ah (ak (af (ac Z (jn (ag ?_))))))
 have hx:=gL (b:=g) (wc.1 (List.all_eq_true.1 ht.xs _ (List.getElem_mem (show i<t.xs.length by omega))))
 rw[←am (by omega)]at hx
 have hkl:=jX (xs:=t.xs) (g:=g) (i:=i)
 refine aW Z (cf Z Z (aj (dc O (ex:=[.int .i64 (t.xs.getD i default)]) Z Z Z Z (by rw[Nat.zero_add];exact oA (by omega)) Z) Z (js Z (aj (vQ Z Z Z Z) Z (cf Z Z (aI (fR (ex:=[.int .i64 (t.xs.getD i default)]) (xs':=(nT t.xs g (i+1)).map (fun n=>[D.int .i64 n])) O Z Z Z Z Z Z Z Z Z Z Z Z Z Z (by rw[Nat.zero_add];exact oA (by omega)) (by rw[←q8 (by omega),List.map_set,Nat.zero_add];rfl)) Z (au ?_)))))))
 refine jn (ag (ji Z (js Z (jn ?_))))
 refine⟨i+1,Ent.to ⟨Z,Z,Z,Z,Z,aq⟩ Z,by omega,by omega⟩
 try simp only[bL]at z24
 refine bg (af (js Z (jo Z (au ?_))))
 refine js Z (jr ?_)
 refine aC Z ?_
 obtain rfl:i=t.xs.length:=by omega
 rw[show gm t=(⟨rE t.c g,t.xs.map fun x=>x.tdiv g⟩,true) by rw[hg];exact if_neg (by omega)]
 have hkl:=jX (xs:=t.xs) (g:=g) (i:=t.xs.length)
 exact .tup (.cons (.agg (.cons .d (.cons (.whole (by rw[←sm];rfl) (by simp)) .nil))) (.cons (.c .d) .nil))
theorem xf{n:Nd}(h:n.kind=1):cQ n=((decide (n.fact=0)&&n.term.zero)&&kl n.mul):=by rw[cQ,if_pos h]
theorem xe{n:Nd}(h:n.kind=2):cQ n=((decide (n.fact=0)&&n.term.ok)&&decide ((n.mul.length:Int)=0)):=by rw[cQ,if_neg (by omega),if_pos h]
theorem xd{n:Nd}(h:n.kind=3):cQ n=((jg 0 19 n.fact&&n.term.zero)&&decide ((n.mul.length:Int)=0)):=by rw[cQ,if_neg (by omega),if_neg (by omega),if_pos h]
theorem eK{n:Nd}(h:cQ n=false):di n= -1:=by rw[di,if_neg (by rw[h];decide)]
theorem cK{n:Nd}(h:cQ n=true):di n=if n.kind=1 then 0 else if n.kind=2 then 2 else 1:=by rw[di,if_pos h]
theorem xp{a b c d:Bool}:(bif bif bif a then b else false then c else false then d else false)=((a&&b)&&(d&&c)):=by cases a<;>cases b<;>cases c<;>cases d<;>rfl
theorem xo{a b c:Bool}:(bif bif a then b else false then c else false)=((a&&c)&&b):=by cases a<;>cases b<;>cases c<;>rfl
theorem xn{a b c:Bool}:(bif bif a then b else false then c else false)=((a&&b)&&c):=by cases a<;>cases b<;>cases c<;>rfl
def dX(f:Nat→Option (Nat×Int)):Nat→Nat→Int→Option (Nat×Int)
  | 0,k,d=>some (k,d)
  | q + 1,k,d=>match f k with
    | none=>none
    | some (k',b)=>dX f q k' (if b>d then b else d)
def cC : Nat→List Nd→Nat→Option (Nat×Int)
  | 0,_,_=>none
  | n + 1,p,k=>if p.length≤k then none else if di (p.getD k default)<0 then none else
      (dX (cC n p) (di (p.getD k default)).toNat (k+1) 0).map fun r=>(r.1,r.2+1)
theorem bV{f:Nat→Option (Nat×Int)}{q k k':Nat}{d b:Int}(h:f k=some (k',b)):dX f (q+1) k d=dX f q k' (if b>d then b else d):=by rw[dX,h]
theorem dM{f:Nat→Option (Nat×Int)}{q k:Nat}{d:Int}(h:f k=none):dX f (q+1) k d=none:=by rw[dX,h]
theorem jG{f:Nat→Option (Nat×Int)}{N:Nat}(hf: ∀k b k',f k=some (k',b)→k<k'∧k'≤N∧0≤b∧b≤(k':Int)-k): ∀{q k:Nat} {d d':Int} {k' s:Nat},dX f q k d=some (k',d')→k≤N→s≤k→0≤d→d≤(k:Int)-s→k≤k'∧k'≤N∧0≤d'∧d'≤(k':Int)-s
 | 0,k,d,d',k',s,h,hk,hs,h0,h1=>by simp only[dX,du,Prod.mk.injEq]at h;omega
 | q + 1,k,d,d',k',s,h,hk,hs,h0,h1=>by
  cases hx:f k with
  | none=>rw[dM hx]at h;cases h
  | some x=>
   obtain⟨k1,b⟩:=x
   rw[bV hx]at h
   have h3:=hf k b k1 hx
   have h4:=jG hf h h3.2.1 (s:=s) (by omega) (by split<;>omega) (by split<;>omega)
   omega
theorem je: ∀{n:Nat} {p:List Nd} {k k':Nat} {d:Int},cC n p k=some (k',d)→k<k'∧k'≤p.length∧0≤d∧d≤(k':Int)-k
 | 0,_,_,_,_,h=>by cases h
 | n+1,p,k,k',d,h=>by
  unfold cC at h
  split at h
  cases h
  split at h
  cases h
  simp only[Option.map_eq_some_iff]at h
  obtain⟨⟨k2,d2⟩,h1,h2⟩:=h
  simp only[Prod.mk.injEq]at h2
  have:=jG (N:=p.length) (fun k b k' h=>je h) h1 (by omega) (bP _) (Int.le_refl 0) (by omega)
  omega
abbrev eN(r:Option (Nat×Int)):Int:=match r with|some (k,_)=>k|none=>0
abbrev eD(r:Option (Nat×Int)):Int:=match r with|some (_,d)=>d|none=>0
abbrev eO(r:Option (Nat×Int)):Bool:=match r with|some _=>true|none=>false
abbrev tf(r:Option (Nat×Int)):A:=.tup [eI (eN r),eI (eD r),eB (eO r)]
theorem lD{r:Option (Nat×Int)}(h:eO r=true): ∃k d,r=some (k,d):=by
 cases r with
 | none=>cases h
 | some x=>exact⟨x.1,x.2,Z⟩
theorem rj{r:Option (Nat×Int)}(h:eO r=false):r=none:=by
 cases r with
 | none=>rfl
 | some x=>cases h
theorem ra(n:Nd):di n≤2:=by unfold di;split<;>(try split)<;>(try split)<;>decide
def ku(p:List Nd):Bool:=decide ((p.length:Int)≤60)&&(eO (cC (p.length+1) p 0)&&decide (eN (cC (p.length+1) p 0)=p.length))
theorem wV{n:Nd}:MQ h1 h2 73 [wi n] [] (Plain (eI (di n))):=by
 refine aH ?_ Z
 refine jB 59 h1 h2 Tryz.func73 Z fun O hF=>?_
 have hl:n.mul.length≤L:=by simpa[As.fact,A.fact,M.fact,Ms.fact,D.fact,Ds.fact]using hF.1.2.2.2.2.1.1
 refine af (jx Z (js Z (jn (ah (lU [_,_,_,_,_,_,_,_,_,_,_,_,_] [pn [] 0 1,pn [0] 0 1,pn [0,1] 0 1,bc,ay [3],pe [3,4] 0,pn [] 0 1,pn [6] 0 1,pn [6,7] 0 1,pn [6,7,8] 0 1,pn (rg 0 6) 1 1,pn (rg 0 6++[10]) 1 1,pn (rg 0 12) 1 1] [5] [_,_] (ai (kc Z (V Z)) (ai (kc Z (V Z)) (ai (kc Z (V Z)) (kc Z (kc Z (ai (cr O (B0:=13000) Z Z Z Z (wS h1 h2) (aa Z) Z Z Z Z Z) (ai (kc Z (V Z)) (ai (kc Z (V Z)) (ai (ai (bO O Z Z Z Z Z Z Z Z) (bO O Z Z Z Z Z Z Z Z)) (ai (kc Z (V Z)) (kc Z (kc Z (kc Z trivial))))))))))))) ?_)))))
 refine jw [5,4,3,2,1,0] Z (ie ?_)
 refine af (js Z (jn (ah (af (ac Z (jn (ak (af (ac Z (jn (ar Z (fun z19=>?_) (fun z19=>?_))))))))))))
 refine af (ac Z (jf [22,20,18,17,6,5,4,3,2,1,0] Z (aG 1 Z Z Z (fun hx=>aB hx Z (AN.nil)) Z Z ?_)))
 first|refine aj (aw O Z Z Z Z Z) Z ?_|refine aj (aD O Z Z Z Z Z) Z ?_|refine aj (Val.pickB O Z Z Z Z Z) Z ?_
 refine js Z (jf [25,20,18,17,6,5,4,3,2,1,0] Z (aG 4 Z Z Z (fun hx=>aB hx Z (aB hx Z (dU hx (bO O Z Z Z Z Z Z Z Z) Z (aB hx Z (AN.nil))))) Z Z ?_))
 first|refine aj (aw O Z Z Z Z Z) Z ?_|refine aj (aD O Z Z Z Z Z) Z ?_|refine aj (Val.pickB O Z Z Z Z Z) Z ?_
 refine js Z (jf [31,20,18,17,6,5,4,3,2,1,0] Z (aG 3 Z Z Z (fun hx=>aB hx Z (aB hx Z (cH O hx Z Z Z Z (uR h1 h2) (aa Z) Z Z Z Z Z Z Z (B0:=35000) Z (AN.nil)))) Z Z ?_))
 first|refine aj (aw O Z Z Z Z Z) Z ?_|refine aj (aD O Z Z Z Z Z) Z ?_|refine aj (Val.pickB O Z Z Z Z Z) Z ?_
 refine jf [35,20,18,17,6,5,4,3,2,1,0] Z (jn (ar Z (fun z35=>?_) (fun z35=>?_)))
 refine ag (js Z (jn (af (ac Z (jf [2,20,18,17,5,4,3,1,0] Z (jr ?_))))))
 refine aC Z ?_
 have hb:cQ n=true:=by rw[xf (cN z19)];have h9:=z35;rw[xp]at h9;exact h9
 rw[cK hb,if_pos (cN z19)]
 refine al (af (ac Z (jf [2,20,18,17,5,4,3,1,0] Z (jr ?_))))
 refine aC Z ?_
 have hb:cQ n=false:=by rw[xf (cN z19)];have h9:=z35;rw[xp]at h9;exact h9
 rw[eK hb]
 refine af (ac Z (jf [36,20,18,17,6,5,4,3,2,1,0] Z (jn (ar Z (fun z36=>?_) (fun z36=>?_)))))
 refine af (ac Z (jf [39,20,18,17,6,5,4,3,2,1,0] Z (aG 1 Z Z Z (fun hx=>aB hx Z (AN.nil)) Z Z ?_)))
 first|refine aj (aw O Z Z Z Z Z) Z ?_|refine aj (aD O Z Z Z Z Z) Z ?_|refine aj (Val.pickB O Z Z Z Z Z) Z ?_
 refine js Z (jf [42,20,18,17,6,5,4,3,2,1,0] Z (aG 3 Z Z Z (fun hx=>aB hx Z (aB hx Z (cH O hx Z Z Z Z (k8 h1 h2) (aa Z) Z Z Z Z Z Z Z (B0:=46000) Z (AN.nil)))) Z Z ?_))
 first|refine aj (aw O Z Z Z Z Z) Z ?_|refine aj (aD O Z Z Z Z Z) Z ?_|refine aj (Val.pickB O Z Z Z Z Z) Z ?_
 refine jf [46,20,18,17,6,5,4,3,2,1,0] Z (jn (ar Z (fun z46=>?_) (fun z46=>?_)))
 refine ag (js Z (jn (af (ac Z (jf [2,20,18,17,5,4,3,1,0] Z (jr ?_))))))
 refine aC Z ?_
 have hb:cQ n=true:=by rw[xe (cN z36)];have h9:=z46;rw[xo]at h9;exact h9
 rw[cK hb,if_neg (de z19),if_pos (cN z36)]
 refine al (af (ac Z (jf [2,20,18,17,5,4,3,1,0] Z (jr ?_))))
 refine aC Z ?_
 have hb:cQ n=false:=by rw[xe (cN z36)];have h9:=z46;rw[xo]at h9;exact h9
 rw[eK hb]
 refine af (ac Z (jf [47,20,18,17,6,5,4,3,2,1,0] Z (jn (ar Z (fun z47=>?_) (fun z47=>?_)))))
 refine af (ac Z (jf [50,20,18,17,6,5,4,3,2,1,0] Z (bE Z (qb h1 h2) 52000 Z (js Z (jf [52,20,18,17,6,5,4,3,2,1,0] Z (aG 1 Z Z Z (fun hx=>aB hx Z (AN.nil)) Z Z ?_))))))
 first|refine aj (aw O Z Z Z Z Z) Z ?_|refine aj (aD O Z Z Z Z Z) Z ?_|refine aj (Val.pickB O Z Z Z Z Z) Z ?_
 refine js Z (jf [55,20,18,17,6,5,4,3,2,1,0] Z (aG 1 Z Z Z (fun hx=>aB hx Z (AN.nil)) Z Z ?_))
 first|refine aj (aw O Z Z Z Z Z) Z ?_|refine aj (aD O Z Z Z Z Z) Z ?_|refine aj (Val.pickB O Z Z Z Z Z) Z ?_
 refine jf [57,20,18,17,6,5,4,3,2,1,0] Z (jn (ar Z (fun z57=>?_) (fun z57=>?_)))
 refine ag (js Z (jn (af (ac Z (jf [2,20,18,17,5,4,3,1,0] Z (jr ?_))))))
 refine aC Z ?_
 have hb:cQ n=true:=by rw[xd (cN z47)];have h9:=z57;rw[xn]at h9;exact h9
 rw[cK hb,if_neg (de z19),if_neg (de z36)]
 refine al (af (ac Z (jf [2,20,18,17,5,4,3,1,0] Z (jr ?_))))
 refine aC Z ?_
 have hb:cQ n=false:=by rw[xd (cN z47)];have h9:=z57;rw[xn]at h9;exact h9
 rw[eK hb]
 refine al (af (ac Z (jf [2,20,18,17,5,4,3,1,0] Z (jr ?_))))
 refine aC Z ?_
 rw[eK (by rw[cQ,if_neg (de z19),if_neg (de z36),if_neg (de z47)])]
variable{p:List Nd}{k:Nat}
theorem vx{n:Nat}(hk:k≤p.length)(hn:p.length<n+1+k)(ih: ∀k',k'≤p.length→p.length<n+k'→MQ h1 h2 33 [bN p,eI k'] [] (Plain (tf (cC n p k')))):MQ h1 h2 33 [bN p,eI k] [] (Plain (tf (cC (n+1) p k))):=by
 refine jB 45 h1 h2 Tryz.func33 Z fun O hF=>?_
 have hl:p.length≤L:=by simpa[As.fact,A.fact,M.fact,D.fact,Ds.fact]using hF.1.1
 refine af (aW Z (jn (ah (af (ac Z ?_)))))
 first|refine eh Z ?_|refine js Z ?_|refine cf Z Z ?_
 refine js Z (jn (ar Z (fun z15=>?_) (fun z15=>?_)))
 try simp only[bL]at z15
 refine af (aW Z (jr ?_))
 refine⟨.inl Z,_,cn,_,Z,?_,Z⟩
 rw[show cC (n+1) p k=none from if_pos (by omega)]
 try simp only[bL]at z15
 refine al (af (ac Z ?_))
 first|refine uA Z Z ?_|refine sM Z Z ?_|refine cf Z Z ?_
 refine js Z (bE Z (wV (n:=p.getD k default) h1 h2) 21000 Z (js Z (jn (ah (af (ac Z (jn (ar Z (fun z22=>?_) (fun z22=>?_)))))))))
 try simp only[bL]at z22
 refine af (aW Z (jr ?_))
 refine⟨.inl Z,_,cn,_,Z,?_,Z⟩
 rw[show cC (n+1) p k=none by unfold cC;rw[if_neg (by omega)];exact if_pos z22]
 try simp only[bL]at z22
 refine al (af (js Z ?_))
 first|refine ji Z ?_|refine cf Z Z ?_
 refine js Z (aZ (js Z (jn (ah (ak (av (X:=Nat×Nat×Int) (fun x=>⟨[(0,bN p),(1,eI x.2.1),(7,eI x.1),(8,eI x.2.2)],[]⟩) (fun x=>x.2.1≤p.length∧k<x.2.1∧dX (cC n p) (di (p.getD k default)).toNat (k+1) 0=dX (cC n p) x.1 x.2.1 x.2.2∧x.1≤2∧0≤x.2.2∧x.2.2≤(x.2.1:Int)-(k+1:Nat)) (fun x=>x.1) ((di (p.getD k default)).toNat,k+1,0) (Ent.to ⟨Z,Z,congrArg (fun z=>some (eI z)) (Int.toNat_of_nonneg z22).symm,Z,aq⟩ Z) ?_ (fun x hi=>?_)))))))
 exact⟨(show k+1≤p.length by omega),Nat.lt_succ_self k,Z,by have:=ra (p.getD k default);show(di (p.getD k default)).toNat≤2;omega,Int.le_refl 0,by show(0:Int)≤((k+1:Nat):Int)-(k+1:Nat);omega⟩
 refine ah (af (ac Z (jn (ar Z (fun z26=>?_) (fun z26=>?_)))))
 try simp only[bL]at z26
 refine al (ah (ak (af (ac Z (ab O Z Z Z Z (ih x.2.1 hi.1 (by omega)) (aa Z) Z Z Z Z (B0:=33000) Z Z (aT Z (aW Z (jn (ah (af (ac Z (jn (ar Z (fun z37=>?_) (fun z37=>?_))))))))))))))
 try simp only[bL]at z37
 refine af (aW Z (jr ?_))
 refine⟨.inl Z,_,cn,_,Z,?_,Z⟩
 have e0:=rj z37
 rw [show cC (n+1) p k=none by
  unfold cC
  rw[if_neg (by omega),if_neg (by omega),hi.2.2.1]
  obtain⟨q,hq⟩: ∃q,x.1=q+1:=⟨x.1-1,by omega⟩
  rw[hq,dM e0];rfl]
 try simp only[bL]at z37
 refine al (af ?_)
 obtain⟨k1,d1,hr⟩:=lD z37
 rw[hr]
 refine aT Z (jn (ag (ac Z (jn (ag (js Z ?_))))))
 first|refine ji Z ?_|refine cf Z Z ?_
 refine js Z (jn ?_)
 have hle:=je hr
 refine⟨(x.1-1,k1,if d1>x.2.2 then d1 else x.2.2),Ent.to ⟨Z,Z,?_,Z,aq⟩ Z,⟨hle.2.1,by show k<k1;omega,?_,by show x.1-1≤2;omega,by show 0≤(if d1>x.2.2 then d1 else x.2.2);split<;>omega,by show(if d1>x.2.2 then d1 else x.2.2)≤(k1:Int)-(k+1:Nat);split<;>omega⟩,?_⟩
 exact congrArg (fun z=>some (eI z)) (by show(x.1:Int)-1=(x.1-1:Nat);omega)
 rw[hi.2.2.1]
 obtain⟨q,hq⟩: ∃q,x.1=q+1:=⟨x.1-1,by omega⟩
 rw[hq,bV hr];rfl
 show x.1-1<x.1;omega
 try simp only[bL]at z26
 refine bg (af (ac Z ?_))
 first|refine ji Z ?_|refine cf Z Z ?_
 refine aW Z (jr ?_)
 refine⟨.inl Z,_,cn,_,Z,?_,Z⟩
 have hx:x.1=0:=by omega
 rw [show cC (n+1) p k=some (x.2.1,x.2.2+1) by
  unfold cC
  rw[if_neg (by omega),if_neg (by omega),hi.2.2.1,hx];rfl]
theorem oX{L:Nat}(h1:4096≤L)(h2:L≤1073741824){p:List Nd}: ∀{n k:Nat},k≤p.length→p.length<n+k→MC Tryz.prog L 33 [bN p,eI k] [] (Plain (tf (cC n p k)))
 | 0,k,hk,hn=>by omega
 | n+1,k,hk,hn=>vx h1 h2 hk hn (fun k' hk' hn'=>oX h1 h2 hk' hn')
theorem qa:MQ h1 h2 29 [bN p] [] (Plain (eB (ku p))):=by
 refine aH ?_ Z
 refine jB 22 h1 h2 Tryz.func29 Z fun O hF=>?_
 have hl:p.length≤L:=by simpa[As.fact,A.fact,M.fact,D.fact,Ds.fact]using hF.1.1
 refine af (js Z (jn (ah (af (js Z ?_)))))
 first|refine eh Z ?_|refine js Z ?_|refine cf Z Z ?_
 refine js Z (jn (ar Z (fun z8=>?_) (fun z8=>?_)))
 try simp only[bL]at z8
 refine af (js Z (jr ?_))
 refine aC Z ?_
 rw[ku,decide_eq_false (show¬(p.length:Int)≤60 by omega),Bool.false_and]
 try simp only[bL]at z8
 refine al (af (js Z (kb [(10,_),(2,_),(0,_)] [] ⟨Z,Z,Z,aq⟩ Z (ab O Z Z Z Z (oX (p:=p) (n:=p.length+1) (k:=0) h1 h2 (fg _) (by omega)) (aa Z) Z Z Z Z (B0:=12000) Z Z (aT Z (aW Z (aZ (ac Z (kb [(16,_),(3,_),(2,_),(0,_)] [] ⟨Z,Z,Z,Z,aq⟩ Z (aG 4 Z Z Z (fun hx=>aB hx Z (aB hx Z (dU hx (bO O Z Z Z Z Z Z Z Z) Z (aB hx Z (AN.nil))))) Z Z ?_))))))))))
 first|refine aj (aw O Z Z Z Z Z) Z ?_|refine aj (aD O Z Z Z Z Z) Z ?_|refine aj (Val.pickB O Z Z Z Z Z) Z ?_
 refine js Z (jr ?_)
 refine aC Z ?_
 rw[ku,decide_eq_true (show(p.length:Int)≤60 by omega),Bool.true_and,Bool.cond_false_right]
theorem gi: ∀{xs:List Int} {g:Nat},(xs.foldl (fun g x=>Nat.gcd g x.natAbs) g ∣ g)∧∀x∈xs,xs.foldl (fun g x=>Nat.gcd g x.natAbs) g ∣ x.natAbs
 | [],g=>⟨Nat.dvd_refl _,fun x hx=>by cases hx⟩
 | y::r,g=>by
  have ih:=gi (xs:=r) (g:=Nat.gcd g y.natAbs)
  refine⟨Nat.dvd_trans ih.1 (Nat.gcd_dvd_left _ _),fun x hx=>?_⟩
  rcases List.mem_cons.1 hx with rfl|hx
  exact Nat.dvd_trans ih.1 (Nat.gcd_dvd_right _ _)
  exact ih.2 x hx
theorem rh{xs:List Int}{x:Int}(hx:x∈xs):bQ xs ∣ x.natAbs:=(gi (g:=0)).2 x hx
theorem rV{x:Int}{g:Nat}(h:g ∣ x.natAbs)(hx:x≠0)(hg:2≤g):x.tdiv g≠0:=by
 intro h0
 have h1:(x.tdiv g).natAbs=x.natAbs/g:=by rw[Int.natAbs_tdiv];rfl
 rw[h0]at h1
 obtain⟨q,hq⟩:=h
 rw[hq,Nat.mul_div_cancel_left _ (by omega)]at h1
 have:q=0:=by simpa using h1.symm
 rw[this]at hq
 omega
theorem o0{xs:List Int}(h:xs=[]∨xs.getD (xs.length-1) default≠0):aS xs=xs:=by
 have:=f4 (xs:=xs) (n:=xs.length) (bP _) (h.imp (fun e=>by rw[e];rfl) id)
 rwa[List.take_length]at this
theorem xb{t:Tm}:t.ok=true↔dT t.c=true∧t.xs.all dT=true∧t.xs.length≤10∧(t.xs=[]∨t.xs.getD (t.xs.length-1) default≠0):=by
 unfold Tm.ok
 have hz:((t.xs.length:Int)-1).toNat=t.xs.length-1:=by omega
 rw[hz]
 cases h1:dT t.c<;>cases h2:t.xs.all dT<;>simp
 by_cases h3:t.xs.length≤10
 have h4: ¬(10:Int)<t.xs.length:=by omega
 by_cases h5:t.xs=[]
 simp[h5]
 have h6:0<t.xs.length:=List.length_pos_iff.2 h5
 simp[h3,h5]
 intro _;omega
 have h4:(10:Int)<t.xs.length:=by omega
 simp[h3,h4]
theorem tW{c:Int}{xs:List Int}(h:(Tm.mk c xs).ok=true):k5 c xs=(⟨c,xs⟩,true):=by
 have h1:=xb.1 h
 have h2:aS xs=xs:=o0 h1.2.2.2
 unfold k5
 rw[h2,if_pos h]
theorem fB{t:Tm}(h:t.ok=true):gm t=cg t:=by
 unfold gm cg
 split
 rfl
 rename_i hg
 obtain⟨h1,h2,h3,h4⟩:=xb.1 h
 have hc:=wc.1 h1
 have e:(if t.c.tmod (bQ t.xs)<0 then t.c.tdiv (bQ t.xs)-1 else t.c.tdiv (bQ t.xs))=rE t.c (bQ t.xs):=rfl
 rw[e]
 refine(tW ?_).symm
 refine xb.2 ⟨?_,?_,by simpa using h3,?_⟩
 have hq:(t.c.tdiv (bQ t.xs)).natAbs=t.c.natAbs/bQ t.xs:=by rw[Int.natAbs_tdiv];rfl
 have hq2:t.c.natAbs/bQ t.xs≤t.c.natAbs/2:=Nat.div_le_div_left (by omega) (by decide)
 refine wc.2 ?_
 show -1000000≤rE t.c (bQ t.xs)∧rE t.c (bQ t.xs)≤1000000
 unfold rE
 split<;>omega
 rw[List.all_eq_true]
 intro y hy
 obtain⟨x,hx,rfl⟩:=List.mem_map.1 hy
 have:=wc.1 (List.all_eq_true.1 h2 x hx)
 exact wc.2 (gL this)
 rcases h4 with h4|h4
 exact .inl (by rw[h4];rfl)
 by_cases h0:t.xs=[]
 exact .inl (by rw[h0];rfl)
 refine .inr ?_
 have hl:0<t.xs.length:=List.length_pos_iff.2 h0
 rw[am (by omega)]at h4
 rw[am (by simp;omega)]
 simp only[cj,List.getElem_map]
 exact rV (rh (List.getElem_mem _)) h4 (by omega)
theorem qV{t:Tm}:dB t (-1) ⟨1,[]⟩ (-1)=bC [t] [-1]:=by
 unfold dB bC
 apply List.map_congr_left
 intro k _
 show -1*t.xs.getD k 0+ -1*0= -1*t.xs.getD k 0+0
 omega
theorem qu{t:Tm}:df t=if(bq t).ok=true then(bq t,true)else(⟨0,[]⟩,false):=by
 unfold df jj k5
 rw[qV]
 have:(-1*t.c+ -1*(⟨1,[]⟩:Tm).c)=ba Tm.c [t] [-1]-1:=by
  show -1*t.c+ -1*1= -1*t.c+0-1
  omega
 rw[this]
theorem kx{t:Tm}:(df t).2=(bq t).ok:=by
 rw[qu]
 cases h:(bq t).ok<;>simp
theorem qg{t:Tm}(h:(bq t).ok=true):(df t).1=bq t:=by rw[qu,if_pos h]
theorem sJ{xs:List Int}:aS xs=[]↔xs.all (fun x=>decide (x=0))=true:=by
 unfold aS
 rw[List.reverse_eq_nil_iff,List.all_eq_true]
 constructor
 intro h x hx
 have key: ∀{l:List Int},l.dropWhile (· == 0)=[]→∀x∈l,x=0:=by
  intro l
  induction l with
  | nil=>intro _ x hx;cases hx
  | cons y r ih=>
   intro h x hx
   rw[List.dropWhile_cons]at h
   split at h
   rename_i hy
   rcases List.mem_cons.1 hx with rfl|hx
   simpa using hy
   exact ih h x hx
   cases h
 exact decide_eq_true (key h x (List.mem_reverse.2 hx))
 intro h
 have key: ∀{l:List Int},(∀x∈l,x=0)→l.dropWhile (· == 0)=[]:=by
  intro l
  induction l with
  | nil=>intro _;rfl
  | cons y r ih=>
   intro h
   rw[List.dropWhile_cons,if_pos (by simpa using h y (by simp))]
   exact ih fun x hx=>h x (by simp[hx])
 exact key fun x hx=>cN (h x (List.mem_reverse.1 hx))
theorem iF{ctx:List Tm}{ms:List Int}:bd ctx ms=gO ctx ms:=by
 unfold bd gO
 have h1:decide (ms.length=ctx.length)=decide (ctx.length=ms.length):=decide_eq_decide.2 ⟨Eq.symm,Eq.symm⟩
 have h2:decide ((aS (bC ctx ms)).length=0)=(bC ctx ms).all (fun x=>decide (x=0)):=by
  cases h:(bC ctx ms).all (fun x=>decide (x=0))with
  | true=>rw[sJ.2 h];rfl
  | false=>
   refine decide_eq_false fun h0=>?_
   rw[sJ.1 (List.eq_nil_of_length_eq_zero h0)]at h
   cases h
 rw[h1,h2]
inductive Pf where
  | close (n:Nd)
  | tight (n:Nd) (a:Pf)
  | split (n:Nd) (a b:Pf)
def Pf.size:Pf→Nat
  | .close _=>1
  | .tight _ a=>1+a.size
  | .split _ a b=>1+a.size+b.size
def Pf.At(p:List Nd):Pf→Nat→Prop
  | .close n,k=>p[k]? = some n∧cQ n=true∧n.kind=1
  | .tight n a,k=>p[k]? = some n∧cQ n=true∧n.kind=3∧a.At p (k+1)
  | .split n a b,k=>p[k]? = some n∧cQ n=true∧n.kind=2∧a.At p (k+1)∧b.At p (k+1+a.size)
theorem aV{p:List Nd}{k:Nat}{n:Nd}(h:p[k]? = some n):k<p.length∧p.getD k default=n:=by
 have h1:=(List.getElem?_eq_some_iff.1 h).1
 exact⟨h1,by rw[am h1];exact(List.getElem?_eq_some_iff.1 h).2⟩
theorem Pf.At.le{p:List Nd}: ∀{t:Pf} {k:Nat},t.At p k→k+t.size≤p.length
 | .close n,k,h=>by have:=(aV h.1).1;simp only[Pf.size];omega
 | .tight n a,k,h=>by have:=h.2.2.2.le;simp only[Pf.size];omega
 | .split n a b,k,h=>by have:=h.2.2.2.2.le;simp only[Pf.size];omega
theorem bk: ∀{t:Pf},0<t.size
 | .close _=>by simp[Pf.size]
 | .tight _ _=>by simp only[Pf.size];omega
 | .split _ _ _=>by simp only[Pf.size];omega
theorem Pf.At.beh{p:List Nd}: ∀{t:Pf} {k n:Nat},t.At p k→p.length<n+k→∃d,cC n p k=some (k+t.size,d)
 | .close x,k,0,h,hn=>by have:=(aV h.1).1;omega
 | .tight x a,k,0,h,hn=>by have:=(aV h.1).1;omega
 | .split x a b,k,0,h,hn=>by have:=(aV h.1).1;omega
 | .close x,k,n+1,h,hn=>by
  obtain⟨h1,h2⟩:=aV h.1
  have hk:di x=0:=by rw[cK h.2.1,if_pos h.2.2]
  refine⟨0+1,?_⟩
  unfold cC
  rw[if_neg (by omega),h2,hk,if_neg (by decide)]
  rfl
 | .tight x a,k,n+1,h,hn=>by
  obtain⟨h1,h2⟩:=aV h.1
  have hk:di x=1:=by rw[cK h.2.1,if_neg (by rw[h.2.2.1];decide),if_neg (by rw[h.2.2.1];decide)]
  obtain⟨d,hd⟩:=h.2.2.2.beh (n:=n) (by omega)
  refine⟨(if d>0 then d else 0)+1,?_⟩
  unfold cC
  rw[if_neg (by omega),h2,hk,if_neg (by decide),show(1:Int).toNat=0+1 from Z,bV hd]
  show some (k+1+a.size,_)=some (k+(1+a.size),_)
  rw[Nat.add_assoc]
 | .split x a b,k,n+1,h,hn=>by
  obtain⟨h1,h2⟩:=aV h.1
  have hk:di x=2:=by rw[cK h.2.1,if_neg (by rw[h.2.2.1];decide),if_pos h.2.2.1]
  obtain⟨d,hd⟩:=h.2.2.2.1.beh (n:=n) (by omega)
  obtain⟨d',hd'⟩:=h.2.2.2.2.beh (n:=n) (by have:=bk (t:=a);omega)
  refine⟨(if d'>(if d>0 then d else 0)then d' else(if d>0 then d else 0))+1,?_⟩
  unfold cC
  rw[if_neg (by omega),h2,hk,if_neg (by decide),show(2:Int).toNat=1+1 from Z,bV hd,show(1:Nat)=0+1 from Z,bV hd']
  show some (k+1+a.size+b.size,_)=some (k+(1+a.size+b.size),_)
  rw[show k+1+a.size+b.size=k+(1+a.size+b.size) by omega]
theorem mK{n:Nd}(h: ¬di n<0):cQ n=true:=by
 cases hb:cQ n with
 | true=>rfl
 | false=>rw[eK hb]at h;exact absurd (by decide) h
theorem li{p:List Nd}: ∀{n k k':Nat} {d:Int},cC n p k=some (k',d)→∃t:Pf,t.At p k∧k'=k+t.size
 | 0,_,_,_,h=>by cases h
 | n + 1,k,k',d,h=>by
  unfold cC at h
  split at h
  cases h
  rename_i hl
  split at h
  cases h
  rename_i hk
  have hb:=mK hk
  have hg:p[k]? = some (p.getD k default):=by rw[am (by omega)];exact List.getElem?_eq_getElem (by omega)
  generalize p.getD k default=x at hk hb hg h
  rcases jD hb with h1|h1|h1
  rw[cK hb,if_pos h1]at h
  simp only[Int.toNat_zero,dX,Option.map_some,du,Prod.mk.injEq]at h
  exact⟨.close x,⟨hg,hb,h1⟩,h.1.symm⟩
  rw[cK hb,if_neg (by omega),if_pos h1,show(2:Int).toNat=1+1 from Z]at h
  cases e1:cC n p (k+1)with
  | none=>rw[dM e1]at h;cases h
  | some r1=>
   obtain⟨k1,d1⟩:=r1
   rw[bV e1,show(1:Nat)=0+1 from Z]at h
   obtain⟨a,ha,rfl⟩:=li e1
   cases e2:cC n p (k+1+a.size)with
   | none=>rw[dM e2]at h;cases h
   | some r2=>
    obtain⟨k2,d2⟩:=r2
    rw[bV e2]at h
    obtain⟨b,hb2,rfl⟩:=li e2
    simp only[dX,Option.map_some,du,Prod.mk.injEq]at h
    exact⟨.split x a b,⟨hg,hb,h1,ha,hb2⟩,by rw[←h.1];simp only[Pf.size];omega⟩
  rw[cK hb,if_neg (by omega),if_neg (by omega),show(1:Int).toNat=0+1 from Z]at h
  cases e1:cC n p (k+1)with
  | none=>rw[dM e1]at h;cases h
  | some r1=>
   obtain⟨k1,d1⟩:=r1
   rw[bV e1]at h
   obtain⟨a,ha,rfl⟩:=li e1
   simp only[dX,Option.map_some,du,Prod.mk.injEq]at h
   exact⟨.tight x a,⟨hg,hb,h1,ha⟩,by rw[←h.1];simp only[Pf.size];omega⟩
theorem Pf.At.endK{p:List Nd}: ∀{t:Pf} {k:Nat} {need:Int},t.At p k→0<need→Al.endK (p.drop k) need=(Al.endK (p.drop (k+t.size)) (need-1)).map (· + t.size)
 | .close x,k,need,h,hn=>by
  obtain⟨h1,h2⟩:=aV h.1
  rw[fH hn h1,h2,h.2.2];rfl
 | .tight x a,k,need,h,hn=>by
  obtain⟨h1,h2⟩:=aV h.1
  rw[fH hn h1,h2,h.2.2.1,show need+dl 3=need by show need+0=need;omega,h.2.2.2.endK hn,Option.map_map]
  simp only[Pf.size]
  rw[show k+1+a.size=k+(1+a.size) by omega]
  exact congrArg (fun f=>Option.map f _) (funext fun n=>by show n+a.size+1=n+(1+a.size);omega)
 | .split x a b,k,need,h,hn=>by
  obtain⟨h1,h2⟩:=aV h.1
  rw[fH hn h1,h2,h.2.2.1,show need+dl 2=need+1 from Z,h.2.2.2.1.endK (by omega),show need+1-1=need by omega,h.2.2.2.2.endK hn,Option.map_map,Option.map_map]
  simp only[Pf.size]
  rw[show k+1+a.size+b.size=k+(1+a.size+b.size) by omega]
  exact congrArg (fun f=>Option.map f _) (funext fun n=>by show n+b.size+a.size+1=n+(1+a.size+b.size);omega)
theorem Pf.At.endP{p:List Nd}{t:Pf}{k:Nat}(h:t.At p k):Al.endP p k=k+t.size:=by
 unfold Al.endP
 rw[h.endK (by decide),show(1:Int)-1=0 from Z,mD (Int.le_refl 0)]
 show(k:Int)+(0+t.size:Nat)=_
 omega
theorem Pf.At.valid{p:List Nd}: ∀{t:Pf} {k j:Nat},t.At p k→k≤j→j<k+t.size→cQ (p.getD j default)=true
 | .close x,k,j,h,h1,h2=>by
  simp only[Pf.size]at h2
  obtain rfl:j=k:=by omega
  rw[(aV h.1).2];exact h.2.1
 | .tight x a,k,j,h,h1,h2=>by
  by_cases e:j=k
  subst e;rw[(aV h.1).2];exact h.2.1
  simp only[Pf.size]at h2
  exact h.2.2.2.valid (by omega) (by omega)
 | .split x a b,k,j,h,h1,h2=>by
  by_cases e:j=k
  subst e;rw[(aV h.1).2];exact h.2.1
  simp only[Pf.size]at h2
  by_cases e2:j<k+1+a.size
  exact h.2.2.2.1.valid (by omega) (by omega)
  exact h.2.2.2.2.valid (by omega) (by omega)
theorem jd{p:List Nd}(hv: ∀n∈p,cQ n=true): ∀{m k:Nat} {need:Int} {r:Nat},p.length-k≤m→0<need→endK (p.drop k) need=some r→∃t:Pf,t.At p k
 | 0,k,need,r,hm,hn,h=>by
  rw[List.drop_of_length_le (by omega),mC hn]at h;cases h
 | m+1,k,need,r,hm,hn,h=>by
  by_cases hk:k<p.length
  have hg:p[k]? = some (p.getD k default):=by rw[am hk];exact List.getElem?_eq_getElem hk
  have hb:cQ (p.getD k default)=true:=by rw[am hk];exact hv _ (List.getElem_mem hk)
  rw[fH hn hk]at h
  generalize p.getD k default=x at hb hg h
  rcases jD hb with h1|h1|h1
  exact⟨.close x,hg,hb,h1⟩
  rw[h1,show need+dl 2=need+1 from Z]at h
  simp only[Option.map_eq_some_iff]at h
  obtain⟨r1,h2,_⟩:=h
  obtain⟨a,ha⟩:=jd hv (m:=m) (by omega) (by omega) h2
  rw[ha.endK (by omega),show need+1-1=need by omega]at h2
  simp only[Option.map_eq_some_iff]at h2
  obtain⟨r2,h3,_⟩:=h2
  obtain⟨b,hb2⟩:=jd hv (m:=m) (by have:=bk (t:=a);omega) hn h3
  exact⟨.split x a b,hg,hb,h1,ha,hb2⟩
  rw[h1,show need+dl 3=need by show need+0=need;omega]at h
  simp only[Option.map_eq_some_iff]at h
  obtain⟨r1,h2,_⟩:=h
  obtain⟨a,ha⟩:=jd hv (m:=m) (by omega) hn h2
  exact⟨.tight x a,hg,hb,h1,ha⟩
  rw[List.drop_of_length_le (by omega),mC hn]at h;cases h
theorem rb{p:List Nd}(h:gD p=true): ∃t:Pf,t.At p 0∧t.size=p.length:=by
 obtain⟨h1,h2,h3,h4⟩:=eF h
 have h5: ∃r,endK (p.drop 0) 1=some r:=by
  unfold endP at h4
  cases e:endK (p.drop 0) 1 with
  | some r=>exact⟨r,Z⟩
  | none=>rw[e]at h4;have h4:(-1:Int)=p.length:=h4;omega
 obtain⟨r,hr⟩:=h5
 obtain⟨t,ht⟩:=jd h3 (bP _) (by decide) hr
 refine⟨t,ht,?_⟩
 rw[ht.endP]at h4
 omega
theorem gX{p:List Nd}(h:ku p=true):p.length≤60∧∃t:Pf,t.At p 0∧t.size=p.length:=by
 unfold ku at h
 simp only[aN,decide_eq_true_eq]at h
 obtain⟨k,d,hr⟩:=lD h.2.1
 obtain⟨t,ht,hk⟩:=li hr
 have h3:=h.2.2
 rw[hr]at h3
 have h3:(k:Int)=p.length:=h3
 exact⟨by omega,t,ht,by omega⟩
theorem fw{p:List Nd}:ku p=gD p:=by
 rw[Bool.eq_iff_iff]
 constructor
 intro h
 obtain⟨h1,t,ht,hs⟩:=gX h
 have hp:=bk (t:=t)
 unfold gD
 rw[decide_eq_true (show(1:Int)≤p.length by omega),decide_eq_true (show(p.length:Int)≤60 by omega),ht.endP,decide_eq_true (show((0:Nat):Int)+t.size=p.length by omega)]
 simp only[Bool.and_true,Bool.true_and,List.all_eq_true]
 intro n hn
 obtain⟨j,hj,rfl⟩:=List.mem_iff_getElem.1 hn
 have:=ht.valid (fg j) (by omega)
 rwa[am hj]at this
 intro h
 obtain⟨t,ht,hs⟩:=rb h
 obtain⟨h1,h2,_,_⟩:=eF h
 obtain⟨d,hd⟩:=ht.beh (n:=p.length+1) (by omega)
 unfold ku
 rw[decide_eq_true (show(p.length:Int)≤60 by omega),hd]
 show(true&&decide (((0+t.size:Nat):Int)=p.length))=true
 rw[decide_eq_true (by omega)];rfl
structure Ex where
  es:List (Int×List Tm)
  flaw:Int
def ig:List (Int×List Tm)→Int→List Tm→List (Int×List Tm)
  | [],k,x=>[(k,x)]
  | (j,y)::r,k,x=>if k=j then(k,x)::r else(j,y)::ig r k x
def dA:List (Int×List Tm)→Int→Option (List Tm)
  | [],_=>none
  | (j,x)::r,k=>if k=j then some x else dA r k
abbrev cm(es:List (Int×List Tm)):List (Int×D):=es.map fun x=>(x.1,pP x.2)
theorem jc{k:Int}{c:List Tm}: ∀{es:List (Int×List Tm)},jm (cm es) k (pP c)=cm (ig es k c)
 | []=>rfl
 | (j,y)::r=>by
  show(if k=j then(k,pP c)::cm r else(j,pP y)::jm (cm r) k (pP c))=cm (if k=j then(k,c)::r else(j,y)::ig r k c)
  rw[jc]
  split<;>rfl
theorem gS{k j:Int}{c:List Tm}: ∀{es:List (Int×List Tm)},dA (ig es k c) j=if j=k then some c else dA es j
 | []=>by simp[ig,dA]
 | (i,y)::r=>by
  unfold ig
  by_cases h:k=i
  subst h
  rw[if_pos Z]
  simp only[dA]
  split<;>rfl
  rw[if_neg h]
  simp only[dA,gS]
  by_cases h1:j=i
  subst h1;rw[if_pos rfl,if_pos rfl,if_neg (fun e=>h e.symm)]
  rw[if_neg h1,if_neg h1]
def Ex.put(e:Ex)(k:Nat)(c:List Tm):Ex:={e with es:=ig e.es k c}
def Ex.bad(e:Ex)(k:Nat):Ex:=if e.flaw<0 then{e with flaw:=k}else e
def dg(n:Nd)(c:List Tm):Bool:=decide ((c.length:Int)<20)&&(bq n.term).ok
def dY(n:Nd)(c:List Tm):Bool:=decide ((c.length:Int)<20)&&jg 0 ((c.length:Int)-1) n.fact
def i4(n:Nd)(c:List Tm):Tm×Bool:=gm (c.getD n.fact.toNat default)
def ew:Pf→Nat→List Tm→Ex→Ex
  | .close n,k,c,e=>if bd c n.mul=true then e.put k c else(e.put k c).bad k
  | .tight n a,k,c,e=>if(dY n c&&(i4 n c).2)=true then ew a (k+1) (c++[(i4 n c).1]) (e.put k c)else(e.put k c).bad k
  | .split n a b,k,c,e=>if dg n c=true then ew b (k+1+a.size) (c++[bq n.term]) (ew a (k+1) (c++[n.term]) (e.put k c))else(e.put k c).bad k
theorem CtxOk.snoc{c:List Tm}{t:Tm}(h:CtxOk c)(ht:t.ok=true)(hl:(c.length:Int)<20):CtxOk (c++[t]):=⟨fun u hu=>by
 rcases List.mem_append.1 hu with hu|hu
 exact h.ok u hu
 simp at hu;subst hu;exact ht,by simp;omega⟩
theorem tb:Tryz.prog.underlying 77=some (.map 3 24):=by kernel_rfl
theorem u3:Tryz.prog.underlying 3=some (.int .i64):=by kernel_rfl
abbrev xH(p:List Nd)(e:Ex):List (Nat×B):=[(0,.box [.d (ur p),.mp 1,.d (.int .i64 e.flaw)]),(1,jp (cm e.es))]
theorem lj{e:Ex}{k:Nat}(h:e.flaw<0):e.bad k={e with flaw:=k}:=if_pos h
theorem ll{e:Ex}{k:Nat}(h: ¬e.flaw<0):e.bad k=e:=if_neg h
theorem uu{a b:Bool}:(bif a then b else false)=(a&&b):=by cases a<;>rfl
variable{c0:Tm}{r0:List Tm}
theorem ud{n:Nd}{e:Ex}(hA:Pf.At p (.close n) k)(hc:CtxOk (c0::r0))(hpl:p.length≤1000):MQ h1 h2 74 [.c (.pt 0 0 0),eI k,cO (c0::r0)] (xH p e) (cD (eI ((k+Pf.size (.close n):Nat):Int)) (xH p (ew (.close n) k (c0::r0) e))):=by
 refine jH 112 [0,1] h1 h2 Tryz.func74 Z fun O hF=>?_
 obtain⟨dd,hd⟩:=hA.beh (n:=p.length+1) (by omega)
 obtain⟨hkl,hgn⟩:=aV hA.1
 have hnb:=hA.2.1
 have hks:=hA.le
 have hlc:=hc.len
 refine af (js Z (aZ (aT Z (js Z (ab O Z Z Z Z ((oX (p:=p) (n:=p.length+1) (k:=k) h1 h2 (by omega) (by omega)).plain (u:=.tup [eI ((k+Pf.size (.close n):Nat):Int),eI dd,eB true]) (by rw[hd])) (aa Z) Z Z Z Z (B0:=23000) Z Z (aT Z (aW Z (aZ (aT Z (js Z (aj ((bi O Z Z Z Z Z Z Z Z (gG hkl)).cast (v':=ptr n.cells) (by rw[hgn])) Z (js Z (jl Z (au ?_))))))))))))))
 refine jo Z (au ?_)
 refine aZ (aT Z (ac Z (aI (HS.mapUpdate (kt:=3) (et:=24) (q:=.i64) (es:=cm e.es) (k:=(k:Int)) (v:=pP (c0::r0)) O Z Z Z Z tb u3 Z Z Z Z Z) Z ?_)))
 rw[jc]
 obtain⟨e1,he1⟩: ∃e1:Ex,e1=e.put k (c0::r0):=⟨_,rfl⟩
 have he1s:ig e.es k (c0::r0)=e1.es:=by rw[he1];rfl
 have he1f:e.flaw=e1.flaw:=by rw[he1];rfl
 rw[he1s,he1f]
 refine au ?_
 refine au ?_
 refine aZ (js Z ?_)
 first|refine eh Z ?_|refine js Z ?_|refine cf Z Z ?_
 refine ac Z (jn (ah (af (ac Z (jn (ak (af (ac Z (jn (ar Z (fun z44=>?_) (fun z44=>?_)))))))))))
 refine af (aW Z (bE Z (uO (ctx:=c0::r0) (ms:=n.mul) h1 h2 hc (t8 (sk hnb))) 50000 Z (jn (ar Z (fun z49=>?_) (fun z49=>?_)))))
 refine af (ac Z (jr ?_))
 have hv:ew (.close n) k (c0::r0) e=e1:=by rw[he1];exact if_pos z49
 refine⟨.inl Z,_,ap [0,1] Z Z (e':=[(6,_)]) ⟨Z,aq⟩ Z,_,Z,?_,?_⟩
 rfl
 rw[hv];rfl
 refine al (ah (af (aT Z (js Z (jn (ar Z (fun z106=>?_) (fun z106=>?_)))))))
 refine ag (aT Z (jo Z (au ?_)))
 refine aZ (ac Z (jr ?_))
 have hv:ew (.close n) k (c0::r0) e=e1.bad k:=by rw[he1];exact if_neg (by rw[z49];decide)
 rw[lj (cN z106)]at hv
 refine⟨.inl Z,_,ap [0,1] Z Z (e':=[(6,_)]) ⟨Z,aq⟩ Z,_,Z,?_,?_⟩
 rfl
 rw[hv];rfl
 refine al (af (ac Z (jr ?_)))
 have hv:ew (.close n) k (c0::r0) e=e1.bad k:=by rw[he1];exact if_neg (by rw[z49];decide)
 rw[ll (de z106)]at hv
 refine⟨.inl Z,_,ap [0,1] Z Z (e':=[(6,_)]) ⟨Z,aq⟩ Z,_,Z,?_,?_⟩
 rfl
 rw[hv];rfl
 exact absurd hA.2.2 (de z44)
theorem uc{n:Nd}{a b:Pf}{e:Ex}(hA:Pf.At p (.split n a b) k)(hc:CtxOk (c0::r0))(hpl:p.length≤1000)(iha: ∀{c0:Tm} {r0:List Tm} {e:Ex},CtxOk (c0::r0)→MQ h1 h2 74 [.c (.pt 0 0 0),eI (k+1:Nat),cO (c0::r0)] (xH p e) (cD (eI ((k+1+a.size:Nat):Int)) (xH p (ew a (k+1) (c0::r0) e))))(ihb: ∀{c0:Tm} {r0:List Tm} {e:Ex},CtxOk (c0::r0)→MQ h1 h2 74 [.c (.pt 0 0 0),eI (k+1+a.size:Nat),cO (c0::r0)] (xH p e) (cD (eI ((k+1+a.size+b.size:Nat):Int)) (xH p (ew b (k+1+a.size) (c0::r0) e)))):MQ h1 h2 74 [.c (.pt 0 0 0),eI k,cO (c0::r0)] (xH p e) (cD (eI ((k+Pf.size (.split n a b):Nat):Int)) (xH p (ew (.split n a b) k (c0::r0) e))):=by
 refine jH 112 [0,1] h1 h2 Tryz.func74 Z fun O hF=>?_
 obtain⟨dd,hd⟩:=hA.beh (n:=p.length+1) (by omega)
 obtain⟨hkl,hgn⟩:=aV hA.1
 have hnb:=hA.2.1
 have hks:=hA.le
 have hlc:=hc.len
 refine af (js Z (aZ (aT Z (js Z (jf [21,20,6,0,1,2] Z (ab O Z Z Z Z ((oX (p:=p) (n:=p.length+1) (k:=k) h1 h2 (by omega) (by omega)).plain (u:=.tup [eI ((k+Pf.size (.split n a b):Nat):Int),eI dd,eB true]) (by rw[hd])) (aa Z) Z Z Z Z (B0:=23000) Z Z (aT Z (aW Z (jf [7,6,0,1,2] Z (aZ (aT Z (js Z (aj ((bi O Z Z Z Z Z Z Z Z (gG hkl)).cast (v':=ptr n.cells) (by rw[hgn])) Z (js Z (jf [32,7,6,0,1,2] Z (jl Z (au ?_)))))))))))))))))
 refine jo Z (au ?_)
 refine aZ (aT Z (ac Z (jf [38,37,36,10,32,7,6,0,1,2] Z (aI (HS.mapUpdate (kt:=3) (et:=24) (q:=.i64) (es:=cm e.es) (k:=(k:Int)) (v:=pP (c0::r0)) O Z Z Z Z tb u3 Z Z Z Z Z) Z ?_))))
 rw[jc]
 obtain⟨e1,he1⟩: ∃e1:Ex,e1=e.put k (c0::r0):=⟨_,rfl⟩
 have he1s:ig e.es k (c0::r0)=e1.es:=by rw[he1];rfl
 have he1f:e.flaw=e1.flaw:=by rw[he1];rfl
 rw[he1s,he1f]
 refine au ?_
 refine au ?_
 refine jf [10,32,7,6,0,1,2] Z (aZ (js Z ?_))
 first|refine eh Z ?_|refine js Z ?_|refine cf Z Z ?_
 refine ac Z (jf [11,10,32,7,6,0,1,2] Z (jn (ah (af (ac Z (jn (ak (af (ac Z (jn (ar Z (fun z44=>?_) (fun z44=>?_))))))))))))
 exact absurd (cN z44) (by rw[hA.2.2.1];decide)
 refine af (ac Z (jf [51,45,43,42,11,10,32,7,6,0,1,2] Z (jn (ar Z (fun z51=>?_) (fun z51=>?_)))))
 refine af (ac Z (jf [54,45,43,42,11,10,32,7,6,0,1,2] Z (ab O Z Z Z Z (tu (t:=n.term) h1 h2 (gT hnb)) (aa Z) Z Z Z Z (B0:=56000) Z Z (jf [55,45,43,42,11,10,32,7,6,0,1,2] Z (jl Z (au ?_))))))
 refine jo Z (au ?_)
 refine aZ (ac Z (jf [57,12,55,45,43,42,11,10,32,7,6,0,1,2] Z (aG 2 Z Z Z (fun hx=>aB hx Z (cH O hx Z Z Z Z (k8 (t:=bq n.term) h1 h2) (aa Z) Z Z Z Z Z Z Z (B0:=60000) Z (AN.nil))) Z Z ?_)))
 first|refine aj (aw O Z Z Z Z Z) Z ?_|refine aj (aD O Z Z Z Z Z) Z ?_|refine aj (Val.pickB O Z Z Z Z Z) Z ?_
 refine jf [60,12,55,45,43,42,11,10,32,7,6,0,1,2] Z (jn (ar Z (fun z60=>?_) (fun z60=>?_)))
 refine af ?_
 have hs:dg n (c0::r0)=true:=by have h9:=z60;rw[uu]at h9;exact h9
 have hs':=hs
 simp only[dg,aN,decide_eq_true_eq]at hs'
 have hcl:=hs'.1
 have hok:=hs'.2
 have hl1:(c0::r0).length≤1000:=hc.len
 refine ac Z ?_
 first|refine ji Z ?_|refine cf Z Z ?_
 refine aW Z (jf [66,64,63,61,12,55,45,43,42,11,10,32,7,6,0,1,2] Z (ab O Z Z Z Z (tq (c:=c0) (r:=r0) (t:=n.term) h1 h2 hl1) (aa Z) Z Z Z Z (B0:=68000) Z Z (jf [67,63,61,12,55,45,43,42,11,10,32,7,6,0,1,2] Z (aO O [0,1] (bin:=[.box [.d (ur p),.mp 1,.d (.int .i64 (e1).flaw)],jp (cm (e1).es)]) Z Z Z Z (iha (c0:=c0) (r0:=r0++[n.term]) (e:=e1) (hc.snoc (gT hnb) hcl)) Z Z Z Z Z Z (B0:=69000) Z Z (au ?_)))))
 refine js Z (jf [13,12,55,45,43,42,11,10,32,7,6,0,1,2] Z (aZ ?_))
 obtain⟨e2,he2⟩: ∃e2:Ex,e2=ew a (k+1) (c0::(r0++[n.term])) e1:=⟨_,rfl⟩
 rw[show ew a (k+1) (c0::(r0++[n.term])) e1=e2 from he2.symm]
 refine aT Z (jf [72,71,70,69,12,55,45,43,42,11,10,32,7,6,0,1,2] Z (ab O Z Z Z Z (tq (c:=c0) (r:=r0) (t:=bq n.term) h1 h2 hl1) (aa Z) Z Z Z Z (B0:=74000) Z Z (jf [73,70,69,12,55,45,43,42,11,10,32,7,6,0,1,2] Z (aO O [0,1] (bin:=[.box [.d (ur p),.mp 1,.d (.int .i64 (e2).flaw)],jp (cm (e2).es)]) Z Z Z Z (ihb (c0:=c0) (r0:=r0++[bq n.term]) (e:=e2) (hc.snoc hok hcl)) Z Z Z Z Z Z (B0:=75000) Z Z (au ?_)))))
 refine js Z (jf [6,12,55,45,43,42,11,10,32,7,0,1,2] Z (jr ?_))
 have hv:ew (.split n a b) k (c0::r0) e=ew b (k+1+a.size) (c0::r0++[bq n.term]) e2:=by rw[he2,he1];exact if_pos hs
 refine⟨.inl Z,_,ap [0,1] Z Z (e':=[(6,_)]) ⟨Z,aq⟩ Z,_,Z,?_,?_⟩
 exact congrArg (fun z:Nat=>eI (z:Int)) (by simp only[Pf.size];omega)
 rw[hv];rfl
 refine al (ah (af (aT Z (js Z (jf [106,12,55,45,43,42,11,10,32,7,6,0,1,2] Z (jn (ar Z (fun z106=>?_) (fun z106=>?_))))))))
 refine ag (aT Z (jf [110,108,12,55,45,43,42,11,10,32,7,6,0,1,2] Z (jo Z (au ?_))))
 refine jf [12,55,45,43,42,11,10,32,7,6,0,1,2] Z (aZ (ac Z (jr ?_)))
 have hv:ew (.split n a b) k (c0::r0) e=e1.bad k:=by rw[he1];exact if_neg (by rw[show dg n (c0::r0)=false by have h9:=z60;rw[uu]at h9;exact h9];decide)
 rw[lj (cN z106)]at hv
 refine⟨.inl Z,_,ap [0,1] Z Z (e':=[(6,_)]) ⟨Z,aq⟩ Z,_,Z,?_,?_⟩
 rfl
 rw[hv];rfl
 refine al (af (ac Z (jf [6,12,55,45,43,42,11,10,32,7,0,1,2] Z (jr ?_))))
 have hv:ew (.split n a b) k (c0::r0) e=e1.bad k:=by rw[he1];exact if_neg (by rw[show dg n (c0::r0)=false by have h9:=z60;rw[uu]at h9;exact h9];decide)
 rw[ll (de z106)]at hv
 refine⟨.inl Z,_,ap [0,1] Z Z (e':=[(6,_)]) ⟨Z,aq⟩ Z,_,Z,?_,?_⟩
 rfl
 rw[hv];rfl
 exact absurd hA.2.2.1 (de z51)
theorem ub{n:Nd}{a:Pf}{e:Ex}(hA:Pf.At p (.tight n a) k)(hc:CtxOk (c0::r0))(hpl:p.length≤1000)(iha: ∀{c0:Tm} {r0:List Tm} {e:Ex},CtxOk (c0::r0)→MQ h1 h2 74 [.c (.pt 0 0 0),eI (k+1:Nat),cO (c0::r0)] (xH p e) (cD (eI ((k+1+a.size:Nat):Int)) (xH p (ew a (k+1) (c0::r0) e)))):MQ h1 h2 74 [.c (.pt 0 0 0),eI k,cO (c0::r0)] (xH p e) (cD (eI ((k+Pf.size (.tight n a):Nat):Int)) (xH p (ew (.tight n a) k (c0::r0) e))):=by
 refine jH 112 [0,1] h1 h2 Tryz.func74 Z fun O hF=>?_
 obtain⟨dd,hd⟩:=hA.beh (n:=p.length+1) (by omega)
 obtain⟨hkl,hgn⟩:=aV hA.1
 have hnb:=hA.2.1
 have hks:=hA.le
 have hlc:=hc.len
 refine af (js Z (aZ (aT Z (js Z (jf [21,20,6,0,1,2] Z (ab O Z Z Z Z ((oX (p:=p) (n:=p.length+1) (k:=k) h1 h2 (by omega) (by omega)).plain (u:=.tup [eI ((k+Pf.size (.tight n a):Nat):Int),eI dd,eB true]) (by rw[hd])) (aa Z) Z Z Z Z (B0:=23000) Z Z (aT Z (aW Z (jf [7,6,0,1,2] Z (aZ (aT Z (js Z (aj ((bi O Z Z Z Z Z Z Z Z (gG hkl)).cast (v':=ptr n.cells) (by rw[hgn])) Z (js Z (jf [32,7,6,0,1,2] Z (jl Z (au ?_)))))))))))))))))
 refine jo Z (au ?_)
 refine aZ (aT Z (ac Z (jf [38,37,36,10,32,7,6,0,1,2] Z (aI (HS.mapUpdate (kt:=3) (et:=24) (q:=.i64) (es:=cm e.es) (k:=(k:Int)) (v:=pP (c0::r0)) O Z Z Z Z tb u3 Z Z Z Z Z) Z ?_))))
 rw[jc]
 obtain⟨e1,he1⟩: ∃e1:Ex,e1=e.put k (c0::r0):=⟨_,rfl⟩
 have he1s:ig e.es k (c0::r0)=e1.es:=by rw[he1];rfl
 have he1f:e.flaw=e1.flaw:=by rw[he1];rfl
 rw[he1s,he1f]
 refine au ?_
 refine au ?_
 refine jf [10,32,7,6,0,1,2] Z (aZ (js Z ?_))
 first|refine eh Z ?_|refine js Z ?_|refine cf Z Z ?_
 refine ac Z (jf [11,10,32,7,6,0,1,2] Z (jn (ah (af (ac Z (jn (ak (af (ac Z (jn (ar Z (fun z44=>?_) (fun z44=>?_))))))))))))
 exact absurd (cN z44) (by rw[hA.2.2.1];decide)
 refine af (ac Z (jf [51,45,43,42,11,10,32,7,6,0,1,2] Z (jn (ar Z (fun z51=>?_) (fun z51=>?_)))))
 exact absurd (cN z51) (by rw[hA.2.2.1];decide)
 refine af (ac Z (jf [75,45,43,42,11,10,32,7,6,0,1,2] Z (jn (ar Z (fun z75=>?_) (fun z75=>?_)))))
 refine af (ac Z (jf [78,45,43,42,11,10,32,7,6,0,1,2] Z (aG 5 Z Z Z (fun hx=>aB hx Z (aB hx Z (aB hx Z (dU hx (bO O Z Z Z Z Z Z Z Z) Z (cH O hx Z Z Z Z (c90 (k:=n.fact) (n:=(c0::r0).length) h1 h2 (by omega)) (aa Z) Z Z Z Z Z Z Z (B0:=84000) Z (AN.nil)))))) Z Z ?_)))
 first|refine aj (aw O Z Z Z Z Z) Z ?_|refine aj (aD O Z Z Z Z Z) Z ?_|refine aj (Val.pickB O Z Z Z Z Z) Z ?_
 refine jf [84,45,43,42,11,10,32,7,6,0,1,2] Z (jn (ar Z (fun z84=>?_) (fun z84=>?_)))
 refine af ?_
 have hs:dY n (c0::r0)=true:=by have h9:=z84;rw[uu]at h9;exact h9
 have hs':=hs
 simp only[dY,jg,aN,decide_eq_true_eq]at hs'
 have hcl:=hs'.1
 have hf0:=hs'.2.1
 have hf1:=hs'.2.2
 have hl1:(c0::r0).length≤1000:=hc.len
 have hgt:=hc.get (show n.fact.toNat<(c0::r0).length by omega)
 refine aW Z (aj (dO O Z Z Z Z Z Z Z Z hf0 (gM hf0 (by omega))) Z (js Z (jf [90,45,43,42,11,10,32,7,6,0,1,2] Z (ab O Z Z Z Z (wY (t:=(c0::r0).getD n.fact.toNat default) h1 h2 (dL hgt)) (aa Z) Z Z Z Z (B0:=92000) Z Z (aW Z (jf [93,92,45,43,42,11,10,32,7,6,0,1,2] Z (jl Z (au ?_))))))))
 refine jo Z (au ?_)
 refine js Z (jf [15,14,45,43,42,11,10,32,7,6,0,1,2] Z (aZ (js Z (jn (ar Z (fun z94=>?_) (fun z94=>?_))))))
 refine af ?_
 have htok:(i4 n (c0::r0)).1.ok=true:=by have h9:(i4 n (c0::r0)).2=true:=z94;unfold i4 at h9 ⊢;rw[fB hgt]at h9 ⊢;exact iu h9
 refine ac Z ?_
 first|refine ji Z ?_|refine cf Z Z ?_
 refine ac Z (jf [99,98,97,95,15,14,45,43,42,11,10,32,7,6,0,1,2] Z (ab O Z Z Z Z (tq (c:=c0) (r:=r0) (t:=(i4 n (c0::r0)).1) h1 h2 hl1) (aa Z) Z Z Z Z (B0:=101000) Z Z (jf [100,97,95,15,14,45,43,42,11,10,32,7,6,0,1,2] Z (aO O [0,1] (bin:=[.box [.d (ur p),.mp 1,.d (.int .i64 (e1).flaw)],jp (cm (e1).es)]) Z Z Z Z (iha (c0:=c0) (r0:=r0++[(i4 n (c0::r0)).1]) (e:=e1) (hc.snoc htok hcl)) Z Z Z Z Z Z (B0:=102000) Z Z (au ?_)))))
 refine js Z (jf [6,15,14,45,43,42,11,10,32,7,0,1,2] Z (jr ?_))
 have hv:ew (.tight n a) k (c0::r0) e=ew a (k+1) (c0::r0++[(i4 n (c0::r0)).1]) e1:=by rw[he1];exact if_pos (by rw[hs];exact z94)
 refine⟨.inl Z,_,ap [0,1] Z Z (e':=[(6,_)]) ⟨Z,aq⟩ Z,_,Z,?_,?_⟩
 exact congrArg (fun z:Nat=>eI (z:Int)) (by simp only[Pf.size];omega)
 rw[hv];rfl
 refine al (ah (af (aT Z (js Z (jf [106,15,14,45,43,42,11,10,32,7,6,0,1,2] Z (jn (ar Z (fun z106=>?_) (fun z106=>?_))))))))
 refine ag (aT Z (jf [110,108,15,14,45,43,42,11,10,32,7,6,0,1,2] Z (jo Z (au ?_))))
 refine jf [15,14,45,43,42,11,10,32,7,6,0,1,2] Z (aZ (ac Z (jr ?_)))
 have hv:ew (.tight n a) k (c0::r0) e=e1.bad k:=by rw[he1];exact if_neg (by rw[show(dY n (c0::r0)&&(i4 n (c0::r0)).2)=false by rw[show(i4 n (c0::r0)).2=false from z94,Bool.and_false]];decide)
 rw[lj (cN z106)]at hv
 refine⟨.inl Z,_,ap [0,1] Z Z (e':=[(6,_)]) ⟨Z,aq⟩ Z,_,Z,?_,?_⟩
 rfl
 rw[hv];rfl
 refine al (af (ac Z (jf [6,15,14,45,43,42,11,10,32,7,0,1,2] Z (jr ?_))))
 have hv:ew (.tight n a) k (c0::r0) e=e1.bad k:=by rw[he1];exact if_neg (by rw[show(dY n (c0::r0)&&(i4 n (c0::r0)).2)=false by rw[show(i4 n (c0::r0)).2=false from z94,Bool.and_false]];decide)
 rw[ll (de z106)]at hv
 refine⟨.inl Z,_,ap [0,1] Z Z (e':=[(6,_)]) ⟨Z,aq⟩ Z,_,Z,?_,?_⟩
 rfl
 rw[hv];rfl
 refine al (ah (af (aT Z (js Z (jf [106,45,43,42,11,10,32,7,6,0,1,2] Z (jn (ar Z (fun z106=>?_) (fun z106=>?_))))))))
 refine ag (aT Z (jf [110,108,45,43,42,11,10,32,7,6,0,1,2] Z (jo Z (au ?_))))
 refine jf [45,43,42,11,10,32,7,6,0,1,2] Z (aZ (ac Z (jr ?_)))
 have hv:ew (.tight n a) k (c0::r0) e=e1.bad k:=by rw[he1];exact if_neg (by rw[show dY n (c0::r0)=false by have h9:=z84;rw[uu]at h9;exact h9,Bool.false_and];decide)
 rw[lj (cN z106)]at hv
 refine⟨.inl Z,_,ap [0,1] Z Z (e':=[(6,_)]) ⟨Z,aq⟩ Z,_,Z,?_,?_⟩
 rfl
 rw[hv];rfl
 refine al (af (ac Z (jf [6,45,43,42,11,10,32,7,0,1,2] Z (jr ?_))))
 have hv:ew (.tight n a) k (c0::r0) e=e1.bad k:=by rw[he1];exact if_neg (by rw[show dY n (c0::r0)=false by have h9:=z84;rw[uu]at h9;exact h9,Bool.false_and];decide)
 rw[ll (de z106)]at hv
 refine⟨.inl Z,_,ap [0,1] Z Z (e':=[(6,_)]) ⟨Z,aq⟩ Z,_,Z,?_,?_⟩
 rfl
 rw[hv];rfl
 exact absurd hA.2.2.1 (de z75)
theorem rM{L:Nat}(h1:4096≤L)(h2:L≤1073741824){p:List Nd}(hpl:p.length≤1000): ∀{t:Pf} {k:Nat},t.At p k→∀{c0:Tm} {r0:List Tm} {e:Ex},CtxOk (c0::r0)→
  MC Tryz.prog L 74 [.c (.pt 0 0 0),eI k,cO (c0::r0)] (xH p e) (cD (eI ((k+t.size:Nat):Int)) (xH p (ew t k (c0::r0) e)))
 | .close n,k,h,_,_,_,hc=>ud h1 h2 h hc hpl
 | .split n a b,k,h,_,_,_,hc=>uc h1 h2 h hc hpl (fun hc'=>rM h1 h2 hpl h.2.2.2.1 hc') (fun hc'=>rM h1 h2 hpl h.2.2.2.2 hc')
 | .tight n a,k,h,_,_,_,hc=>ub h1 h2 h hc hpl (fun hc'=>rM h1 h2 hpl h.2.2.2 hc')
def fl(b:Nat→Bool):Nat→Nat→Int→Int
  | _,0,f=>f
  | k,n+1,f=>fl b (k+1) n (if b k=true∧f<0 then(k:Int)else f)
theorem lC{b:Nat→Bool}: ∀{n k:Nat} {f:Int},(∀j,k≤j→j<k+n→b j=false)→fl b k n f=f
 | 0,_,_,_=>rfl
 | n+1,k,f,h=>by
  unfold fl
  rw[h k (bP _) (by omega),if_neg (by simp)]
  exact lC fun j h1 h2=>h j (by omega) (by omega)
theorem m7{b:Nat→Bool}: ∀{m n k:Nat} {f:Int},fl b k (m+n) f=fl b (k+m) n (fl b k m f)
 | 0,n,k,f=>by rw[Nat.zero_add];rfl
 | m+1,n,k,f=>by
  rw[show m+1+n=(m+n)+1 by omega]
  show fl b (k+1) (m+n) _=fl b (k+(m+1)) n (fl b (k+1) m _)
  rw[m7,show k+1+m=k+(m+1) by omega]
theorem sB{b:Nat→Bool}{n k:Nat}{f:Int}:fl b k (n+1) f=if b (k+n)=true∧fl b k n f<0 then((k+n:Nat):Int)else fl b k n f:=by
 rw[m7];rfl
structure Eqs(p:List Nd)(c0:List Tm)(H:Nat→Bool)(A:Nat→List Tm)(R:Nat→Bool):Prop where
  h0:0<p.length→H 0=true∧A 0=c0
  h: ∀j,0<j→j<p.length→H j=R (kk p j j).1.toNat
  a: ∀j,0<j→j<p.length→H j=true→A j=fz (p.getD (kk p j j).1.toNat default) (A (kk p j j).1.toNat) (kk p j j).2
  r: ∀j,j<p.length→R j=(H j&&em (p.getD j default) (A j))
theorem f9{p:List Nd}{c0:List Tm}(hp:gD p=true)(h0:CtxOk c0){n:Nat}: ∀{m:Nat},n≤m→m≤p.length→∀j,j<n→
    (aX p c0 m).all.getD j default=(aX p c0 n).all.getD j default∧(aX p c0 m).has.getD j default=(aX p c0 n).has.getD j default∧(aX p c0 m).right.getD j default=(aX p c0 n).right.getD j default
 | 0,h,_,j,hj=>by omega
 | m+1,h,hm,j,hj=>by
  by_cases e:n=m+1
  subst e;exact⟨rfl,rfl,rfl⟩
  have ih:=f9 hp h0 (n:=n) (m:=m) (by omega) (by omega) j hj
  have hz:=jP (c0:=c0) hp h0 (k:=m) (by omega)
  show((aX p c0 m).all++[_]).getD j default=_∧((aX p c0 m).has++[_]).getD j default=_∧((aX p c0 m).right++[_]).getD j default=_
  rw[cy,cy,cy,hz.all,hz.has,hz.right,if_neg (by omega),if_neg (by omega),if_neg (by omega)]
  exact ih
theorem fI{p:List Nd}{c0:List Tm}(hp:gD p=true)(h0:CtxOk c0){j:Nat}(hj:j<p.length) :
    (aX p c0 p.length).all.getD j default=oT p c0 j (aX p c0 j)∧(aX p c0 p.length).has.getD j default=gI p j (aX p c0 j)∧(aX p c0 p.length).right.getD j default=io p c0 j (aX p c0 j):=by
 have h1:=f9 (c0:=c0) hp h0 (n:=j+1) (m:=p.length) (by omega) (bP _) j (by omega)
 have hz:=jP (c0:=c0) hp h0 (k:=j) (by omega)
 rw[h1.1,h1.2.1,h1.2.2]
 show((aX p c0 j).all++[_]).getD j default=_∧((aX p c0 j).has++[_]).getD j default=_∧((aX p c0 j).right++[_]).getD j default=_
 rw[cy,cy,cy,hz.all,hz.has,hz.right,if_pos Z,if_pos Z,if_pos Z]
 exact⟨Z,Z,Z⟩
theorem pr{p:List Nd}{c0:List Tm}(hp:gD p=true)(h0:CtxOk c0) :
    Eqs p c0 (fun j=>(aX p c0 p.length).has.getD j default) (fun j=>(aX p c0 p.length).all.getD j default) (fun j=>(aX p c0 p.length).right.getD j default):=by
 refine⟨fun h=>?_,fun j hj0 hj=>?_,fun j hj0 hj hH=>?_,fun j hj=>?_⟩
 have:=fI (c0:=c0) hp h0 h
 exact⟨this.2.1,this.1⟩
 have h1:=fI (c0:=c0) hp h0 hj
 obtain⟨a,ha,hak⟩:=mY hp hj0 hj
 have h2:=f9 (c0:=c0) hp h0 (n:=j) (m:=p.length) (by omega) (bP _) a hak
 show(aX p c0 p.length).has.getD j default=_
 rw[h1.2.1,gI,if_neg (by omega)]
 show _=(aX p c0 p.length).right.getD _ default
 rw[ha,Int.toNat_natCast,h2.2.2]
 have h1:=fI (c0:=c0) hp h0 hj
 obtain⟨a,ha,hak⟩:=mY hp hj0 hj
 have h2:=f9 (c0:=c0) hp h0 (n:=j) (m:=p.length) (by omega) (bP _) a hak
 have hH:(aX p c0 p.length).has.getD j default=true:=hH
 show(aX p c0 p.length).all.getD j default=_
 rw[h1.1,oT,if_neg (by omega),if_pos (by rw[←h1.2.1];exact hH)]
 show _=fz _ ((aX p c0 p.length).all.getD _ default) _
 rw[ha,Int.toNat_natCast,h2.1]
 have h1:=fI (c0:=c0) hp h0 hj
 show(aX p c0 p.length).right.getD j default=_
 rw[h1.2.2,io,←h1.1,←h1.2.1]
theorem j5{p:List Nd}{c0:List Tm}(hp:gD p=true)(h0:CtxOk c0): ∀{n:Nat},n≤p.length→
    (aX p c0 n).flaw=fl (fun j=>(aX p c0 p.length).has.getD j default&& !(aX p c0 p.length).right.getD j default) 0 n (-1)
 | 0,_=>rfl
 | n+1,hn=>by
  have h1:=fI (c0:=c0) hp h0 (show n<p.length by omega)
  rw[sB,←j5 hp h0 (n:=n) (by omega),Nat.zero_add,h1.2.1,h1.2.2]
  show(if((gI p n (aX p c0 n)&& !io p c0 n (aX p c0 n))&&decide ((aX p c0 n).flaw<0))=true then(n:Int)else(aX p c0 n).flaw)=_
  simp only[aN,decide_eq_true_eq]
theorem Pf.At.nested{p:List Nd}: ∀{t:Pf} {k i:Nat},t.At p k→k≤i→i<k+t.size→Al.endP p i≤((k+t.size:Nat):Int)
 | .close x,k,i,h,h1,h2=>by
  simp only[Pf.size]at h2
  obtain rfl:i=k:=by omega
  rw[h.endP];omega
 | .tight x a,k,i,h,h1,h2=>by
  by_cases e:i=k
  subst e;rw[h.endP];omega
  simp only[Pf.size]at h2 ⊢
  have:=h.2.2.2.nested (i:=i) (by omega) (by omega)
  omega
 | .split x a b,k,i,h,h1,h2=>by
  by_cases e:i=k
  subst e;rw[h.endP];omega
  simp only[Pf.size]at h2 ⊢
  by_cases e2:i<k+1+a.size
  have:=h.2.2.2.1.nested (i:=i) (by omega) (by omega)
  omega
  have:=h.2.2.2.2.nested (i:=i) (by omega) (by omega)
  omega
theorem mq{p:List Nd}{k lo:Nat}: ∀{hi:Nat},lo≤hi→(∀i,lo≤i→i<hi→Al.endP p i≤k)→kk p k hi=kk p k lo
 | 0,h,_=>by
  obtain rfl:lo=0:=by omega
  rfl
 | hi+1,h,hs=>by
  by_cases e:lo=hi+1
  rw[e]
  rw[kk,if_pos (.inr (hs hi (by omega) (by omega)))]
  exact mq (by omega) fun i h1 h2=>hs i h1 (by omega)
theorem f6{p:List Nd}{k:Nat}(hk:(p.getD k default).kind≠1)(he:((k+1:Nat):Int)<Al.endP p k):kk p (k+1) (k+1)=((k:Int),true):=by
 rw[kk,if_neg (by rintro(h|h);exact hk h;omega)]
 simp
theorem jW{p:List Nd}{k m:Nat}(hm:0<m)(hk:(p.getD k default).kind≠1)(he:((k+1+m:Nat):Int)<Al.endP p k)(hs: ∀i,k+1≤i→i<k+1+m→Al.endP p i≤((k+1+m:Nat):Int)):kk p (k+1+m) (k+1+m)=((k:Int),false):=by
 rw[mq (lo:=k+1) (by omega) hs,kk,if_neg (by rintro(h|h);exact hk h;omega)]
 simp;omega
theorem Pf.At.dead{p:List Nd}{c0 H A R}(E:Eqs p c0 H A R): ∀{t:Pf} {k:Nat},t.At p k→H k=false→∀j,k≤j→j<k+t.size→H j=false
 | .close x,k,h,hk,j,h1,h2=>by
  simp only[Pf.size]at h2
  obtain rfl:j=k:=by omega
  exact hk
 | .tight x a,k,h,hk,j,h1,h2=>by
  by_cases e:j=k
  subst e;exact hk
  have hl:=h.le
  have hp:=bk (t:=a)
  simp only[Pf.size]at h2 hl
  have hpar:=f6 (p:=p) (k:=k) (by rw[(aV h.1).2,h.2.2.1];decide) (by rw[h.endP];simp only[Pf.size];omega)
  refine h.2.2.2.dead E ?_ j (by omega) (by omega)
  rw[E.h (k+1) (by omega) (by omega),hpar,Int.toNat_natCast,E.r k (by omega),hk];rfl
 | .split x a b,k,h,hk,j,h1,h2=>by
  by_cases e:j=k
  subst e;exact hk
  have hl:=h.le
  have hp:=bk (t:=a)
  have hq:=bk (t:=b)
  simp only[Pf.size]at h2 hl
  have hkk:(p.getD k default).kind≠1:=by rw[(aV h.1).2,h.2.2.1];decide
  have hend:Al.endP p k=((k+1+a.size+b.size:Nat):Int):=by rw[h.endP];simp only[Pf.size];omega
  have hpar:=f6 (p:=p) (k:=k) hkk (by rw[hend];omega)
  have hpar2:=jW (p:=p) (k:=k) (m:=a.size) hp hkk (by rw[hend];omega) (fun i h1 h2=>h.2.2.2.1.nested h1 h2)
  have hr:R k=false:=by rw[E.r k (by omega),hk];rfl
  by_cases e2:j<k+1+a.size
  refine h.2.2.2.1.dead E ?_ j (by omega) (by omega)
  rw[E.h (k+1) (by omega) (by omega),hpar,Int.toNat_natCast,hr]
  refine h.2.2.2.2.dead E ?_ j (by omega) (by omega)
  rw[E.h (k+1+a.size) (by omega) (by omega),hpar2,Int.toNat_natCast,hr]
theorem tM{n:Nd}{c:List Tm}(h:n.kind=2):em n c=dg n c:=by
 unfold em dg
 rw[if_neg (by omega),kx]
 by_cases h1:20≤c.length
 rw[if_pos h1,decide_eq_false (by omega),Bool.false_and]
 rw[if_neg h1,if_pos h,decide_eq_true (by omega),Bool.true_and]
theorem tL{n:Nd}{c:List Tm}(hn:cQ n=true)(h:n.kind=3)(hc:CtxOk c):em n c=(dY n c&&(i4 n c).2):=by
 have hf:=mw hn
 unfold em dY i4 jg
 rw[if_neg (by omega)]
 by_cases h1:20≤c.length
 rw[if_pos h1,decide_eq_false (show¬(c.length:Int)<20 by omega),Bool.false_and,Bool.false_and]
 rw[if_neg h1,if_neg (by omega),decide_eq_true (show(c.length:Int)<20 by omega),Bool.true_and,decide_eq_true hf,Bool.true_and]
 by_cases h2:n.fact≥c.length
 rw[if_pos h2,decide_eq_false (by omega),Bool.false_and]
 rw[if_neg h2,decide_eq_true (by omega),Bool.true_and,fB (hc.get (by omega))]
theorem m6{b:Nat→Bool}{n k:Nat}{f:Int}(hk:b k=true)(h: ∀j,k<j→j<k+(n+1)→b j=false):fl b k (n+1) f=if f<0 then(k:Int)else f:=by
 unfold fl
 rw[lC fun j h1 h2=>h j (by omega) (by omega)]
 simp[hk]
theorem oC{b:Nat→Bool}{n k:Nat}{f:Int}(hk:b k=false):fl b k (n+1) f=fl b (k+1) n f:=by
 rw[fl,if_neg (by simp[hk])]
def k6(H:Nat→Bool)(A:Nat→List Tm)(j:Nat):Option (List Tm):=if H j=true then some (A j)else none
theorem Pf.At.exam{p:List Nd}{c0 H A R}(E:Eqs p c0 H A R): ∀{t:Pf} {k:Nat} {e:Ex},t.At p k→H k=true→CtxOk (A k)→(∀j,k≤j→j<k+t.size→dA e.es j=none)→
    (ew t k (A k) e).flaw=fl (fun j=>H j&& !R j) k t.size e.flaw∧∀j:Nat,dA (ew t k (A k) e).es j=if k≤j∧j<k+t.size then k6 H A j else dA e.es j
 | .close x,k,e,h,hk,hc,hn=>by
  obtain⟨hl,hg⟩:=aV h.1
  have hr:R k=bd (A k) x.mul:=by rw[E.r k hl,hk,hg,em,if_pos h.2.2,Bool.true_and,iF]
  have hes: ∀j:Nat,dA (e.put k (A k)).es j=if k≤j∧j<k+1 then k6 H A j else dA e.es j:=fun j=>by
   show dA (ig e.es k (A k)) j=_
   rw[gS]
   by_cases e1:j=k
   · subst e1;rw[if_pos rfl,if_pos (by omega),k6,if_pos hk]
   · rw[if_neg (by omega),if_neg (by omega)]
  unfold ew
  cases hcl:bd (A k) x.mul with
  | true=>
   rw[if_pos Z]
   refine⟨?_,hes⟩
   show e.flaw=_
   have h0: ∀j,k≤j→j<k+1→(H j&& !R j)=false:=fun j h1 h2=>by
    obtain rfl:j=k:=by omega
    rw[hr,hcl];simp
   rw[Pf.size,lC h0]
  | false=>
   rw[if_neg (by decide)]
   have hb:(fun j=>H j&& !R j) k=true:=by show(H k&& !R k)=true;rw[hk,hr,hcl];rfl
   refine⟨?_,fun j=>?_⟩
   show((e.put k (A k)).bad k).flaw=fl _ k (0+1) _
   rw[m6 hb (fun j h1 h2=>by omega)]
   unfold Ex.bad
   show(if e.flaw<0 then _ else _:Ex).flaw=_
   split<;>rfl
   rw[Pf.size,←hes j]
   unfold Ex.bad
   split<;>rfl
 | .tight x a,k,e,h,hk,hc,hn=>by
  obtain⟨hl,hg⟩:=aV h.1
  have hll:=h.le
  have hp:=bk (t:=a)
  simp only[Pf.size]at hll hn
  have hr:R k=(dY x (A k)&&(i4 x (A k)).2):=by rw[E.r k hl,hk,hg,tL h.2.1 h.2.2.1 hc,Bool.true_and]
  have hpar:=f6 (p:=p) (k:=k) (by rw[hg,h.2.2.1];decide) (by rw[h.endP];simp only[Pf.size];omega)
  have hH1:H (k+1)=R k:=by rw[E.h (k+1) (by omega) (by omega),hpar,Int.toNat_natCast]
  have hput: ∀j:Nat,dA (e.put k (A k)).es j=if j=k then some (A k)else dA e.es j:=fun j=>by
   show dA (ig e.es k (A k)) j=_
   rw[gS]
   by_cases e1:j=k
   · rw[if_pos e1,if_pos (by omega)]
   · rw[if_neg (by omega),if_neg e1]
  unfold ew
  cases hcl:(dY x (A k)&&(i4 x (A k)).2)with
  | true=>
   rw[hcl]at hr
   rw[if_pos Z]
   rw[hr]at hH1
   have hcl':=hcl
   simp only[dY,jg,aN,decide_eq_true_eq]at hcl'
   have hA1:A (k+1)=A k++[(i4 x (A k)).1]:=by
    rw[E.a (k+1) (by omega) (by omega) hH1,hpar,Int.toNat_natCast,hg,fz,if_pos h.2.2.1]
    unfold i4
    rw[fB (hc.get (by omega))]
   have htok:(i4 x (A k)).1.ok=true:=by
    have h9:=hcl'.2
    unfold i4 at h9 ⊢
    rw[fB (hc.get (by omega))]at h9 ⊢
    exact iu h9
   have ih:=h.2.2.2.exam E (e:=e.put k (A k)) hH1 (by rw[hA1];exact hc.snoc htok hcl'.1.1) (fun j h1 h2=>by rw[hput,if_neg (by omega)];exact hn j (by omega) (by omega))
   rw[hA1]at ih
   refine⟨?_,fun j=>?_⟩
   rw[ih.1,Pf.size,Nat.add_comm 1,oC (by show(H k&& !R k)=false;rw[hr];simp)]
   rfl
   rw[ih.2 j,hput j,Pf.size]
   by_cases e1:j=k
   subst e1;rw[if_neg (by omega),if_pos rfl,if_pos (by omega),k6,if_pos hk]
   by_cases e2:k+1≤j∧j<k+1+a.size
   rw[if_pos e2,if_pos (by omega)]
   rw[if_neg e2,if_neg e1,if_neg (by omega)]
  | false=>
   rw[hcl]at hr
   rw[if_neg (by decide)]
   rw[hr]at hH1
   have hd:=h.2.2.2.dead E hH1
   have hb:(fun j=>H j&& !R j) k=true:=by show(H k&& !R k)=true;rw[hk,hr];rfl
   refine⟨?_,fun j=>?_⟩
   rw[Pf.size,Nat.add_comm 1,m6 hb (fun j h1 h2=>by show(H j&& !R j)=false;rw[hd j (by omega) (by omega)];rfl)]
   unfold Ex.bad
   show(if e.flaw<0 then _ else _:Ex).flaw=_
   split<;>rfl
   have:dA ((e.put k (A k)).bad k).es j=dA (e.put k (A k)).es j:=by unfold Ex.bad;split<;>rfl
   rw[this,hput j,Pf.size]
   by_cases e1:j=k
   subst e1;rw[if_pos rfl,if_pos (by omega),k6,if_pos hk]
   rw[if_neg e1]
   by_cases e2:k≤j∧j<k+(1+a.size)
   rw[if_pos e2,k6,hd j (by omega) (by omega),if_neg (by decide)]
   exact hn j e2.1 (by omega)
   rw[if_neg e2]
 | .split x a b,k,e,h,hk,hc,hn=>by
  obtain⟨hl,hg⟩:=aV h.1
  have hll:=h.le
  have hp:=bk (t:=a)
  have hq:=bk (t:=b)
  simp only[Pf.size]at hll hn
  have hr:R k=dg x (A k):=by rw[E.r k hl,hk,hg,tM h.2.2.1,Bool.true_and]
  have hkk:(p.getD k default).kind≠1:=by rw[hg,h.2.2.1];decide
  have hend:Al.endP p k=((k+1+a.size+b.size:Nat):Int):=by rw[h.endP];simp only[Pf.size];omega
  have hpar:=f6 (p:=p) (k:=k) hkk (by rw[hend];omega)
  have hpar2:=jW (p:=p) (k:=k) (m:=a.size) hp hkk (by rw[hend];omega) (fun i h1 h2=>h.2.2.2.1.nested h1 h2)
  have hH1:H (k+1)=R k:=by rw[E.h (k+1) (by omega) (by omega),hpar,Int.toNat_natCast]
  have hH2:H (k+1+a.size)=R k:=by rw[E.h (k+1+a.size) (by omega) (by omega),hpar2,Int.toNat_natCast]
  have hput: ∀j:Nat,dA (e.put k (A k)).es j=if j=k then some (A k)else dA e.es j:=fun j=>by
   show dA (ig e.es k (A k)) j=_
   rw[gS]
   by_cases e1:j=k
   · rw[if_pos e1,if_pos (by omega)]
   · rw[if_neg (by omega),if_neg e1]
  unfold ew
  cases hcl:dg x (A k)with
  | true=>
   rw[hcl]at hr
   rw[if_pos Z]
   rw[hr]at hH1 hH2
   have hcl':=hcl
   simp only[dg,aN,decide_eq_true_eq]at hcl'
   have hA1:A (k+1)=A k++[x.term]:=by
    rw[E.a (k+1) (by omega) (by omega) hH1,hpar,Int.toNat_natCast,hg,fz,if_neg (by rw[h.2.2.1];decide),if_pos Z]
   have hA2:A (k+1+a.size)=A k++[bq x.term]:=by
    rw[E.a (k+1+a.size) (by omega) (by omega) hH2,hpar2,Int.toNat_natCast,hg,fz,if_neg (by rw[h.2.2.1];decide),if_neg (show¬((k:Int),false).2=true from Bool.false_ne_true),qg hcl'.2]
   have ih1:=h.2.2.2.1.exam E (e:=e.put k (A k)) hH1 (by rw[hA1];exact hc.snoc (gT h.2.1) hcl'.1) (fun j h1 h2=>by rw[hput,if_neg (by omega)];exact hn j (by omega) (by omega))
   rw[hA1]at ih1
   have ih2:=h.2.2.2.2.exam E (e:=ew a (k+1) (A k++[x.term]) (e.put k (A k))) hH2 (by rw[hA2];exact hc.snoc hcl'.2 hcl'.1) (fun j h1 h2=>by
    rw[ih1.2 j,if_neg (by omega),hput,if_neg (by omega)];exact hn j (by omega) (by omega))
   rw[hA2]at ih2
   refine⟨?_,fun j=>?_⟩
   rw[ih2.1,ih1.1,Pf.size,show 1+a.size+b.size=(a.size+b.size)+1 by omega,oC (by show(H k&& !R k)=false;rw[hr];simp),m7]
   rfl
   rw[ih2.2 j,ih1.2 j,hput j,Pf.size]
   by_cases e1:j=k
   subst e1;rw[if_neg (by omega),if_neg (by omega),if_pos rfl,if_pos (by omega),k6,if_pos hk]
   by_cases e2:k+1+a.size≤j∧j<k+1+a.size+b.size
   rw[if_pos e2,if_pos (by omega)]
   rw[if_neg e2]
   by_cases e3:k+1≤j∧j<k+1+a.size
   rw[if_pos e3,if_pos (by omega)]
   rw[if_neg e3,if_neg e1,if_neg (by omega)]
  | false=>
   rw[hcl]at hr
   rw[if_neg (by decide)]
   rw[hr]at hH1 hH2
   have hd1:=h.2.2.2.1.dead E hH1
   have hd2:=h.2.2.2.2.dead E hH2
   have hd: ∀j,k<j→j<k+(1+a.size+b.size)→H j=false:=fun j h1 h2=>by
    by_cases e2:j<k+1+a.size
    · exact hd1 j (by omega) e2
    · exact hd2 j (by omega) (by omega)
   have hb:(fun j=>H j&& !R j) k=true:=by show(H k&& !R k)=true;rw[hk,hr];rfl
   refine⟨?_,fun j=>?_⟩
   rw[Pf.size,show 1+a.size+b.size=(a.size+b.size)+1 by omega,m6 hb (fun j h1 h2=>by show(H j&& !R j)=false;rw[hd j h1 (by omega)];rfl)]
   unfold Ex.bad
   show(if e.flaw<0 then _ else _:Ex).flaw=_
   split<;>rfl
   have:dA ((e.put k (A k)).bad k).es j=dA (e.put k (A k)).es j:=by unfold Ex.bad;split<;>rfl
   rw[this,hput j,Pf.size]
   by_cases e1:j=k
   subst e1;rw[if_pos rfl,if_pos (by omega),k6,if_pos hk]
   rw[if_neg e1]
   by_cases e2:k≤j∧j<k+(1+a.size+b.size)
   rw[if_pos e2,k6,hd j (by omega) e2.2,if_neg (by decide)]
   exact hn j e2.1 (by omega)
   rw[if_neg e2]
theorem sC{p:List Nd}{c0:List Tm}{t:Pf}(hp:gD p=true)(h0:CtxOk c0)(ht:t.At p 0)(hs:t.size=p.length) :
    (ew t 0 c0 ⟨[],-1⟩).flaw=(aX p c0 p.length).flaw∧∀j:Nat,j<p.length→dA (ew t 0 c0 ⟨[],-1⟩).es j=if(aX p c0 p.length).has.getD j default=true then some ((aX p c0 p.length).all.getD j default)else none:=by
 have hl:=(eF hp).1
 have E:=pr (c0:=c0) hp h0
 have h1:=E.h0 (by omega)
 have h2:=ht.exam E (e:=⟨[],-1⟩) h1.1 (by rw[h1.2];exact h0) (fun j _ _=>rfl)
 rw[h1.2]at h2
 refine⟨?_,fun j hj=>?_⟩
 rw[h2.1,j5 (c0:=c0) hp h0 (bP _),hs]
 rw[h2.2 j,if_pos (by omega)];rfl
theorem lF{s:Sq}(h:ii s=true):bT s=eC s:=by
 unfold bT eC
 rw[h,Bool.true_and,kx]
 split
 rename_i ho;rw[qg ho]
 rfl
theorem lh{s:Sq}(h:(bT s).2=true):ii s=true∧(bq s.goal).ok=true:=by
 unfold bT at h
 split at h
 rename_i h1;simpa using h1
 cases h
theorem kU{s:Sq}(h:(bT s).2=true): ∃c r,(bT s).1=c::r∧CtxOk (c::r):=by
 obtain⟨h1,h2⟩:=lh h
 have h3:CtxOk (bT s).1:=by rw[lF h1];exact oK h1
 unfold bT at h3 ⊢
 rw[h1,h2]at h3 ⊢
 simp only[Bool.and_true,if_true]at h3 ⊢
 cases hf:s.facts with
 | nil=>rw[hf]at h3;exact⟨_,_,rfl,h3⟩
 | cons c r=>rw[hf]at h3;exact⟨_,_,rfl,h3⟩
abbrev E0(s:Sq)(t:Pf):Ex:=ew t 0 (bT s).1 ⟨[],-1⟩
theorem wP{t:Pf}(h:(bT s).2=true)(hI:ku p=true)(ht:t.At p 0)(hts:t.size=p.length):MQ h1 h2 34 [kj s,bN p] [] (cD (.tup [.c (.pt 0 0 0),eB true]) (xH p (E0 s t))):=by
 refine jB 29 h1 h2 Tryz.func34 Z fun O hF=>?_
 obtain⟨c0,r0,hcr,hco⟩:=kU h
 have hpl:=(gX hI).1
 refine af (jx Z (au ?_))
 refine ac Z (aZ (js Z (jf [10,5,4,0,1] Z (ab O Z Z Z Z (tw (s:=s) h1 h2) (aa Z) Z Z Z Z (B0:=12000) Z Z (aT Z (js Z (jf [7,6,5,4,0,1] Z (jn (ah (af (aW Z (jf [16,6,5,4,0,1] Z (aG 3 Z Z Z (fun hx=>aB hx Z (cH O hx Z Z Z Z (qa (p:=p) h1 h2) (aa Z) Z Z Z Z Z Z Z (B0:=19000) Z (aB hx Z (AN.nil)))) Z Z ?_)))))))))))))
 first|refine aj (aD O Z Z Z Z Z) Z ?_|refine aj (Val.pickB O Z Z Z Z Z) Z ?_|refine aj (aw O Z Z Z Z Z) Z ?_
 refine jf [20,6,5,4,0,1] Z (jn (ar Z (fun z20=>?_) (fun z20=>?_)))
 exact absurd z20 (by rw[h,hI];decide)
 refine al (af ?_)
 rw[E0,hcr]
 refine js Z (jf [21,6,5,4,0,1] Z (aI (HS.makeMap O Z Z Z Z) Z (au ?_)))
 refine au ?_
 refine js Z (jf [23,6,5,4,0,1] Z (jx Z (au ?_)))
 refine js Z (jf [8,6,5,4,0,1] Z (aZ (ac Z (jf [26,25,8,5,4,0,1] Z (aO O [24,22] (bin:=[.box [.d (ur p),.mp 1,.d (.int .i64 (Ex.flaw ⟨[],-1⟩))],jp (cm (Ex.es ⟨[],-1⟩))]) Z Z Z Z (rM (k:=0) (c0:=c0) (r0:=r0) (e:=⟨[],-1⟩) h1 h2 (by omega) ht hco) Z Z Z Z Z Z (B0:=28000) Z Z (au ?_))))))
 refine jf [8,5,4,0,1] Z (aZ (aW Z (jr ?_)))
 refine⟨.inl Z,_,(ap [24,22] (e':=[(4,_),(5,_)]) Z Z ⟨Z,Z,aq⟩ Z).trans ((ax 24 0 Z Z).trans (ax 22 1 Z Z)),_,Z,Z,Z⟩
theorem wQ(hn:((bT s).2&&ku p)=false):MQ h1 h2 34 [kj s,bN p] [] (Plain (.tup [.c (.d .nilp),eB false])):=by
 refine MC.data (jB 29 h1 h2 Tryz.func34 Z fun O hF=>?_)
 refine af (jx Z (au ?_))
 refine ac Z (aZ (js Z (ab O Z Z Z Z (tw (s:=s) h1 h2) (aa Z) Z Z Z Z (B0:=12000) Z Z (aT Z (js Z (jn (ah (af (aW Z (aG 3 Z Z Z (fun hx=>aB hx Z (cH O hx Z Z Z Z (qa (p:=p) h1 h2) (aa Z) Z Z Z Z Z Z Z (B0:=19000) Z (aB hx Z (AN.nil)))) Z Z ?_))))))))))
 first|refine aj (aD O Z Z Z Z Z) Z ?_|refine aj (Val.pickB O Z Z Z Z Z) Z ?_|refine aj (aw O Z Z Z Z Z) Z ?_
 refine jn (ar Z (fun z20=>?_) (fun z20=>?_))
 refine af (ac Z (jr ?_))
 refine aC Z ?_
 exact .tup (.cons (.c .d) (.cons (.c .d) .nil))
 exact absurd z20 (by rw[g2,hn];decide)
theorem wM{t:Pf}(h:(bT s).2=true)(hI:ku p=true)(ht:t.At p 0)(hts:t.size=p.length):MQ h1 h2 11 [kj s,bN p] [] (Plain (eB (decide ((E0 s t).flaw<0)))):=by
 refine aH ?_ Z
 refine jB 21 h1 h2 Tryz.func11 Z fun O hF=>?_
 refine af (jx Z (au ?_))
 refine js Z (aZ (ac Z (pL O Z Z Z Z (wP (s:=s) (p:=p) (t:=t) h1 h2 h hI ht hts) (aa Z) Z Z Z Z (B0:=11000) Z (au ?_))))
 refine aT Z (js Z (aZ (ac Z (aG 5 Z Z Z (fun hx=>aB hx Z (aB hx Z (aB hx Z (aB hx Z (aB hx Z (AN.nil)))))) Z Z ?_))))
 first|refine aj (aw O Z Z Z Z Z) Z ?_|refine aj (aD O Z Z Z Z Z) Z ?_|refine aj (Val.pickB O Z Z Z Z Z) Z ?_
 refine js Z (jr ?_)
 refine aC Z ?_
 rfl
theorem wN(hn:((bT s).2&&ku p)=false):MQ h1 h2 11 [kj s,bN p] [] (Plain (eB false)):=by
 refine aH ?_ Z
 refine jB 21 h1 h2 Tryz.func11 Z fun O hF=>?_
 refine af (jx Z (au ?_))
 refine js Z (aZ (ac Z (ab O Z Z Z Z (wQ (s:=s) (p:=p) h1 h2 hn) (aa Z) Z Z Z Z (B0:=11000) Z Z (aT Z (js Z (aZ (ac Z (i5 Z (i5 Z (i5 Z (i5 Z (i5 Z (aj (aU O Z Z Z Z Z) Z (js Z (jr ?_)))))))))))))))
 refine aC Z ?_
 rfl
theorem qh{s:Sq}{p:List Nd}{t:Pf}(h:(bT s).2=true)(hI:ku p=true)(ht:t.At p 0)(hts:t.size=p.length):decide ((E0 s t).flaw<0)=l4 s p:=by
 obtain⟨h1,h2⟩:=lh h
 have hp:gD p=true:=by rw[←fw];exact hI
 have ho:(df s.goal).2=true:=by rw[kx];exact h2
 have he:=sC (c0:=(eC s).1) hp (oK h1) ht hts
 unfold l4 rI E0
 rw[h1,hp,if_pos ho,lF h1,he.1];rfl
theorem vv{s:Sq}{p:List Nd}(h:((bT s).2&&ku p)=false):l4 s p=false:=by
 unfold l4 rI
 rw[←fw]
 cases h1:ii s with
 | false=>rfl
 | true=>
  rw[lF h1,t6]at h
  cases h2:ku p with
  | false=>rfl
  | true=>rw[h2,Bool.and_true]at h;rw[if_neg (by rw[h];decide)];rfl
theorem wg{L:Nat}(h1:4096≤L)(h2:L≤1073741824){s:Sq}{p:List Nd}:MC Tryz.prog L 11 [kj s,bN p] [] (Plain (eB (l4 s p))):=by
 cases h:((bT s).2&&ku p)with
 | false=>rw[vv h];exact wN h1 h2 h
 | true=>
  rw[aN]at h
  obtain⟨_,t,ht,hts⟩:=gX h.2
  rw[←qh h.1 h.2 ht hts]
  exact wM h1 h2 h.1 h.2 ht hts
end Go.Al
/- What the laws of the certificates share: the types of their arguments; what came in reads as it did. -/
namespace Go.Proofs.YtjjheilajcepfaaGreatDoor
open Go.ChangeShapes Go.WideShapes Go.ChangeAt Go.RowKit Go.Al

theorem ownK:ownKnob Tryz.prog.godebug=none:=by kernel_rfl
theorem kidsK:Kids Tryz.prog (· < Tryz.prog.types.size):=kids_rows (by kernel_rfl) (by kernel_rfl)
theorem fullK: ∀t e,t<Tryz.prog.types.size→Tryz.prog.underlying t=some (.slice e)→0<Tryz.prog.cellsOf e:=slices_full_of Tryz.prog (by kernel_rfl)

theorem fits_all{α:Type}{es:List Ty}{g:α→List D}(hg: ∀e,FitsL es e→∃a,e=g a): ∀{xs:List (List D)},FitsA es xs→∃ys:List α,xs=ys.map g
 | _,.nil=>⟨[],rfl⟩
 | _,.cons h1 h2=>by
  obtain⟨a,rfl⟩:=hg _ h1
  obtain⟨ys,rfl⟩:=fits_all hg h2
  exact⟨a::ys,Z⟩
theorem fits_one{t:Ty}{e:List D}(h:FitsL [t] e): ∃d,e=[d]∧Fits t d:=by
 cases h with
 | cons a h=>cases h;exact⟨_,rfl,a⟩
theorem rdl_rms{L:Nat}{w:World}{ok:Nat→Prop}{m:Nat→Go.Al.Loc}: ∀{ds:List D} {vs:List Value} {F:List Nat},RDL L w ok ds vs F→F=[]→RMs L w ok m (ds.map .d) vs
 | _,_,_,.nil,_=>.nil
 | _,_,_,.cons (F1:=F1) (F2:=F2) h1 h2,hF=>by
  obtain⟨rfl,rfl⟩:=List.append_eq_nil_iff.1 hF
  exact .cons (.d h1) (rdl_rms h2 Z)
section
variable{H:Type}{enc:TypeId×Value→H}{P:Program}{w w':World}
theorem r5(hs: ∀b,b<w.heap.size→Same w w' b){p:MemPlace}(hp:p.block<w.heap.size):w.sameAt w' p:=by
 cases p with
 | cell b o=>exact(hs b hp).cell
 | map b=>exact hs b hp
theorem trodAll_same(hs: ∀b,b<w.heap.size→Same w w' b){base:Nat}{sp:Nat→Bool}{held:Bool}: ∀{ts:List TypeId} {vs:List Value} {ds:List (DataW H)} {ps:List MemPlace},(∀p∈ps,p.block<w.heap.size)→DataW.TrodAll enc P w base sp held ts vs ds ps→DataW.TrodAll enc P w' base sp held ts vs ds ps
 | [],[],[],_,_,h=>h
 | _::_,_::_,_::_,_,hl,⟨p,q,⟨n,h1⟩,h2,e⟩=>
  ⟨p,q,⟨n,DataW.trod_carry n _ _ _ h1 (fun x hx=>r5 hs (hl x (by rw[e];exact List.mem_append_left _ hx)))⟩,trodAll_same hs (fun x hx=>hl x (by rw[e];exact List.mem_append_right _ hx)) h2,e⟩
theorem nv(hf:Go.Al.Frame w w' [])(may:MemPlace→Prop):w.keptBut w' may:=by
 refine⟨hf.os,hf.output,fun i hi=>?_⟩
 have h:=hf.block i hi (by simp)
 unfold Same at h
 rw[h]
 cases hx:w.heap[i]? with
 | none=>trivial
 | some o=>
  cases o with
  | cells c t fr=>exact⟨Z,Z,Z,fun _ _=>rfl⟩
  | map es clock=>exact .inr ⟨Z,Z⟩
  | _=>rfl
theorem nu(hf:Go.Al.Frame w w' []){a:Addr}(ha:a.block<w.heap.size):w'.frozen? a=w.frozen? a:=by
 have h:=hf.block a.block ha (by simp)
 unfold Same at h
 unfold World.frozen?
 rw[h]
theorem post_of_old{f:Func}{s:ChangeSpec}{apart fresh handsOn again:Bool}{args:Array Value}{v:Value}{ds gs:List (DataW H)}{before pa pv:List MemPlace}
    (hW:DataW.Whole enc P f.params.toList s.vars apart w args.toList ds gs before)
    (hres: ∀(b:Nat) (sp:Nat→Bool) (hd:Bool),DataW.TrodAll enc P w' b sp hd f.resultTypes.toList (v.resultList f.resultTypes.size) (s.fn H (ds++gs)).results [])
    (hargs: ∀sp:Nat→Bool,(∀p∈before,sp p.block=true)→DataW.TrodAll enc P w' 0 sp true f.params.toList args.toList (s.fn H (ds++gs)).args pa)
    (hvars: ∀sp:Nat→Bool,(∀p∈before,sp p.block=true)→DataW.TrodVars enc P w' sp s.vars (s.fn H (ds++gs)).vars pv)
    (hps:before=pa++pv) (hf:Go.Al.Frame w w' [])
    (hok: ∀(j:Nat) (t:TypeId) (r:Value),f.resultTypes[j]? = some t→(v.resultList f.resultTypes.size)[j]? = some r→Value.okWide P w' .any 0 t r) :
    s.post enc P f apart fresh handsOn again w args v w':=by
 have hlt:=hW.lt
 have hold: ∀p∈before,(fun b=>decide (b<w.heap.size)) p.block=true:=fun p hp=>by simpa using hlt p hp
 refine⟨ds,gs,before,[],pa,pv,hW,hres _ _ _,hargs _ hold,hvars _ hold,World.keptBut_mono (fun p hp=>⟨hp,?_⟩) (nv hf (· ∈before)),fun _=>?_⟩
 rw[hps,List.mem_append]at hp
 exact Or.inr hp
 obtain⟨_,_,_,_,_,hz,hn⟩:=hW
 refine⟨hok,_,_,([]++pa)++pv,⟨[]++pa,pv,trodAll_append (hargs _ (fun _ _=>rfl)) (hres _ _ _),hvars _ (fun _ _=>rfl),Z,?_,?_⟩,?_⟩
 intro b off hp
 have hp':MemPlace.cell b off∈before:=by rw[hps];simpa using hp
 rw[nu hf (hlt _ hp')]
 exact hz b off hp'
 intro ha
 have:=hn ha
 rw[hps]at this
 simpa using this
 intro p hp _
 rw[hps]
 simpa using hp
end

end Go.Proofs.YtjjheilajcepfaaGreatDoor
namespace Go.Al
variable{L:Nat}(h1:4096≤L)(h2:L≤1073741824)
structure NdAt(n:Nat)(x:Nd):Prop where
  close:x.kind=1→n+1≤x.mul.length∧x.mul.length≤20
  fact:x.kind=3→0≤x.fact∧x.fact≤19
  kind:x.kind=1∨x.kind=2∨x.kind=3
structure MvOk(wb to:Int→Int)(x:Nd):Prop where
  kind:x.kind=1∨x.kind=2∨x.kind=3
  fact:x.kind=3→0≤x.fact∧x.fact≤19
  len:x.kind=1→x.mul.length≤20
  cntb:x.kind=1→0≤wb x.mul.length∧wb x.mul.length≤1000
  rng:x.kind=1→∀i:Nat,i<x.mul.length→to i<wb x.mul.length
structure Rw where
  c:Int
  xs:List Int
  ms:List Int
  deriving Inhabited
theorem kS: ∀{ys:List Int},∃z:Nat,ys.reverse=(ys.dropWhile (· == 0)).reverse++List.replicate z 0
 | []=>⟨0,rfl⟩
 | y::ys=>by
  by_cases h:y=0
  subst h
  obtain⟨z,hz⟩:=kS (ys:=ys)
  refine⟨z+1,?_⟩
  rw[List.reverse_cons,hz,List.replicate_succ',dz]
  rfl
  refine⟨0,?_⟩
  rw[List.dropWhile_cons_of_neg (by simpa using h)]
  simp
theorem ma(xs:List Int): ∃z:Nat,xs=aS xs++List.replicate z 0:=by
 obtain⟨z,hz⟩:=kS (ys:=xs.reverse)
 rw[List.reverse_reverse]at hz
 exact⟨z,hz⟩
theorem kG(xs:List Int)(k:Nat):(aS xs).getD k 0=xs.getD k 0:=by
 obtain⟨z,hz⟩:=ma xs
 conv=>rhs;rw[hz]
 rw[List.getD_eq_getElem?_getD,List.getD_eq_getElem?_getD,List.getElem?_append]
 split
 rfl
 rename_i h
 rw[List.getElem?_eq_none (by omega),List.getElem?_replicate]
 split<;>rfl
theorem mI(xs:List Int):(aS xs).length≤xs.length:=by
 obtain⟨z,hz⟩:=ma xs
 have:=congrArg List.length hz
 rw[dS]at this
 omega
theorem nE{ys:List Int}:ys.dropWhile (· == 0)=[]∨∃y r,ys.dropWhile (· == 0)=y::r∧y≠0:=by
 induction ys with
 | nil=>exact .inl Z
 | cons y ys ih=>
  by_cases h:y=0
  rw[List.dropWhile_cons_of_pos (by simpa using h)];exact ih
  rw[List.dropWhile_cons_of_neg (by simpa using h)];exact .inr ⟨y,ys,rfl,h⟩
theorem qH(xs:List Int):aS xs=[]∨(aS xs).getD ((aS xs).length-1) default≠0:=by
 unfold aS
 rcases nE (ys:=xs.reverse)with h|⟨y,r,h,hy⟩
 rw[h];exact .inl Z
 rw[h]
 refine .inr ?_
 rw[List.reverse_cons]
 simp[hy]
structure ROk(n:Nat)(r:Rw):Prop where
  c:dT r.c=true
  xs:r.xs.all dT=true
  l:r.xs.length=10
  ms:r.ms.all co=true
  n:r.ms.length=n
  rA: ∃x∈r.ms,0<x
structure Fs(ts:List Tm):Prop where
  ok: ∀t∈ts,t.ok=true
  len:ts.length≤14
structure In where
  op:Int
  a:Int
  deriving Inhabited,DecidableEq
structure Pt where
  k:Int
  fs:List Tm
  deriving Inhabited,DecidableEq
structure An where
  pre:List Tm
  post:List Tm
  code:List In
  pts:List Pt
  deriving Inhabited,DecidableEq
def m4(x:In):Bool:=
  if x.op=0∨x.op=4 then dT x.a else if x.op=1∨x.op=2 then jg 0 3 x.a else if x.op=5∨x.op=6 then jg 0 79 x.a else if x.op=9 then jg 0 3 x.a
  else if x.op=3∨x.op=7∨x.op=8∨x.op=10∨x.op=11 then decide (x.a=0)else false
def tk(x:In):Bool:=decide (x.op=5)||decide (x.op=6)
def wH(ps:List Pt)(k:Int):Bool:=ps.any fun p=>decide (p.k=k)
def vt(c:List In)(k:Int):Bool:=c.any fun x=>tk x&&decide (x.a=k)
def plB(c:List In)(ps:List Pt)(k:Int):Bool:=vt c k||wH ps k
def uF(pl:Int→Bool):Nat→List In→List In
  | _,[]=>[]
  | k,x::r=>if pl (k:Int)=true then[]else x::uF pl (k+1) r
def sgt(c:List In)(ps:List Pt)(k:Nat):List In:=match c.drop k with
  | []=>[]
  | x::r=>x::uF (plB c ps) (k+1) r
def lZ:List Int→List In→Bool
  | [],_=>true
  | _::_,[]=>false
  | o::os,x::s=>decide (x.op=o)&&lZ os s
def qt(x:In):Bool:=decide (x.op=1)||decide (x.op=3)||decide (x.op=7)
def vo(s:List In):Nat×List In:=
  let x:=s.getD 0 default
  let y:=s.getD 1 default
  if lZ [0,4] s=true∧dT (x.a*y.a)=true then(2,[⟨0,x.a*y.a⟩])
  else if lZ [0,0,3] s=true∧dT (x.a+y.a)=true then(3,[⟨0,x.a+y.a⟩])
  else if lZ [0,1,3] s=true∧x.a=0 then(3,[y])
  else if lZ [0,1,4,3] s=true∧x.a=0 then(4,[y,s.getD 2 default])
  else if(qt x=true∨x.op=4)∧lZ [x.op,0,3] s=true∧y.a=0 then(3,[x])
  else if qt x=true∧lZ [x.op,4] s=true∧y.a=1 then(2,[x])
  else if lZ [4,4] s=true∧dT (x.a*y.a)=true then(2,[⟨4,x.a*y.a⟩])
  else(0,[])
def wF(k less:Int)(x:In):In:=if tk x=true∧k<x.a then⟨x.op,x.a-less⟩else x
def sPt(k less:Int)(p:Pt):Pt:=if k<p.k then⟨p.k-less,p.fs⟩else p
def wD(a:An)(k n:Nat)(by':List In):An:=
  ⟨a.pre,a.post,(a.code.take k++by'++a.code.drop (k+n)).map (wF k ((n:Int)-by'.length)),a.pts.map (sPt k ((n:Int)-by'.length))⟩
abbrev nY(a:An)(k:Nat):Nat×List In:=vo (sgt a.code a.pts k)
def sO(a:An):Nat→Nat→Option An
  | 0,_=>none
  | f+1,k=>if 0<(nY a k).1 then some (wD a k (nY a k).1 (nY a k).2)else sO a f (k+1)
def vu(a:An):Option An:=sO a a.code.length 0
def sV:Nat→An→An
  | 0,a=>a
  | f + 1,a=>match vu a with
    | none=>a
    | some b=>sV f b
def n5(a:An):An:=sV a.code.length a
structure AOk(a:An):Prop where
  code: ∀x∈a.code,m4 x=true
  pts: ∀p∈a.pts,0≤p.k∧p.k≤79
  len:a.code.length≤80
  np:a.pts.length≤8
  npre:a.pre.length≤6
  npost:a.post.length≤6
structure RuOk(s:List In)(r:Nat×List In):Prop where
  n:r.1≤s.length
  lt:r.2.length<r.1
  one:1≤r.2.length
  two:r.2.length≤2
  jmp: ∀x∈r.2,tk x=false
  ok:(∀x∈s,m4 x=true)→∀x∈r.2,m4 x=true
section
set_option linter.unusedSectionVars false
variable{α:Type}[Inhabited α]{f:α→α}{l:List α}{i:Nat}{g:α→List D}
end
structure Fo(a out:An)(k:Nat):Prop where
  le:k≤out.code.length
  eq:n5 out=n5 a
  ok:AOk out
  no: ∀j,j<k→(nY out j).1=0
structure Gn(a out:An):Prop where
  eq:n5 out=n5 a
  ok:AOk out
structure Src where
  code:List Int
  at_:Nat
  seed:Int
abbrev bys(xs:List Int):D:=.slc 1 (xs.map fun n=>[.int .u8 n])
abbrev be(s:Src):B:=.box [.d (bys s.code),.d (.int .i64 (s.at_:Nat)),.d (.int .u64 s.seed)]
def Src.b(s:Src):Int:=if s.at_<s.code.length then IntKind.i64.wrap (s.code.getD s.at_ default)else 0
def Src.step(s:Src):Src:=⟨s.code,s.at_+1,IntKind.u64.wrap (IntKind.u64.wrap (IntKind.u64.wrap (s.seed*6364136223846793005)+IntKind.u64.wrap s.b)+1442695040888963407)⟩
def Src.val(s:Src):Int:=if s.at_+1≤s.code.length then s.b else pZ s.step.seed
structure Src.Ok(s:Src):Prop where
  code: ∀n∈s.code,0≤n∧n≤255
theorem Src.Ok.step{s:Src}(h:s.Ok):s.step.Ok:=⟨h.code⟩
theorem ru{s:Src}(h:s.Ok):0≤s.b∧s.b≤255:=by
 unfold Src.b
 split
 rename_i hlt
 have:=h.code _ (by rw[am hlt];exact List.getElem_mem hlt:s.code.getD s.at_ default∈s.code)
 rw[dZ .i64 _ (by show(-9223372036854775808:Int)≤_;omega) (by show _≤(9223372036854775807:Int);omega)]
 exact this
 omega
theorem bW{s:Src}(h:s.Ok):0≤s.val∧s.val≤255:=by
 unfold Src.val
 split
 exact ru h
 exact sn _
theorem uh{s:Src}(ha:s.at_≤1000000000)(hi:s.at_<s.code.length):MQ h1 h2 107 [.c (.pt 0 0 0)] [(0,be s)] (cD (eI s.val) [(0,be s.step)]):=by
 refine MC.shift 500 Z (MC.keep [500] (bs:=[be s.step]) Z Z (jH 62 [500] h1 h2 Tryz.func107 Z fun O hF=>?_))
 refine ie ?_
 have hb:s.b=IntKind.i64.wrap (s.code.getD s.at_ default):=if_pos hi
 have hv:s.val=s.b:=if_pos hi
 refine af (js Z (aZ (js Z (jn (ah (ah (lU [_,_,_,_,_,_,_,_,_,_] [bc,ay [0],ay [0,1],ay [0,1,2],bc,ay [4],ay [4,5],ay [4,5,6],ay (rg 4 4),ay (rg 0 9)] [] [_] (eR Z (eR Z (ai (bO O Z Z Z Z Z Z Z Z) (kc Z trivial)))) ?_)))))))
 refine jw [13,3,2,0] Z (ie ?_)
 refine ar Z (fun z13=>?_) (fun z13=>?_)
 refine jw [2,0] Z (lU [_,_,_,_,_,_,_,_,_,_,_,_] [bc,ay [0],ay [0,1],ay [0,1,2],bc,ay [4],ay [4,5],ay [4,5,6],ay (rg 0 8),ay (rg 0 9),ay (rg 0 10),ay (rg 0 11)] [] [_] (eR Z (eR Z (ai (bi O Z Z Z Z Z Z Z Z (gG hi)) (kc Z (ai (Val.conv O (k':=.i64) (dt:=.int .u8) (b:=true) Z Z Z (by kernel_rfl) (by kernel_rfl)) (kc Z trivial)))))) ?_)
 refine jw [3,2,0] Z (ie ?_)
 refine af ?_
 rw[←hb]
 refine aT Z (aj ((vF Z).cast (v':=eI ((s.at_+1:Nat):Int)) (congrArg eI (by omega))) Z (ac Z (jo Z (au ?_))))
 refine aZ (aT Z (aW Z (aj (Val.conv O (k':=.u64) (dt:=.int .i64) (b:=true) Z Z Z (by kernel_rfl) (by kernel_rfl)) Z (aT Z (jo Z (au ?_))))))
 refine jn (ah (ah (lU [_,_,_,_,_,_,_,_,_,_] [bc,ay [0],ay [0,1],ay [0,1,2],bc,ay [4],ay [4,5],ay [4,5,6],ay (rg 4 4),ay (rg 0 9)] [] [_] (eR Z (eR Z (ai (bO O Z Z Z Z Z Z Z Z) (kc Z trivial)))) ?_)))
 refine jw [53,3,2,0] Z (ie ?_)
 refine ar Z (fun z53=>?_) (fun z53=>?_)
 refine af (ac Z (jr ?_))
 refine⟨.inl Z,_,cn,_,Z,by rw[hv];rfl,Z⟩
 exact absurd (de z53) (by omega)
 exact absurd (de z13) (by omega)
theorem ui{s:Src}(ha:s.at_≤1000000000)(hi: ¬s.at_<s.code.length):MQ h1 h2 107 [.c (.pt 0 0 0)] [(0,be s)] (cD (eI s.val) [(0,be s.step)]):=by
 refine MC.shift 500 Z (MC.keep [500] (bs:=[be s.step]) Z Z (jH 62 [500] h1 h2 Tryz.func107 Z fun O hF=>?_))
 refine ie ?_
 have hb:s.b=0:=if_neg hi
 have hv:s.val=pZ s.step.seed:=if_neg (by omega)
 refine af (js Z (aZ (js Z (jn (ah (ah (lU [_,_,_,_,_,_,_,_,_,_] [bc,ay [0],ay [0,1],ay [0,1,2],bc,ay [4],ay [4,5],ay [4,5,6],ay (rg 4 4),ay (rg 0 9)] [] [_] (eR Z (eR Z (ai (bO O Z Z Z Z Z Z Z Z) (kc Z trivial)))) ?_)))))))
 refine jw [13,3,2,0] Z (ie ?_)
 refine ar Z (fun z13=>?_) (fun z13=>?_)
 exact absurd (cN z13) (by omega)
 refine al (af (aT Z (aj ((vF Z).cast (v':=eI ((s.at_+1:Nat):Int)) (congrArg eI (by omega))) Z (ac Z (jo Z (au ?_))))))
 refine aZ (aT Z (aW Z ?_))
 rw[←hb]
 refine aj (Val.conv O (k':=.u64) (dt:=.int .i64) (b:=true) Z Z Z (by kernel_rfl) (by kernel_rfl)) Z (aT Z (jo Z (au ?_)))
 refine jn (ah (ah (lU [_,_,_,_,_,_,_,_,_,_] [bc,ay [0],ay [0,1],ay [0,1,2],bc,ay [4],ay [4,5],ay [4,5,6],ay (rg 4 4),ay (rg 0 9)] [] [_] (eR Z (eR Z (ai (bO O Z Z Z Z Z Z Z Z) (kc Z trivial)))) ?_)))
 refine jw [53,3,2,0] Z (ie ?_)
 refine ar Z (fun z53=>?_) (fun z53=>?_)
 exact absurd (cN z53) (by omega)
 refine al (af (aT Z (aj (Val.shr O Z Z Z Z Z (by decide)) Z (aj (rt O Z Z Z Z Z) Z (aj (Val.conv O (k':=.i64) (dt:=.int .u64) (b:=true) Z Z Z (by kernel_rfl) (by kernel_rfl)) Z (js Z (jr ?_)))))))
 refine⟨.inl Z,_,cn,_,Z,by rw[hv];rfl,Z⟩
theorem qk{L:Nat}(h1:4096≤L)(h2:L≤1073741824){s:Src}(ha:s.at_≤1000000000):MC Tryz.prog L 107 [.c (.pt 0 0 0)] [(0,be s)] (cD (eI s.val) [(0,be s.step)]):=by
 by_cases hi:s.at_<s.code.length
 exact uh h1 h2 ha hi
 exact ui h1 h2 ha hi
def Src.pick(n:Int)(s:Src):Int×Src:=if n≤1 then(0,s)else if 200<n then((s.val*256+s.step.val).tmod n,s.step.step)else(s.val.tmod n,s.step)
theorem sf{n:Int}{s:Src}(h:n≤1):s.pick n=(0,s):=if_pos h
theorem qR{n:Int}{s:Src}(h: ¬n≤1)(h2: ¬200<n):s.pick n=(s.val.tmod n,s.step):=by unfold Src.pick;rw[if_neg h,if_neg h2]
theorem qS{n:Int}{s:Src}(h: ¬n≤1)(h2:200<n):s.pick n=((s.val*256+s.step.val).tmod n,s.step.step):=by unfold Src.pick;rw[if_neg h,if_pos h2]
theorem Src.Ok.pick{s:Src}(h:s.Ok){n:Int}:(s.pick n).2.Ok:=by
 unfold Src.pick;split
 exact h
 split
 exact h.step.step
 exact h.step
theorem bI{s:Src}{n:Int}:(s.pick n).2.at_≤s.at_+2:=by
 unfold Src.pick;split
 exact Nat.le_add_right _ _
 split
 exact bP _
 show s.at_+1≤s.at_+2;omega
theorem dk{a n:Int}(ha:0≤a)(hn:0<n):0≤a.tmod n∧a.tmod n<n:=by
 rw[Int.tmod_eq_emod_of_nonneg ha]
 exact⟨Int.emod_nonneg _ (by omega),Int.emod_lt_of_pos _ hn⟩
theorem bv{s:Src}(h:s.Ok){n:Int}(hn:1≤n):0≤(s.pick n).1∧(s.pick n).1<n:=by
 have h1:=bW h
 have h2:=bW h.step
 unfold Src.pick;split
 exact⟨by show(0:Int)≤0;omega,by show(0:Int)<n;omega⟩
 split
 exact dk (by omega) (by omega)
 exact dk h1.1 (by omega)
variable{n:Int}
theorem ul{s:Src}(hs:s.Ok)(ha:s.at_≤999999990)(hn0: -1000000000≤n)(hn1:n≤1000000000)(h:n≤1):MQ h1 h2 63 [.c (.pt 0 0 0),eI n] [(0,be s)] (cD (eI (s.pick n).1) [(0,be (s.pick n).2)]):=by
 refine MC.shift 500 Z (MC.keep [500] (bs:=[be (s.pick n).2]) Z Z (jH 20 [500] h1 h2 Tryz.func63 Z fun O hF=>?_))
 rw[sf h]
 have hv:=bW hs
 have hv2:=bW hs.step
 refine ie ?_
 refine af (js Z (jn (ah (af (ac Z (jn (ar Z (fun z7=>?_) (fun z7=>?_))))))))
 refine af (js Z (jr ?_))
 refine⟨.inl Z,_,cn,_,Z,Z,Z⟩
 exact absurd (de z7) (by omega)
theorem uk{s:Src}(hs:s.Ok)(ha:s.at_≤999999990)(hn0: -1000000000≤n)(hn1:n≤1000000000)(h: ¬n≤1)(h3: ¬200<n):MQ h1 h2 63 [.c (.pt 0 0 0),eI n] [(0,be s)] (cD (eI (s.pick n).1) [(0,be (s.pick n).2)]):=by
 refine MC.shift 500 Z (MC.keep [500] (bs:=[be (s.pick n).2]) Z Z (jH 20 [500] h1 h2 Tryz.func63 Z fun O hF=>?_))
 rw[qR h h3]
 have hv:=bW hs
 have hv2:=bW hs.step
 refine ie ?_
 refine af (js Z (jn (ah (af (ac Z (jn (ar Z (fun z7=>?_) (fun z7=>?_))))))))
 exact absurd (cN z7) (by omega)
 refine al (af (js Z (aO O [500] (bin:=[be s]) Z Z Z Z (qk (s:=s) h1 h2 (by omega)) Z Z Z Z Z Z (B0:=10000) Z Z (au ?_))))
 refine js Z (jn (ah (af (ac Z (jn (ar Z (fun z11=>?_) (fun z11=>?_)))))))
 exact absurd (cN z11) (by omega)
 refine al (af (ac Z (aj (eM O Z Z Z Z (by omega) (by have:=dk (n:=n) hv.1 (by omega);omega) (by have:=dk (n:=n) hv.1 (by omega);omega)) Z (js Z (jr ?_)))))
 refine⟨.inl Z,_,cn,_,Z,Z,Z⟩
theorem uj{s:Src}(hs:s.Ok)(ha:s.at_≤999999990)(hn0: -1000000000≤n)(hn1:n≤1000000000)(h: ¬n≤1)(h3:200<n):MQ h1 h2 63 [.c (.pt 0 0 0),eI n] [(0,be s)] (cD (eI (s.pick n).1) [(0,be (s.pick n).2)]):=by
 refine MC.shift 500 Z (MC.keep [500] (bs:=[be (s.pick n).2]) Z Z (jH 20 [500] h1 h2 Tryz.func63 Z fun O hF=>?_))
 rw[qS h h3]
 have hv:=bW hs
 have hv2:=bW hs.step
 refine ie ?_
 refine af (js Z (jn (ah (af (ac Z (jn (ar Z (fun z7=>?_) (fun z7=>?_))))))))
 exact absurd (cN z7) (by omega)
 refine al (af (js Z (aO O [500] (bin:=[be s]) Z Z Z Z (qk (s:=s) h1 h2 (by omega)) Z Z Z Z Z Z (B0:=10000) Z Z (au ?_))))
 refine js Z (jn (ah (af (ac Z (jn (ar Z (fun z11=>?_) (fun z11=>?_)))))))
 refine ag (js Z (aj (bf O Z Z (by omega) (by omega)) Z (js Z (aO O [500] (bin:=[be s.step]) Z Z Z Z (qk (s:=s.step) h1 h2 (by show s.at_+1≤_;omega)) Z Z Z Z Z Z (B0:=16000) Z Z (au ?_)))))
 refine aj (bf O Z Z (by omega) (by omega)) Z (js Z (aZ (ac Z (aj (eM O Z Z Z Z (by omega) (by have:=dk (n:=n) (a:=s.val*256+s.step.val) (by omega) (by omega);omega) (by have:=dk (n:=n) (a:=s.val*256+s.step.val) (by omega) (by omega);omega)) Z (js Z (jr ?_))))))
 refine⟨.inl Z,_,cn,_,Z,Z,Z⟩
 exact absurd (de z11) (by omega)
theorem gJ{L:Nat}(h1:4096≤L)(h2:L≤1073741824){s:Src}{n:Int}(hs:s.Ok)(ha:s.at_≤999999990)(hn0: -1000000000≤n)(hn1:n≤1000000000):MC Tryz.prog L 63 [.c (.pt 0 0 0),eI n] [(0,be s)] (cD (eI (s.pick n).1) [(0,be (s.pick n).2)]):=by
 by_cases h:n≤1
 exact ul h1 h2 hs ha hn0 hn1 h
 by_cases h3:200<n
 exact uj h1 h2 hs ha hn0 hn1 h h3
 exact uk h1 h2 hs ha hn0 hn1 h h3
theorem vU{s:Src}(hs:s.Ok)(ha:s.at_≤999999990)(hn0: -1000000000≤n)(hn1:n≤1000000000)  : MQ h1 h2 111 [.c (.pt 0 0 0),eI n] [(0,be s)] (cD (eB (decide ((s.pick n).1=0))) [(0,be (s.pick n).2)]):=by
 refine MC.shift 500 Z (MC.keep [500] (bs:=[be (s.pick n).2]) Z Z (jH 9 [500] h1 h2 Tryz.func111 Z fun O hF=>?_))
 refine ie ?_
 refine af (js Z (aZ (ac Z (aO O [500] (bin:=[be s]) Z Z Z Z (gJ (s:=s) (n:=n) h1 h2 hs ha hn0 hn1) Z Z Z Z Z Z (B0:=8000) Z Z (au ?_)))))
 refine ac Z (jr ?_)
 refine⟨.inl Z,_,cn,_,Z,Z,Z⟩
variable{xs:List Int}
theorem s8:MQ h1 h2 27 [.c (.d (bys xs))] [] (cD (.c (.pt 0 0 0)) [(0,be ⟨xs,0,0⟩)]):=by
 refine MC.shift 500 Z (MC.keep [500] (bs:=[be ⟨xs,0,0⟩]) Z Z (jB 6 h1 h2 Tryz.func27 Z fun O hF=>?_))
 refine af (js Z (aZ (ac Z (jx Z (au ?_)))))
 refine js Z (jr ?_)
 refine⟨.inl Z,_,ax 5 500 Z Z,_,Z,Z,Z⟩
def Pf.flat:Pf→List Nd
  | .close n=>[n]
  | .tight n a=>n::a.flat
  | .split n a b=>n::(a.flat++b.flat)
theorem bZ: ∀{t:Pf},t.flat.length=t.size
 | .close _=>rfl
 | .tight n a=>by simp only[Pf.flat,Pf.size,fh,bZ (t:=a)];omega
 | .split n a b=>by simp only[Pf.flat,Pf.size,fh,dS,bZ (t:=a),bZ (t:=b)];omega
def Pf.fine:Pf→Prop
  | .close n=>cQ n=true∧n.kind=1
  | .tight n a=>cQ n=true∧n.kind=3∧a.fine
  | .split n a b=>cQ n=true∧n.kind=2∧a.fine∧b.fine
theorem e8: ∀{t:Pf},t.fine→∀n∈t.flat,cQ n=true
 | .close n,h,x,hx=>by
  simp only[Pf.flat,List.mem_singleton]at hx;subst hx;exact h.1
 | .tight n a,h,x,hx=>by
  rcases List.mem_cons.1 hx with rfl|hx
  exact h.1
  exact e8 h.2.2 x hx
 | .split n a b,h,x,hx=>by
  rcases List.mem_cons.1 hx with rfl|hx
  exact h.1
  rcases List.mem_append.1 hx with hx|hx
  exact e8 h.2.2.1 x hx
  exact e8 h.2.2.2 x hx
theorem e9{p:List Nd}: ∀{t:Pf} {k:Nat},t.fine→(∀j,j<t.size→p[k+j]? = t.flat[j]?)→t.At p k
 | .close n,k,h,hp=>⟨by have:=hp 0 (by simp[Pf.size]);simpa[Pf.flat]using this,h.1,h.2⟩
 | .tight n a,k,h,hp=>⟨by have:=hp 0 (by simp only[Pf.size];omega);simpa[Pf.flat]using this,h.1,h.2.1,e9 h.2.2 fun j hj=>by
  have:=hp (1+j) (by simp only[Pf.size];omega)
  rw[←Nat.add_assoc]at this
  rw[this,Nat.add_comm 1 j];rfl⟩
 | .split n a b,k,h,hp=>⟨by have:=hp 0 (by simp only[Pf.size];omega);simpa[Pf.flat]using this,h.1,h.2.1,e9 h.2.2.1 fun j hj=>by
  have:=hp (1+j) (by simp only[Pf.size];omega)
  rw[←Nat.add_assoc]at this
  rw[this,Nat.add_comm 1 j]
  show(a.flat++b.flat)[j]? = _
  rw[List.getElem?_append_left (by rw[bZ];exact hj)],e9 h.2.2.2 fun j hj=>by
  have:=hp (1+a.size+j) (by simp only[Pf.size];omega)
  rw[show k+1+a.size+j=k+(1+a.size+j) by omega,this,show 1+a.size+j=a.size+j+1 by omega]
  show(a.flat++b.flat)[a.size+j]? = _
  rw[List.getElem?_append_right (by rw[bZ];omega),bZ,Nat.add_sub_cancel_left]⟩
def Pf.okay:Pf→List Tm→Prop
  | .close n,c=>bd c n.mul=true
  | .tight n a,c=>(dY n c&&(i4 n c).2)=true∧a.okay (c++[(i4 n c).1])
  | .split n a b,c=>dg n c=true∧a.okay (c++[n.term])∧b.okay (c++[bq n.term])
theorem dr: ∀{t:Pf} {k:Nat} {c:List Tm} {e:Ex},t.okay c→(ew t k c e).flaw=e.flaw
 | .close n,k,c,e,h=>by rw[ew,if_pos (show bd c n.mul=true from h)];rfl
 | .tight n a,k,c,e,h=>by rw[ew,if_pos h.1,dr h.2];rfl
 | .split n a b,k,c,e,h=>by rw[ew,if_pos h.1,dr h.2.2,dr h.2.1];rfl
theorem rk{f:Tm→Int}{ts:List Tm}:ba f ts []=0:=by cases ts<;>rfl
structure RIn(ts:List Tm)(r:Rw):Prop where
  ok:ROk ts.length r
  c:r.c=ba Tm.c ts r.ms
  xs: ∀k,k<10→r.xs.getD k default=ba (cE k) ts r.ms
theorem iE{ctx:List Tm}{ms:List Int}(hl:ms.length=ctx.length)(hx: ∀k,k<10→ba (cE k) ctx ms=0)(hc:ba Tm.c ctx ms<0):bd ctx ms=true:=by
 rw[iF,gO,decide_eq_true hl.symm,decide_eq_true hc,Bool.true_and,Bool.and_true,List.all_eq_true]
 intro x hx'
 obtain⟨k,hk,rfl⟩:=List.mem_map.1 hx'
 exact decide_eq_true (hx k (List.mem_range.1 hk))
theorem eL{f:Tm→Int}{u:Tm}{m:Int}: ∀{ts:List Tm} {ms:List Int},ms.length=ts.length→ba f (ts++[u]) (ms++[m])=ba f ts ms+m*f u
 | [],[],_=>by simp[ba]
 | t::ts,x::xs,h=>by
  rw[List.cons_append,List.cons_append,ba,ba,eL (by simpa using h)];omega
 | [],x::xs,h=>by simp at h
 | t::ts,[],h=>by simp at h
theorem ow{x:Tm}{k:Nat}(hk:k<10):cE k (bq x)= -(cE k x):=by
 show(aS (bC [x] [-1])).getD k 0=_
 rw[kG]
 unfold bC
 have:((List.range 10).map fun k=>ba (cE k) [x] [-1]).getD k 0=ba (cE k) [x] [-1]:=by simp[hk]
 rw[this]
 show -1*cE k x+0=_
 omega
theorem RMs.dm{L:Nat}{w:World}{ok:Nat→Prop}{m m2:Nat→Al.Loc}: ∀{cs:List D} {vs:List Value},RMs L w ok m (cs.map .d) vs→RMs L w ok m2 (cs.map .d) vs
 | [],_,.nil=>.nil
 | d::cs,_,.cons (.d h1) h2=>.cons (.d h1) (RMs.dm h2)
theorem rv{P:Program}{L f N:Nat}{args:List A}{v:A}{cs:List D}(h:MC P L f args [(N,.box (cs.map .d))] (fun r H=>VR (eu H N) r v∧lk H N=some (.box (cs.map .d)))):MC P L f args [(N,.box (cs.map .d))] (cD v [(N,.box (cs.map .d))]):=by
 refine⟨h.1,fun w m F ok vs h0 h1 h2 h3 h4 h5=>Calls.mono (h.2 w m F ok vs h0 h1 h2 h3 h4 h5) fun e w' he=>?_⟩
 cases e with
 | returned u=>
  obtain⟨r,H',m',F',⟨hv,hN⟩,a1,a2,a3,a4,a5,a6,a7⟩:=he
  obtain⟨Fl,Fr,G,c1,c2,c3⟩:=a1.taken hN
  have hnd:=List.nodup_append.1 (c3.nodup_iff.1 a2)
  have hsub: ∀b∈Fl,b∈F':=fun b hb=>c3.mem_iff.2 (by simp[hb])
  have hk:Keep w' w' (fun b=>b ∉ F'∧(ok b∨w.heap.size≤b∨b∈F)) (fun b=>b ∉ Fl∧(ok b∨w.heap.size≤b∨b∈F)):=⟨bP _,fun b _ hb=>⟨⟨fun hh=>hb.1 (hsub b hh),hb.2⟩,rfl⟩⟩
  have hr:RH L w' (fun b=>b ∉ Fl∧(ok b∨w.heap.size≤b∨b∈F)) (fun k=>if k=N then m' N else .nil) [(N,.box (cs.map .d))] (Fl++[]):=by
   refine .cons ?_ .nil
   rw[if_pos Z]
   have:=c1.over hk (fun _ _ _ _ _ _ _ _ _ _ h=>h) (fun _ _=>rfl)
   generalize m' N=loc at this
   cases this with
   | box a1 a2=>exact .box a1 a2.dm
  rw[List.append_nil]at hr
  refine⟨v,[(N,.box (cs.map .d))],_,Fl,⟨Z,Z⟩,hr,hnd.1,fun b hb=>a3 b (hsub b hb),?_,a5,fun l hl hs=>?_,fun l b cap z hl=>?_⟩
  refine a4.viewR c2 (fun b hb=>⟨fun hh=>hb.1 (hsub b hh),hb.2⟩) (fun b hb=>⟨fun hh=>?_,.inr (a3 b (c3.mem_iff.2 (by simp[hb])))⟩) hv
  exact hnd.2.2 b hh b (by simp[hb]) Z
  have e:l=N:=by simpa using hl
  subst e
  show(if l=l then m' l else Loc.nil)=m l
  rw[if_pos Z]
  exact a6 l hl (by rw[hN];rfl)
  by_cases e:l=N
  subst e;simp[ae]
  simp only[if_neg e]at hl;cases hl
 | _=>exact he
abbrev q4(s:Src):Int:=if((s.pick 4).2.pick 3).1=0 then 4 else 0
structure QOk(ts:List Tm)(ms:List Int):Prop where
  ok: ∀t∈ts,t.ok=true
  c: ∀t∈ts,-6≤t.c∧t.c≤6
  mok: ∀m∈ms,0≤m∧m≤2
  len:ms.length=ts.length
end Go.Al
