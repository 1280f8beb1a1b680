/- Contracts of the program's functions for terms; the types of the arguments. Paths, in plain Lean; terms with symbols replaced. The reference follows a path. -/
import Derived.Test.YtgaahipcjhjlbaaGreatD
import Derived.Test.YtgaahipcjhjlbaaGreatC
import Derived.Test.YtgaahipcjhjlbaaGreatRows
set_option linter.unusedVariables false
set_option linter.unusedSimpArgs false
set_option maxRecDepth 10000
set_option maxHeartbeats 4000000
open Go.Proofs
namespace Go.Al
variable{L:Nat}(h1:4096≤L)(h2:L≤1073741824)
theorem Ar{c:Int}{xs:List Int}(h:(mf c xs).2=true):(mf c xs).1.ok=true:=by
 unfold mf at h ⊢
 split at h
 rename_i h1;rw[if_pos h1];exact h1
 cases h
theorem lM{t:Tm}(h:(aX t).2=true):(aX t).1.ok=true:=Ar h
theorem lW{t:Tm}(h:(cq t).2=true):(cq t).1.ok=true:=by
 unfold cq at h ⊢
 split at h
 cases h
 rename_i h1;rw[if_neg h1];exact Ar h
theorem xw{t:Tm}(h:t.zero=true):t.ok=true:=by
 simp only[Tm.zero,bS,decide_eq_true_eq]at h
 have h3:t.xs=[]:=List.eq_nil_of_length_eq_zero (by omega)
 simp[Tm.ok,num,h.1,h3]
theorem k9{p:List Nd}(h:t3 p=true):1≤p.length∧p.length≤60∧(∀n∈p,ic n=true)∧endP p 0=p.length:=by
 simp only[t3,bS,decide_eq_true_eq,List.all_eq_true]at h
 exact⟨by omega,by omega,h.2.1,h.2.2⟩
theorem CM{p:List Nd}(h:t3 p=true){i:Nat}(hi:i<p.length):ic (p.getD i default)=true:=by
 rw[aD hi];exact(k9 h).2.2.1 _ (List.getElem_mem hi)
theorem nj{n:Nd}(h:ic n=true):n.term.ok=true:=by
 unfold ic at h
 split at h
 simp only[bS]at h;exact xw h.1.2
 split at h
 simp only[bS]at h;exact h.1.2
 split at h
 simp only[bS]at h;exact xw h.1.2
 cases h
theorem uJ{n:Nd}(h:ic n=true):0≤n.fact:=by
 unfold ic at h
 split at h
 simp only[bS,decide_eq_true_eq]at h;omega
 split at h
 simp only[bS,decide_eq_true_eq]at h;omega
 split at h
 simp only[bS,ft,decide_eq_true_eq]at h;omega
 cases h
theorem CL{n:Nd}(h:ic n=true):n.mul.all co=true:=by
 unfold ic at h
 split at h
 simp only[bS,yl]at h;exact h.2.1
 split at h
 simp only[bS,decide_eq_true_eq]at h
 rw[List.eq_nil_of_length_eq_zero (by omega:n.mul.length=0)];rfl
 split at h
 simp only[bS,decide_eq_true_eq]at h
 rw[List.eq_nil_of_length_eq_zero (by omega:n.mul.length=0)];rfl
 cases h
theorem qu{n:Nd}(h:ic n=true):n.kind=1∨n.kind=2∨n.kind=3:=by
 unfold ic at h
 split at h
 exact .inl ‹_›
 split at h
 exact .inr (.inl ‹_›)
 split at h
 exact .inr (.inr ‹_›)
 cases h
theorem wJ{p:List Nd}{k:Nat}(hk:k<p.length)(h:(p.getD k default).kind=1):endP p k=k+1:=by
 have h1:=lh (l:=p) (n:=1) (by decide) hk
 rw[h,show dl 1= -1 from Z,show(1:Int)+ -1=0 from Z,u6 (Int.le_refl 0)]at h1
 unfold endP;rw[h1];rfl
theorem vV{p:List Nd}(h:t3 p=true){k:Nat}(h0:0<k)(hk:k<p.length): ∃a:Nat,(rB p k k).1=(a:Int)∧a<k:=by
 obtain⟨_,_,_,hend⟩:=k9 h
 have key: ∀i,0<i→∃a:Nat,(rB p k i).1=(a:Int)∧a<i:=by
  intro i hi
  induction i with
  | zero=>omega
  | succ i ih=>
   unfold rB
   split
   rename_i hc
   by_cases h1:0<i
   obtain⟨a,h2,h3⟩:=ih h1
   exact⟨a,h2,by omega⟩
   obtain rfl:i=0:=by omega
   rcases hc with hc|hc
   have:=wJ (by omega) hc
   omega
   omega
   exact⟨i,Z,by omega⟩
 exact key k h0
structure CS where
  all:List (List Tm)
  has:List Bool
  right:List Bool
  flaw:Int
def mU(p:List Nd)(k:Nat)(z:CS):Bool:=if k=0 then true else z.right.getD (rB p k k).1.toNat default
def yj(p:List Nd)(c0:List Tm)(k:Nat)(z:CS):List Tm:=if k=0 then c0 else if mU p k z=true then kX (p.getD (rB p k k).1.toNat default) (z.all.getD (rB p k k).1.toNat default) (rB p k k).2 else[]
def nZ(p:List Nd)(c0:List Tm)(k:Nat)(z:CS):Bool:=mU p k z&&jt (p.getD k default) (yj p c0 k z)
def kW(p:List Nd)(c0:List Tm)(k:Nat)(z:CS):CS:=⟨z.all++[yj p c0 k z],z.has++[mU p k z],z.right++[nZ p c0 k z],if(mU p k z&& !nZ p c0 k z)&&decide (z.flaw<0)then(k:Int)else z.flaw⟩
def cI(p:List Nd)(c0:List Tm):Nat→CS
  | 0=>⟨[],[],[],-1⟩
  | k+1=>kW p c0 k (cI p c0 k)
structure CSok(p:List Nd)(k:Nat)(z:CS):Prop where
  all:z.all.length=k
  has:z.has.length=k
  right:z.right.length=k
  flaw: -1≤z.flaw∧z.flaw<k
  ctx: ∀j,j<k→z.has.getD j default=true→CtxOk (z.all.getD j default)
  good: ∀j,j<k→z.right.getD j default=true→z.has.getD j default=true∧jt (p.getD j default) (z.all.getD j default)=true
theorem fK{α:Type}[Inhabited α]{l:List α}{a:α}{j:Nat}:(l++[a]).getD j default=if j=l.length then a else l.getD j default:=by
 simp only[List.getD_eq_getElem?_getD]
 by_cases h:j<l.length
 rw[List.getElem?_append_left h,if_neg (by omega)]
 by_cases e:j=l.length
 subst e;simp
 rw[if_neg e,List.getElem?_eq_none (by simp;omega),List.getElem?_eq_none (by omega)]
theorem BI{n:Nd}{ctx:List Tm}{first:Bool}(hn:ic n=true)(hc:CtxOk ctx)(hk:n.kind≠1)(hr:jt n ctx=true):CtxOk (kX n ctx first)∧(n.kind=3→0≤n.fact∧n.fact<ctx.length):=by
 unfold jt at hr
 rw[if_neg hk]at hr
 split at hr
 cases hr
 rename_i h20
 have key: ∀t:Tm,t.ok=true→CtxOk (ctx++[t]):=fun t ht=>⟨fun u hu=>by
  rcases List.mem_append.1 hu with hu|hu
  · exact hc.ok u hu
  · simp at hu;subst hu;exact ht,by simp;omega⟩
 unfold kX
 split at hr
 rename_i h2
 rw[if_neg (by omega)]
 refine⟨?_,fun h=>absurd (h2.symm.trans h) (by decide)⟩
 split
 exact key _ (nj hn)
 exact key _ (lM hr)
 rename_i h2
 have h3:n.kind=3:=by rcases qu hn with h|h|h<;>first|exact h|contradiction
 rw[if_pos h3]
 split at hr
 cases hr
 rename_i h4
 exact⟨key _ (lW hr),fun _=>⟨uJ hn,by omega⟩⟩
theorem uH{p:List Nd}{k:Nat}: ∀{i a:Nat},(rB p k i).1=(a:Int)→(p.getD a default).kind≠1∧(k:Int)<endP p a∧a<i
 | 0,a,h=>by have h:(-1:Int)=a:=h;omega
 | i+1,a,h=>by
  unfold rB at h
  split at h
  have:=uH h;exact⟨this.1,this.2.1,by omega⟩
  rename_i hc
  have h:(i:Int)=a:=h
  obtain rfl:i=a:=by omega
  exact⟨fun e=>hc (.inl e),by have:=fun e=>hc (.inr e);omega,by omega⟩
theorem EZ{p:List Nd}{c0:List Tm}{k:Nat}{z:CS}(hp:t3 p=true)(h0:CtxOk c0)(hk:k<p.length)(hz:CSok p k z)(hf:mU p k z=true):CtxOk (yj p c0 k z):=by
 unfold yj
 split
 exact h0
 rename_i hk0
 try rw[if_pos hf]
 obtain⟨a,ha,hak⟩:=vV hp (by omega) hk
 have hf':=hf
 unfold mU at hf'
 rw[if_neg hk0,ha,Int.toNat_natCast]at hf'
 obtain⟨h1,h2⟩:=hz.good a hak hf'
 rw[ha,Int.toNat_natCast]
 exact(BI (CM hp (by omega)) (hz.ctx a hak h1) (uH ha).1 h2).1
theorem CSok.step{p:List Nd}{c0:List Tm}{k:Nat}{z:CS}(hp:t3 p=true)(h0:CtxOk c0)(hk:k<p.length)(hz:CSok p k z):CSok p (k+1) (kW p c0 k z):=by
 refine⟨by simp[kW,hz.all],by simp[kW,hz.has],by simp[kW,hz.right],?_,fun j hj h=>?_,fun j hj h=>?_⟩
 have:=hz.flaw
 unfold kW
 dsimp only
 split<;>omega
 simp only[kW,fK,hz.has,hz.all]at h ⊢
 by_cases e:j=k
 rw[if_pos e]at h ⊢;exact EZ hp h0 hk hz h
 rw[if_neg e]at h ⊢;exact hz.ctx j (by omega) h
 simp only[kW,fK,hz.has,hz.all,hz.right]at h ⊢
 by_cases e:j=k
 rw[if_pos e]at h
 rw[if_pos e,if_pos e,e]
 unfold nZ at h
 simpa using h
 rw[if_neg e]at h
 rw[if_neg e,if_neg e]
 exact hz.good j (by omega) h
theorem qN{p:List Nd}{c0:List Tm}(hp:t3 p=true)(h0:CtxOk c0): ∀{k:Nat},k≤p.length→CSok p k (cI p c0 k)
 | 0,_=>⟨rfl,rfl,rfl,⟨Int.le_refl _,by show(-1:Int)<((0:Nat):Int);decide⟩,fun j hj=>absurd hj (Nat.not_lt_zero j),fun j hj=>absurd hj (Nat.not_lt_zero j)⟩
 | k+1,hk=>(qN hp h0 (k:=k) (by omega)).step hp h0 (by omega)
structure Con where
  all:List (List Tm)
  has:List Bool
  flaw:Int
  ok:Bool
def B6(s:Sq)(p:List Nd):Con:=if(aX s.goal).2=true then⟨(cI p (mz s).1 p.length).all,(cI p (mz s).1 p.length).has,(cI p (mz s).1 p.length).flaw,true⟩else⟨[],[],0,false⟩
theorem fJ{s:Sq}(h:dW s=true):(∀t∈s.facts,t.ok=true)∧s.facts.length≤13∧s.goal.ok=true:=by
 simp only[dW,fS,bS,decide_eq_true_eq,List.all_eq_true]at h
 exact⟨h.1.1,by omega,h.2⟩
theorem x4{s:Sq}(h:dW s=true):CtxOk (mz s).1:=by
 obtain⟨h1,h2,h3⟩:=fJ h
 unfold mz
 split
 rename_i ho
 refine⟨fun u hu=>?_,by simp;omega⟩
 rcases List.mem_append.1 hu with hu|hu
 exact h1 u hu
 simp at hu;subst hu;exact lM ho
 exact⟨fun u hu=>by simp at hu,by simp⟩
theorem wi{s:Sq}:(mz s).2=(aX s.goal).2:=by unfold mz;split<;>simp_all
theorem nt{b:Bool}(h:(!b)=true):b=false:=by cases b<;>simp_all
theorem nf{b:Bool}(h:(!b)=false):b=true:=by cases b<;>simp_all
theorem g2{a b:Bool}:(bif !a then true else !b)= !(a&&b):=by cases a<;>cases b<;>rfl
def pZ(s:Sq)(p:List Nd):Bool:=(dW s&&t3 p)&&((B6 s p).ok&&decide ((B6 s p).flaw<0))
theorem vJ{α β:Type}[Inhabited α]{l:List α}{f:α→β}{n:Nat}(h:n<l.length):(l.map f)[0+n]? = some (f (l.getD n default)):=by rw[Nat.zero_add];simp[h]
theorem Ki{a b:Bool}(h:(bif a then b else false)=true):a=true∧b=true:=by cases a<;>cases b<;>simp_all
theorem IZ{a b:Bool}(h:(bif a then b else false)=false): ¬(a=true∧b=true):=by cases a<;>cases b<;>simp_all
abbrev sqs(ss:List Sq):D:=.slc 3 (ss.map Sq.cells)
abbrev mT(ss:List Sq):A:=.c (.d (sqs ss))
abbrev Df(p:List Nd):List D:=[D9 p]
abbrev JL(ps:List (List Nd)):D:=.slc 1 (ps.map Df)
abbrev qd(ps:List (List Nd)):A:=.c (.d (JL ps))
def lK(ss:List Sq)(ps:List (List Nd)):Bool:=decide (ps.length=ss.length)&&(List.range ss.length).all fun j=>pZ (ss.getD j default) (ps.getD j default)
theorem r9{ss:List Sq}{ps:List (List Nd)}(h:ps.length=ss.length)(ha: ∀j,j<ss.length→pZ (ss.getD j default) (ps.getD j default)=true):lK ss ps=true:=by
 unfold lK
 rw[decide_eq_true h,Bool.true_and,List.all_eq_true]
 intro j hj
 exact ha j (List.mem_range.1 hj)
theorem wy{ss:List Sq}{ps:List (List Nd)}{j:Nat}(hj:j<ss.length)(h:pZ (ss.getD j default) (ps.getD j default)=false):lK ss ps=false:=by
 unfold lK
 rw[show((List.range ss.length).all fun j=>pZ (ss.getD j default) (ps.getD j default))=false from List.all_eq_false.2 ⟨j,List.mem_range.2 hj,by rw[h];decide⟩,Bool.and_false]
abbrev io(ts:List Tm)(ms:List Int):Tm:=⟨bD Tm.c ts ms,bM (bU ts ms)⟩
abbrev ep(t:Tm):Tm:=⟨bD Tm.c [t] [-1]-1,bM (bU [t] [-1])⟩
def dY(ctx:List Tm)(ms:List Int):Bool:=decide (ms.length=ctx.length)&&(decide ((bM (bU ctx ms)).length=0)&&decide (bD Tm.c ctx ms<0))
def gJ(s:Sq):List Tm×Bool:=if(dW s&&(ep s.goal).ok)=true then(s.facts++[ep s.goal],true)else([],false)
variable{ts:List Tm}
theorem El{n:Int}:MQ h1 h2 94 [cb ts,eI n] [] (Plain (eB (fS ts n))):=by
 refine aL ?_ Z
 refine jB 21 h1 h2 Tryz.func94 Z fun O hF=>?_
 have hl:ts.length≤L:=by simpa[As.fact,A.fact,M.fact,D.fact,Ds.fact]using hF.1.1
 refine ae (js Z (jn (af (ae (js Z (dh Z (ab Z (jn (ah Z (fun z10=>?_) (fun z10=>?_))))))))))
 try simp only[bG]at z10
 refine ae (js Z (jr ?_))
 refine aJ Z ?_
 rw[fS,decide_eq_false (show¬(ts.length:Int)≤n by omega),Bool.and_false]
 try simp only[bG]at z10
 refine aj (af (ae (js Z (dh Z (js Z (jn (ao (aw (X:=Nat) (fun i=>⟨[(1,eI n),(11,cb ts),(12,eI ts.length),(13,eI i)],[]⟩) (fun i=>i≤ts.length∧∀j (h:j<ts.length),j<i→Tm.ok ts[j]=true) (fun i=>ts.length-i) 0 (Ent.to ⟨Z,Z,Z,Z,ap⟩ Z) ?_ (fun i hi=>?_)))))))))
 exact⟨cT _,fun j h hj=>absurd hj (Nat.not_lt_zero j)⟩
 refine ae (js Z (jn (af (ah Z (fun z14=>?_) (fun z14=>?_)))))
 try simp only[bG]at z14
 refine aj (af (ao (ae (jD Z Z (js Z (jl Z (jo Z (ba (js Z (bP Z (mS (t:=ts.getD i default) h1 h2) 19000 Z (js Z (jn (ah Z (fun z19=>?_) (fun z19=>?_))))))))))))))
 try simp only[bG]at z19
 refine ae (js Z (jr ?_))
 refine aJ Z ?_
 rw[aD (by omega)]at z19
 rw[fS,jg i (by omega) z19,Bool.false_and]
 try simp only[bG]at z19
 refine aj (ak (ji Z (js Z (jn ?_))))
 refine⟨i+1,(am [] (e':=[(1,_),(11,_),(12,_),(13,_)]) Z Z ⟨Z,Z,Z,Z,ap⟩ Z),⟨by omega,fun j h hj=>?_⟩,by omega⟩
 by_cases e:j=i
 subst e;rw[aD h]at z19;exact z19
 exact hi.2 j h (by omega)
 try simp only[bG]at z14
 refine bg (ae (js Z (jr ?_)))
 refine aJ Z ?_
 rw[fS,ki (fun j hj=>hi.2 j hj (by omega)),decide_eq_true (show(ts.length:Int)≤n by omega),Bool.true_and]
variable{s:Sq}
theorem Cb:MQ h1 h2 61 [BS s] [] (Plain (eB (dW s))):=by
 refine aL ?_ Z
 refine jB 11 h1 h2 Tryz.func61 Z fun O hF=>?_
 refine ae (jx Z (js Z (ba (ab Z (bP Z (El h1 h2) 6000 Z (js Z (aA 3 Z Z Z (fun hx=>ax hx Z (ax hx Z (bA O hx Z Z Z Z (mS h1 h2) (ac Z) Z Z Z Z Z Z Z (B0:=10000) Z (AN.nil)))) Z Z (av (ay O Z Z Z Z Z) Z (js Z (jr ?_))))))))))
 refine aJ Z ?_
 rw[Bool.cond_false_right];rfl
variable{t:Tm}
theorem JW:MQ h1 h2 179 [db t] [] (Plain (db ⟨t.c,bM t.xs⟩)):=by
 refine MC.data (jB 26 h1 h2 Tryz.func179 Z fun O hF=>?_)
 have hl:t.xs.length≤L:=by simpa[As.fact,A.fact,M.fact,Ms.fact,D.fact,Ds.fact]using hF.1.2.1.1
 refine ae (jx Z (jl Z (ba (ab Z (dh Z (js Z (jn (af (ao (aw (X:=Nat) (fun n=>⟨[(1,.c (.pt 1 0 0)),(2,.c (.pt 2 0 0)),(3,eI n)],[(1,.box [.d (.int .i64 t.c),.d (cY t.xs)]),(2,.box [.d (.int .i64 0),.d .nils])]⟩) (fun n=>n≤t.xs.length∧bM (t.xs.take n)=bM t.xs) (fun n=>n) t.xs.length (Ent.env ⟨Z,Z,Z,ap⟩) ?_ (fun n hi=>?_)))))))))))
 exact⟨da _,by rw[List.take_length]⟩
 refine af (ae (aH Z (aA 7 Z Z Z (fun hx=>ax hx Z (ax hx Z (ax hx Z (dD hx (vF Z) Z (dD hx (vD Z) Z (ax hx Z (ax hx Z (AN.nil)))))))) Z Z (av (ay O Z Z Z Z Z) Z (jn (ah Z (fun z17=>?_) (fun z17=>?_)))))))
 refine aj (ao (ak (js Z (ji Z (js Z (jn ?_))))))
 rw[Bool.cond_false_right,bS,decide_eq_true_eq,decide_eq_true_eq]at z17
 obtain⟨k,hk⟩: ∃k,n=k+1:=⟨n-1,by omega⟩
 subst hk
 have hk2:((k+1:Nat):Int)-1=k:=by omega
 rw[hk2]at z17
 refine⟨k,Ent.to ⟨Z,Z,by rw[hk2];rfl,ap⟩ Z,⟨by omega,?_⟩,Nat.lt_succ_self k⟩
 rw[←hi.2,n9 (by omega) (by simpa using z17.2)]
 refine bg (ae (aH Z ?_))
 have hd:bM (t.xs.take n)=t.xs.take n:=lU hi.1 (by
  rw[Bool.cond_false_right]at z17
  rcases Nat.eq_zero_or_pos n with h0|h0
  ·
   exact .inl h0
  ·
   refine .inr (fun h9=>?_)
   have e1:((n:Int)-1).toNat=n-1:=by omega
   rw[e1,h9]at z17;simp at z17;omega)
 have ht:=hi.2
 rw[hd]at ht
 refine av ((eF O Z Z ⟨by omega,by simp;omega⟩).cast (v':=ce (bM t.xs)) (by rw[←ht];simp[List.map_take])) Z (js Z (jo Z (ba (js Z (jo Z (jr ?_))))))
 refine aJ Z ?_
 exact .v (.agg (aE Z))
theorem nG{f:Tm→Int}: ∀{ts:List Tm} {ms:List Int},ts.length≤ms.length→bD f (ts.take ts.length) (ms.take ts.length)=bD f ts ms
 | [],ms,_=>by cases ms<;>simp[bD]
 | t::ts,[],h=>by simp at h
 | t::ts,m::ms,h=>by
  have:=nG (f:=f) (ts:=ts) (ms:=ms) (by simpa using h)
  simp only[eH,List.take_succ_cons,bD]at this ⊢
  rw[this]
theorem sE{ts:List Tm}{ms:List Int}(h:ts.length≤ms.length):bU (ts.take ts.length) (ms.take ts.length)=bU ts ms:=by
 unfold bU
 apply List.map_congr_left
 intro k _
 exact nG h
variable{ms:List Int}
theorem B9(hc:CtxOk ts)(hm:ms.all num=true)(hle:ts.length≤ms.length):MQ h1 h2 157 [cb ts,ce ms] [] (Plain (db (io ts ms))):=by
 refine MC.data (jB 55 h1 h2 Tryz.func157 Z fun O hF=>?_)
 have hl:ms.length≤L:=by simpa[As.fact,A.fact,M.fact,D.fact,Ds.fact]using hF.2.1.1
 have hlc:=hc.len
 refine ae (jl Z (ba (aU (gn O Z Z Z Z Z Z Z Z Z (by first|omega|(simp at *;omega)) (by first|omega|(simp at *;omega)) (by first|omega|(simp at *;omega)) (by first|omega|(dsimp only;omega)|(simp only[bG]at *;omega)) (by first|omega|(simp at *;omega)) Z Z Z) Z (js Z (jl Z (jo Z (jn (af (ae (js Z (dh Z (js Z (jn (ao (aw (X:=Nat) (fun i=>⟨[(1,ce ms),(4,.c (.pt 4 0 0)),(5,.c (.pt 5 0 0)),(12,cb ts),(13,eI ts.length),(14,eI i)],[(4,.box [.d (.int .i64 0),.d .nils]),(5,.box [.d (.int .i64 (bD Tm.c (ts.take i) (ms.take i))),.rs 10 0 10]),(10,aO (bU (ts.take i) (ms.take i)))]⟩) (fun i=>i≤ts.length) (fun i=>ts.length-i) 0 (Ent.to ⟨Z,Z,Z,Z,Z,Z,ap⟩ Z) ?_ (fun i hi=>?_))))))))))))))))
 exact cT _
 refine ae (js Z (jn (af (ah Z (fun z15=>?_) (fun z15=>?_)))))
 try simp only[bG]at z15
 refine aj (af (ao (ae (js Z (jD Z Z (js Z (jl Z (js Z (jo Z (jn (af ?_)))))))))))
 have hi0:=hi
 have hts:=Small.of (hc.get (show i<ts.length by omega))
 have hd1:=kl (f:=Tm.c) (ts:=ts) (ms:=ms) (fun t ht=>(Small.of (hc.ok t ht)).c) hm hi (by omega)
 have hd2:=hJ (f:=Tm.c) (ts:=ts) (ms:=ms) (i:=i) (by omega) (by omega)
 have hmi:num (ms.getD i default)=true:=by rw[aD (by omega)];exact List.all_eq_true.1 hm _ (List.getElem_mem _)
 have hmu:=fE hmi hts.c
 refine fZ [_,_,_,_,_,_,_,_,_,_,_,_] [aF,ag [0],aF,aF,ag [2,3],ag [2,3,4],aF,ag [6],ag (rg 2 6),ag (rg 0 9),ag (rg 0 10),pe (rg 0 11) 0] [11] [_,_] (cw Z (ai (vN Z) (kc Z (kc Z (kc Z (ai (vF Z) (ai (vF Z) (kc Z (ai (eS Z Z Z) trivial))))))))) ?_
 refine jw [6,7,18,15,1,4,5,12,13,14] Z (b0 ?_)
 refine ae (ab Z (dh Z (js Z (jn (ao (aw (X:=Nat) (fun j=>⟨[(1,ce ms),(4,.c (.pt 4 0 0)),(5,.c (.pt 5 0 0)),(12,cb ts),(13,eI ts.length),(14,eI i),(6,eI i),(31,ce (ts.getD i default).xs),(32,eI (ts.getD i default).xs.length),(33,eI j)],[(4,.box [.d (.int .i64 0),.d .nils]),(5,.box [.d (.int .i64 (bD Tm.c (ts.take i) (ms.take i)+ms.getD i default*(ts.getD i default).c)),.rs 10 0 10]),(10,aO (fP ts ms i j))]⟩) (fun j=>j≤(ts.getD i default).xs.length) (fun j=>(ts.getD i default).xs.length-j) 0 (((am [4,5,10] (e':=[(1,_),(4,_),(5,_),(12,_),(13,_),(14,_),(6,_),(31,_),(32,_),(33,_)]) Z Z ⟨Z,Z,Z,Z,Z,Z,Z,Z,Z,Z,ap⟩ Z)).trans (Ent.to ⟨Z,Z,Z,Z,Z,Z,Z,Z,Z,Z,ap⟩ (by rw[ol];rfl))) ?_ (fun j hi=>?_)))))))
 exact cT _
 refine ae (js Z (jn (af (ah Z (fun z34=>?_) (fun z34=>?_)))))
 try simp only[bG]at z34
 refine aj (af (ao (ae (js Z (jD Z Z (aH Z (jn ?_)))))))
 have hjl:j<10:=by have:=qf (hc.get (show i<ts.length by omega));omega
 have hpj:=ni (ts:=ts) (ms:=ms) (i:=i) hjl
 have hps:=om (ts:=ts) (ms:=ms) (i:=i) hjl
 have hpl:=eP (ts:=ts) (ms:=ms) (i:=i) (j:=j)
 have hd3:=kl (f:=kb j) (ts:=ts) (ms:=ms) (fun t ht=>(Small.of (hc.ok t ht)).get j) hm hi0 (by omega)
 have hmx:=fE hmi (hts.get j)
 rw[show(ts.getD i default).xs.getD j 0=(ts.getD i default).xs.getD j default from Z]at hmx
 refine fZ [_,_,_,_,_,_,_,_,_,_,_,_,_,_] [aF,ag [0],aF,ag [0,1,2],ag (rg 0 4),aF,aF,ag [5,6],ag [5,6,7],aF,ag (rg 5 5),ag (rg 0 11),ag (rg 0 12),pe (rg 0 13) 0] [13] [_,_] (kc Z (kc Z (kc Z (ai (vI Z Z) (ai (bt O (ex:=[.int .i64 ((fP ts ms i j).getD j default)]) Z Z Z Z (vJ (by omega)) Z) (kc Z (kc Z (ai (vN Z) (kc Z (kc Z (ai (vF Z) (ai (vF Z) (ai (vI Z Z) (ai (cR (ex:=[.int .i64 ((fP ts ms i j).getD j default)]) (xs':=(fP ts ms i (j+1)).map (fun n=>[D.int .i64 n])) O Z Z Z Z Z Z Z Z Z Z Z Z Z Z Z (vJ (by omega)) (by rw[←hps,List.map_set];simp only[Int.toNat_natCast,Nat.zero_add];rfl) Z) trivial)))))))))))))) ?_
 refine jw [34,1,4,5,12,13,14,6,31,32,33] Z (b0 ?_)
 refine ak (ji Z (js Z (jn ?_)))
 refine⟨j+1,Ent.to ⟨Z,Z,Z,Z,Z,Z,Z,Z,Z,Z,ap⟩ Z,by omega,by omega⟩
 try simp only[bG]at z34
 refine bg (ak (ji Z (js Z (jn ?_))))
 refine⟨i+1,((am [4,5,10] (e':=[(1,_),(4,_),(5,_),(12,_),(13,_),(14,_)]) Z Z ⟨Z,Z,Z,Z,Z,Z,ap⟩ Z)).trans (Ent.to ⟨Z,Z,Z,Z,Z,Z,ap⟩ ?_),by omega,by omega⟩
 rw[hd2,←qq (j:=j) (by omega) (by omega) (by omega)];rfl
 try simp only[bG]at z15
 refine bg (ae ?_)
 obtain rfl:i=ts.length:=by omega
 have hcl:=kB (ts:=ts.take ts.length) (ms:=ms.take ts.length)
 refine ar (Ent.freeze 10 (e':=[(5,_),(4,_)]) Z (fe [5,4] Z) (aZ Z (.cons Z (.box (dw Z (.cons (.row Z (by rw[bQ,hcl])) .nil))) (.skip .nil)))) ?_
 refine js Z (an O Z Z Z Z (JW (t:=⟨bD Tm.c (ts.take ts.length) (ms.take ts.length),bU (ts.take ts.length) (ms.take ts.length)⟩) h1 h2) (ac Z) Z Z Z Z (B0:=55000) Z Z (jo Z (jr ?_)))
 refine aJ Z ?_
 have e1:bD Tm.c (ts.take ts.length) (ms.take ts.length)=bD Tm.c ts ms:=nG hle
 have e2:bU (ts.take ts.length) (ms.take ts.length)=bU ts ms:=sE hle
 rw[e1,e2]
 exact .v (.agg (aE Z))
theorem JO{t:Tm}(h:t.ok=true):CtxOk [t]:=⟨fun u hu=>by simp at hu;subst hu;exact h,by simp⟩
theorem JN{t:Tm}(h:Small t): -1000000≤bD Tm.c [t] [-1]∧bD Tm.c [t] [-1]≤1000000:=by
 have:=I7.1 h.c
 show -1000000≤ -1*t.c+0∧ -1*t.c+0≤1000000
 omega
theorem zC(ht:t.ok=true):MQ h1 h2 138 [db t] [] (Plain (db (ep t))):=by
 refine MC.data (jB 13 h1 h2 Tryz.func138 Z fun O hF=>?_)
 have hd1:=JN (Small.of ht)
 refine ae (jx Z (jl Z (ba (js Z (aU (bp O Z Z Z Z Z Z Z Z Z Z Z) Z (aU (bO O Z Z Z) Z (ar (Ent.freeze 5 (e':=[(6,_),(5,_),(2,_)]) Z (.cons Z (.keep Z) (.cons Z (.c (.row Z Z)) (fe [2] Z))) (aZ Z (aZ Z (.skip (bh Z .nil))))) ?_)))))))
 refine ar (Ent.freeze 6 (e':=[(6,_),(5,_),(2,_)]) Z (.cons Z (.c (.row Z Z)) (fe [5,2] Z)) (aZ Z (aZ Z (.skip .nil)))) ?_
 refine an O Z Z Z Z (B9 (ts:=[t]) (ms:=[-1]) h1 h2 (JO ht) (by decide) (da 1)) (ac Z) Z Z Z Z (B0:=8000) Z Z (jl Z (jo Z (ba (ab Z (ji Z (js Z (jo Z (ba (js Z (jo Z (jr ?_)))))))))))
 refine aJ Z ?_
 exact .v (.agg (aE Z))
theorem Cg:MQ h1 h2 98 [BS s] [] (Plain (G9 (gJ s))):=by
 refine MC.data (jB 23 h1 h2 Tryz.func98 Z fun O hF=>?_)
 refine ae (jx Z (ab Z (jn (af (ae (js Z (bP Z (Cb (s:=s) h1 h2) 6000 Z (ab Z (aA 5 Z Z Z (fun hx=>ax hx Z (ax hx Z (sN O hx Z Z Z Z (zC (t:=s.goal) h1 h2 (fJ (by simpa using hx)).2.2) (ac Z) (B0:=11000) Z Z Z Z Z Z Z Z (bA O hx Z Z Z Z (mS (t:=ep s.goal) h1 h2) (ac Z) Z Z Z Z Z Z Z (B0:=12000) Z (ax hx Z (AN.nil)))))) Z Z (av (aG O Z Z Z Z Z) Z (jn (ah Z (fun z13=>?_) (fun z13=>?_)))))))))))))
 refine ae (ab Z (jr ?_))
 refine aJ Z ?_
 have hg:(dW s&&(ep s.goal).ok)=false:=by have h9:=z13;rw[g2]at h9;exact nt h9
 rw[show gJ s=([],false)from if_neg (by rw[hg];decide)]
 exact .tup (.cons (.c .nils) (.cons (.c .d) .nil))
 refine aj (af (jw [1,0] Z ?_))
 have hg:(dW s&&(ep s.goal).ok)=true:=by have h9:=z13;rw[g2]at h9;exact nf h9
 have hsq:=(bS _ _ ▸ hg).1
 obtain⟨hs1,hs2,hs3⟩:=fJ hsq
 refine kJ [_,_,_,_,_,_,_,_,_,_,_] [aF,ag [0],pe [0,1] 0,pn [] 0 1,pn [3] 0 1,pe (rg 0 5) 1,pe (rg 0 6) 2,pe (rg 0 7) 3,pe (rg 0 8) 4,pn (rg 0 9) 5 5,pn (rg 0 10) 5 5] [2,5,6,7,8] [_,_,_,_,_,_] [[],[],[],[],[17000]] (ka Z Z (ka Z Z (ai (ai (aI (el O (B0:=17000) Z Z Z Z (JR (ts:=s.facts) h1 h2) (ac Z) Z Z Z Z)) Z) (ai (ka Z Z (kw Z Z)) (ai (ka Z Z (kw Z Z)) (ai (ai (aI (bR O (B0:=20000) Z Z Z Z (zC (t:=s.goal) h1 h2 hs3) (ac Z) Z Z Z Z Z)) Z) (ai (ai (aI (bR O (B0:=21000) Z Z Z Z (Cd (t:=ep s.goal) h1 h2) (ac Z) Z Z Z Z Z)) Z) (ai (ai (aI (cQ O Z Z Z Z Z Z Z Z Z Z Z Z Z Z)) Z) (ai (ai (cp (own:=false) (xs:=s.facts.map Tm.cells) (ys:=[Tm.cells (ep s.goal)]) (zs:=(s.facts++[ep s.goal]).map Tm.cells) (n:=(s.facts++[ep s.goal]).length) O Z Z Z Z Z Z Z Z Z Z Z Z Z Z Z Z (.row Z (bQ _).symm) (.whole Z Z (.inr ⟨Z,Z⟩)) (by simp) Z (by simp;omega) (by simp;omega) (by simp) (by simp) Z) Z) (ka Z Z (ka Z Z trivial))))))))))) ?_
 refine jw [3,2,1,0] Z (b0 ?_)
 refine ea ?_
 refine aJ Z ?_
 rw[show gJ s=(s.facts++[ep s.goal],true)from if_pos hg]
 exact .tup (.cons (.c (.whole Z (bQ _).symm)) (.cons (.c .d) .nil))
theorem yp{n:Int}:MQ h1 h2 109 [eI n] [] (Plain (eI n)):=by
 refine aL ?_ Z
 refine jB 4 h1 h2 Tryz.func109 Z fun O hF=>?_
 refine ae (js Z (ba (ab Z (jr ?_))))
 refine aJ Z ?_
 first|rfl|skip
theorem c90{k:Int}{n:Nat}(hn:n≤1073741824):MQ h1 h2 155 [eI k,eI n] [] (Plain (eB (ft 0 ((n:Int)-1) k))):=by
 refine aL ?_ Z
 refine jB 10 h1 h2 Tryz.func155 Z fun O hF=>?_
 refine ae (js Z (ba (ab Z (bP Z (yp (n:=n) h1 h2) 8000 Z ?_))))
 first|refine ji Z ?_|refine dv Z Z ?_
 refine bP Z (p9 h1 h2) 10000 Z (js Z (jr ?_))
 refine aJ Z ?_
 first|rfl|skip
theorem J2{ctx:List Tm}(hc:CtxOk ctx)(hm:ms.all num=true):MQ h1 h2 153 [cb ctx,ce ms] [] (Plain (eB (dY ctx ms))):=by
 refine aL ?_ Z
 refine jB 23 h1 h2 Tryz.func153 Z fun O hF=>?_
 refine ae (js Z (jn (af (ae (js Z ?_)))))
 first|refine dh Z ?_|refine js Z ?_|refine dv Z Z ?_
 refine js Z ?_
 first|refine dh Z ?_|refine js Z ?_|refine dv Z Z ?_
 refine js Z (jn (ah Z (fun z10=>?_) (fun z10=>?_)))
 try simp only[bG]at z10
 refine ae (js Z (jr ?_))
 refine aJ Z ?_
 rw[dY,decide_eq_false (by omega),Bool.false_and]
 try simp only[bG]at z10
 refine aj (ae (ab Z (an O Z Z Z Z (B9 (ts:=ctx) (ms:=ms) h1 h2 hc hm (by omega)) (ac Z) Z Z Z Z (B0:=14000) Z Z (jl Z (jo Z (ba (ab Z ?_)))))))
 first|refine dh Z ?_|refine js Z ?_|refine dv Z Z ?_
 refine ab Z (aA 3 Z Z Z (fun hx=>ax hx Z (ax hx Z (ax hx Z (AN.nil)))) Z Z ?_)
 first|refine av (ay O Z Z Z Z Z) Z ?_|refine av (aG O Z Z Z Z Z) Z ?_|refine av (Val.pickB O Z Z Z Z Z) Z ?_
 refine js Z (jr ?_)
 refine aJ Z ?_
 rw[dY,decide_eq_true (show ms.length=ctx.length by omega),Bool.true_and,Bool.cond_false_right,show decide (((io ctx ms).xs.length:Int)=0)=decide ((bM (bU ctx ms)).length=0)from decide_eq_decide.2 (by show((bM (bU ctx ms)).length:Int)=0↔_;omega)]
variable{r:List Tm}
theorem Ek{c:Tm}(hl:(c::r).length≤1000):MQ h1 h2 110 [cb (c::r)] [] (Rows (.c (.rs 0 0 (c::r).length)) [aN (c::r)]):=by
 refine cH (jB 8 h1 h2 Tryz.func110 Z fun O hF=>?_)
 refine ae (js Z (jn (af (ae (ab Z (jn (ah Z (fun z4=>?_) (fun z4=>?_))))))))
 exact c5 z4
 refine aj (ae (aU (bO O Z Z Z) Z (js Z (ar (dr 5 Z) (aU (cU (own:=false) (zs:=(c::r).map Tm.cells) (n:=(c::r).length) O Z (.row Z Z) (.slc (.inl Z)) (by simp) Z (by simp at hl ⊢;omega) (by simp at hl ⊢;omega) Z (by simp)) Z (js Z (jr ?_)))))))
 refine⟨.inl Z,_,b9,_,Z,[7],by decide,Z,Z,Z⟩
theorem Ca{c:Tm}(hl:(c::r).length≤1000):MQ h1 h2 154 [cb (c::r),db t] [] (Plain (cb (c::r++[t]))):=by
 refine MC.data (jB 10 h1 h2 Tryz.func154 Z fun O hF=>?_)
 refine ae (jx Z (js Z (jn (af (jw [3,0,1] Z (rC [_,_,_,_,_,_] [aF,pe [0] 0,pn [] 0 1,pn [2] 0 1,pe [0,1,2,3] 1,pn [0,1,2,3,4] 2 2] [1,4] 3 8 (.row false 2 [Tm.cells t]) [_,_] [_] [[],[7000]] (kf Z Z Z (ai (ai (aB (aI (el O (B0:=7000) Z Z Z Z (Ek (c:=c) (r:=r) h1 h2 hl) (ac Z) Z Z Z Z)) (aI (el O (B0:=7000) Z Z Z Z (Ek (c:=c) (r:=r) h1 h2 hl) (ac Z) Z Z Z Z))) Z) (ai (kf Z Z Z (kg Z Z Z)) (ai (ai (ai (aI (cQ O Z Z Z Z Z Z Z Z Z Z Z Z Z Z)) Z) (ai (aI (cQ O Z Z Z Z Z Z Z Z Z Z Z Z Z Z)) Z)) (ai (ai (aB trivial (cp (own:=false) (xs:=(c::r).map Tm.cells) (ys:=[Tm.cells t]) (zs:=(c::r++[t]).map Tm.cells) (n:=(c::r++[t]).length) O Z Z Z Z Z Z Z Z Z Z Z Z Z Z Z Z (.row Z (bQ _).symm) (.whole Z Z (.inr ⟨Z,Z⟩)) (by simp) Z (by simp at hl ⊢;omega) (by simp at hl ⊢;omega) (by simp) (by simp) Z)) Z) (ai (ai (aB trivial (V Z)) Z) trivial)))))) ?_))))))
 refine jw [4,1] Z (b0 ?_)
 refine ea ?_
 refine aJ Z ?_
 exact .v (.c (.whole Z (bQ _).symm))
theorem JV{x:Int}(hx: -1000000≤x∧x≤1000000):MQ h1 h2 170 [eI x] [] (Plain (eI x.natAbs)):=by
 refine aL ?_ Z
 refine jB 7 h1 h2 Tryz.func170 Z fun O hF=>?_
 refine ae (js Z (ba (ab Z (ji Z (ab Z (jr ?_))))))
 refine aJ Z ?_
 exact congrArg eI (show(if 0-x>x then 0-x else x)=(x.natAbs:Int) by split<;>omega)
def t5(c g:Int):Int:=if c.tmod g<0 then c.tdiv g-1 else c.tdiv g
abbrev Kl(t:Tm):Tm:=⟨t5 t.c (bB t.xs),t.xs.map fun x=>x.tdiv (bB t.xs)⟩
def f8(t:Tm):Tm×Bool:=if bB t.xs<2 then(⟨0,[]⟩,false)else(Kl t,true)
def gQ(n:Nd):Int:=if ic n=true then(if n.kind=1 then 0 else if n.kind=2 then 2 else 1)else -1
theorem B8{xs:List Int}(ht:xs.all num=true):MQ h1 h2 146 [ce xs] [] (Plain (eI (bB xs))):=by
 refine aL ?_ Z
 refine jB 26 h1 h2 Tryz.func146 Z fun O hF=>?_
 have hl:xs.length≤L:=by simpa[As.fact,A.fact,M.fact,D.fact,Ds.fact]using hF.1.1
 refine ae (js Z (ba (js Z (jn (af (ae (js Z (dh Z (js Z (jn (ao (aw (X:=Nat) (fun i=>⟨[(3,eI (bB (xs.take i))),(8,ce xs),(9,eI xs.length),(10,eI i)],[]⟩) (fun i=>i≤xs.length) (fun i=>xs.length-i) 0 (Ent.env ⟨Z,Z,Z,Z,ap⟩) ?_ (fun i hi=>?_)))))))))))))
 exact cT _
 refine ae (js Z (jn (af (ah Z (fun z11=>?_) (fun z11=>?_)))))
 try simp only[bG]at z11
 refine aj (af (ao (ae ?_)))
 have hi0:=hi
 have hx:=I7.1 (List.all_eq_true.1 ht _ (List.getElem_mem (show i<xs.length by omega)))
 rw[←aD (by omega)]at hx
 have hgs:=l7 (xs:=xs) (i:=i) (by omega)
 have hgl:=pN ht hi
 refine av (bf O Z Z Z Z Z Z Z Z (dO (by omega))) Z (ab Z (ba (ab Z (bP Z (JV (x:=xs.getD i default) h1 h2 hx) 17000 Z (ab Z (jn (af (ao (aw (X:=Nat×Nat) (fun z=>⟨[(8,ce xs),(9,eI xs.length),(10,eI i),(6,eI z.1),(7,eI z.2)],[]⟩) (fun z=>Nat.gcd z.1 z.2=Nat.gcd (bB (xs.take i)) (xs.getD i default).natAbs∧z.1≤1000000∧z.2≤1000000) (fun z=>z.2) (bB (xs.take i),(xs.getD i default).natAbs) (Ent.env ⟨Z,Z,Z,Z,Z,ap⟩) ?_ (fun z hi=>?_))))))))))
 exact⟨Z,hgl,by show(xs.getD i default).natAbs≤1000000;omega⟩
 have hz:=i9 (a:=z.1) (b:=z.2) (by omega)
 refine af (ae (ab Z (jn (ah Z (fun z18=>?_) (fun z18=>?_)))))
 try simp only[bG]at z18
 refine aj (ao (oH O _ [_,_,_,_,_,_] [aF,aF,aF,ag [1,2],ag [0,1],ag (rg 0 5)] [] [[],[],[6],[6],[],[6]] [_] Z Z (by decide) (by decide) (by kernel_rfl) (kc Z (kc Z (kc Z (ai (j5 O Z Z Z Z (by omega) (by omega) (by omega)) (kc Z (kc Z trivial)))))) ?_))
 have hm:z.1%z.2<z.2:=Nat.mod_lt _ (by omega)
 refine⟨(z.2,z.1%z.2),Ent.env ⟨Z,Z,Z,Z,Z,ap⟩,⟨?_,hi.2.2,by show z.1%z.2≤1000000;omega⟩,hm⟩
 show Nat.gcd z.2 (z.1%z.2)=_
 rw[←hi.1,Nat.gcd_comm z.2,←Nat.gcd_rec,Nat.gcd_comm]
 try simp only[bG]at z18
 refine bg (ak (ab Z (jn (ak (ji Z (js Z (jn ?_)))))))
 have hz0:z.2=0:=by omega
 have hz1:z.1=bB (xs.take (i+1)):=by rw[hgs,←hi.1,hz0,Nat.gcd_zero_right]
 rw[hz1]
 exact⟨i+1,Ent.env ⟨Z,Z,Z,Z,ap⟩,by omega,by omega⟩
 try simp only[bG]at z11
 refine bg (ae (ab Z (jr ?_)))
 refine aJ Z ?_
 obtain rfl:i=xs.length:=by omega
 rw[List.take_length]
theorem JX{a b:Int}(ha: -1000000≤a∧a≤1000000)(hb:b≠0):MQ h1 h2 178 [eI a,eI b] [] (Plain (eI (t5 a b))):=by
 refine aL ?_ Z
 refine jB 16 h1 h2 Tryz.func178 Z fun O hF=>?_
 have hq:=eV (b:=b) ha
 have hr:=i9 (b:=b) ha
 refine ae (js Z (ba (ab Z (av (vQ Z Z Z Z) Z (js Z (jn (af (ae (ab Z (av (vR Z Z Z Z) Z (js Z (jn (ah Z (fun z12=>?_) (fun z12=>?_))))))))))))))
 try simp only[bG]at z12
 refine ak (js Z (ji Z (js Z (ba (ab Z (jr ?_))))))
 refine aJ Z ?_
 rw[t5,if_pos z12]
 try simp only[bG]at z12
 refine aj (ae (ab Z (jr ?_)))
 refine aJ Z ?_
 rw[t5,if_neg (by omega)]
theorem rP:MQ h1 h2 140 [db t] [] (Rows (.agg [.d (.int .i64 t.c),.rs 0 0 t.xs.length]) [aO t.xs]):=by
 refine cH (jB 9 h1 h2 Tryz.func140 Z fun O hF=>?_)
 refine ae (jx Z (jl Z (jn (af (fZ [_,_,_,_,_,_,_] [pn [] 0 1,pn [0] 0 1,aF,ag [2],pe [2,3] 0,pn (rg 0 5) 1 1,pe (rg 0 6) 1] [4,6] [_,_,_] (ai (kc Z (V Z)) (ai (kc Z (V Z)) (kc Z (kc Z (ai (dA O (B0:=8000) Z Z Z Z (vL (xs:=t.xs) h1 h2) (ac Z) Z Z Z Z Z) (kc Z (ai (eS Z Z Z) trivial))))))) ?_)))))
 refine ea ?_
 refine⟨.inl Z,_,b9,_,Z,[8000],by decide,Z,Z,Z⟩
def oK(xs:List Int)(g:Int)(i:Nat):List Int:=(xs.take i).map (fun x=>x.tdiv g)++xs.drop i
theorem kY{xs g}:oK xs g 0=xs:=by simp[oK]
theorem lN{xs:List Int}{g:Int}:oK xs g xs.length=xs.map fun x=>x.tdiv g:=by simp[oK]
theorem mG{xs g i}:(oK xs g i).length=xs.length:=by simp[oK];omega
theorem gk{xs:List Int}{g:Int}{i:Nat}(h:i<xs.length):((oK xs g i).map fun n=>[D.int .i64 n])[i]? = some [.int .i64 (xs.getD i default)]:=by
 rw[List.getElem?_map,oK,List.getElem?_append_right (by simp;omega),bQ,List.length_take,Nat.min_eq_left (Nat.le_of_lt h),Nat.sub_self,List.getElem?_drop,Nat.add_zero,List.getElem?_eq_getElem h,aD h]
 rfl
theorem jP{xs:List Int}{g:Int}{i:Nat}(h:i<xs.length):(oK xs g i).set i ((xs.getD i default).tdiv g)=oK xs g (i+1):=by
 have hl:((xs.take i).map fun x=>x.tdiv g).length=i:=by simp;omega
 rw[oK,List.set_append_right _ _ (by omega),hl,Nat.sub_self,oK,List.take_succ_eq_append_getElem h,List.drop_eq_getElem_cons h,List.set_cons_zero,aD h,List.map_append,gF]
 rfl
theorem Hd(ht:Small t):MQ h1 h2 156 [db t] [] (Plain (iZ (f8 t))):=by
 refine MC.data (jB 36 h1 h2 Tryz.func156 Z fun O hF=>?_)
 have hl:t.xs.length≤L:=by simpa[As.fact,A.fact,M.fact,Ms.fact,D.fact,Ds.fact]using hF.1.2.1.1
 have z0:=I7.1 ht.c
 refine ae (jx Z (aq ?_))
 refine jl Z (aq ?_)
 refine js Z (ba (ab Z (bP Z (B8 (xs:=t.xs) h1 h2 ht.xs) 10000 Z (js Z (jn (af (ae (ab Z (jn (ah Z (fun z11=>?_) (fun z11=>?_)))))))))))
 try simp only[bG]at z11
 refine ae (js Z (jo Z (aq ?_)))
 refine js Z (jr ?_)
 refine aJ Z ?_
 rw[show f8 t=(⟨0,[]⟩,false)from if_pos (by omega)]
 exact .tup (.cons (.agg (.cons .d (.cons .nils .nil))) (.cons (.c .d) .nil))
 try simp only[bG]at z11
 refine aj (ae ?_)
 obtain⟨g,hg⟩: ∃g:Int,g=(bB t.xs:Int):=⟨_,rfl⟩
 rw[←hg]
 rw[←hg]at z11
 refine js Z (ci O (B0:=15000) Z Z Z Z (rP (t:=t) h1 h2) (ac Z) Z Z Z Z Z Z (aq ?_))
 refine jl Z (aq ?_)
 refine jo Z (aq ?_)
 refine ba (aH Z (bP Z (JX (a:=t.c) (b:=g) h1 h2 z0 (by omega)) 19000 Z (js Z (jo Z (aq ?_)))))
 refine jn (af (ae (ab Z (dv Z Z (js Z (jn (ao (aw (X:=Nat) (fun i=>⟨[(2,.c (.pt 2 0 0)),(4,eI g),(5,.c (.pt 5 0 0)),(22,eI t.xs.length),(23,eI i)],[(2,.box [.d (.int .i64 0),.d .nils]),(5,.box [.d (.int .i64 (t5 t.c g)),.rs 15000 0 t.xs.length]),(15000,aO (oK t.xs g i))]⟩) (fun i=>i≤t.xs.length) (fun i=>t.xs.length-i) 0 (((am [2,5,15000] (e':=[(2,_),(4,_),(5,_),(22,_),(23,_)]) Z Z ⟨Z,Z,Z,Z,Z,ap⟩ Z)).trans (Ent.to ⟨Z,Z,Z,Z,Z,ap⟩ (by rw[kY];rfl))) ?_ (fun i hi=>?_)))))))))
 exact cT _
 refine ae (js Z (jn (af (ah Z (fun z24=>?_) (fun z24=>?_)))))
 try simp only[bG]at z24
 refine aj (af (ao (ae (ab Z (jn (ak ?_))))))
 have hx:=eV (b:=g) (I7.1 (List.all_eq_true.1 ht.xs _ (List.getElem_mem (show i<t.xs.length by omega))))
 rw[←aD (by omega)]at hx
 have hkl:=mG (xs:=t.xs) (g:=g) (i:=i)
 refine aH Z (dv Z Z (av (bt O (ex:=[.int .i64 (t.xs.getD i default)]) Z Z Z Z (by rw[Nat.zero_add];exact gk (by omega)) Z) Z (js Z (av (vQ Z Z Z Z) Z (dv Z Z (aU (ca (ex:=[.int .i64 (t.xs.getD i default)]) (xs':=(oK t.xs g (i+1)).map (fun n=>[D.int .i64 n])) O Z Z Z Z Z Z Z Z Z Z Z Z Z Z (by rw[Nat.zero_add];exact gk (by omega)) (by rw[←jP (by omega),List.map_set,Nat.zero_add];rfl)) Z (aq ?_)))))))
 refine jn (ak (ji Z (js Z (jn ?_))))
 refine⟨i+1,Ent.to ⟨Z,Z,Z,Z,Z,ap⟩ Z,by omega,by omega⟩
 try simp only[bG]at z24
 refine bg (ae (js Z (jo Z (aq ?_))))
 refine js Z (jr ?_)
 refine aJ Z ?_
 obtain rfl:i=t.xs.length:=by omega
 rw[show f8 t=(⟨t5 t.c g,t.xs.map fun x=>x.tdiv g⟩,true) by rw[hg];exact if_neg (by omega)]
 have hkl:=mG (xs:=t.xs) (g:=g) (i:=t.xs.length)
 exact .tup (.cons (.agg (.cons .d (.cons (.whole (by rw[←lN];rfl) (by simp)) .nil))) (.cons (.c .d) .nil))
theorem Kp{n:Nd}(h:n.kind=1):ic n=((decide (n.fact=0)&&n.term.zero)&&yl n.mul):=by rw[ic,if_pos h]
theorem Ko{n:Nd}(h:n.kind=2):ic n=((decide (n.fact=0)&&n.term.ok)&&decide ((n.mul.length:Int)=0)):=by rw[ic,if_neg (by omega),if_pos h]
theorem Kn{n:Nd}(h:n.kind=3):ic n=((ft 0 19 n.fact&&n.term.zero)&&decide ((n.mul.length:Int)=0)):=by rw[ic,if_neg (by omega),if_neg (by omega),if_pos h]
theorem jZ{n:Nd}(h:ic n=false):gQ n= -1:=by rw[gQ,if_neg (by rw[h];decide)]
theorem fX{n:Nd}(h:ic n=true):gQ n=if n.kind=1 then 0 else if n.kind=2 then 2 else 1:=by rw[gQ,if_pos h]
theorem Kx{a b c d:Bool}:(bif bif bif a then b else false then c else false then d else false)=((a&&b)&&(d&&c)):=by cases a<;>cases b<;>cases c<;>cases d<;>rfl
theorem Kw{a b c:Bool}:(bif bif a then b else false then c else false)=((a&&c)&&b):=by cases a<;>cases b<;>cases c<;>rfl
theorem Kv{a b c:Bool}:(bif bif a then b else false then c else false)=((a&&b)&&c):=by cases a<;>cases b<;>cases c<;>rfl
def i6(f:Nat→Option (Nat×Int)):Nat→Nat→Int→Option (Nat×Int)
  | 0,k,d=>some (k,d)
  | q + 1,k,d=>match f k with
    | none=>none
    | some (k',b)=>i6 f q k' (if b>d then b else d)
def gq : Nat→List Nd→Nat→Option (Nat×Int)
  | 0,_,_=>none
  | n + 1,p,k=>if p.length≤k then none else if gQ (p.getD k default)<0 then none else
      (i6 (gq n p) (gQ (p.getD k default)).toNat (k+1) 0).map fun r=>(r.1,r.2+1)
theorem eL{f:Nat→Option (Nat×Int)}{q k k':Nat}{d b:Int}(h:f k=some (k',b)):i6 f (q+1) k d=i6 f q k' (if b>d then b else d):=by rw[i6,h]
theorem iI{f:Nat→Option (Nat×Int)}{q k:Nat}{d:Int}(h:f k=none):i6 f (q+1) k d=none:=by rw[i6,h]
theorem uQ{f:Nat→Option (Nat×Int)}{N:Nat}(hf: ∀k b k',f k=some (k',b)→k<k'∧k'≤N∧0≤b∧b≤(k':Int)-k): ∀{q k:Nat} {d d':Int} {k' s:Nat},i6 f q k d=some (k',d')→k≤N→s≤k→0≤d→d≤(k:Int)-s→k≤k'∧k'≤N∧0≤d'∧d'≤(k':Int)-s
 | 0,k,d,d',k',s,h,hk,hs,h0,h1=>by simp only[i6,ef,Prod.mk.injEq]at h;omega
 | q + 1,k,d,d',k',s,h,hk,hs,h0,h1=>by
  cases hx:f k with
  | none=>rw[iI hx]at h;cases h
  | some x=>
   obtain⟨k1,b⟩:=x
   rw[eL hx]at h
   have h3:=hf k b k1 hx
   have h4:=uQ hf h h3.2.1 (s:=s) (by omega) (by split<;>omega) (by split<;>omega)
   omega
theorem x7: ∀{n:Nat} {p:List Nd} {k k':Nat} {d:Int},gq n p k=some (k',d)→k<k'∧k'≤p.length∧0≤d∧d≤(k':Int)-k
 | 0,_,_,_,_,h=>by cases h
 | n+1,p,k,k',d,h=>by
  unfold gq at h
  split at h
  cases h
  split at h
  cases h
  simp only[Option.map_eq_some_iff]at h
  obtain⟨⟨k2,d2⟩,h1,h2⟩:=h
  simp only[Prod.mk.injEq]at h2
  have:=uQ (N:=p.length) (fun k b k' h=>x7 h) h1 (by omega) (da _) (Int.le_refl 0) (by omega)
  omega
abbrev eN(r:Option (Nat×Int)):Int:=match r with|some (k,_)=>k|none=>0
abbrev eD(r:Option (Nat×Int)):Int:=match r with|some (_,d)=>d|none=>0
abbrev eO(r:Option (Nat×Int)):Bool:=match r with|some _=>true|none=>false
abbrev Ee(r:Option (Nat×Int)):A:=.tup [eI (eN r),eI (eD r),eB (eO r)]
theorem xW{r:Option (Nat×Int)}(h:eO r=true): ∃k d,r=some (k,d):=by
 cases r with
 | none=>cases h
 | some x=>exact⟨x.1,x.2,Z⟩
theorem BC{r:Option (Nat×Int)}(h:eO r=false):r=none:=by
 cases r with
 | none=>rfl
 | some x=>cases h
theorem Bo(n:Nd):gQ n≤2:=by unfold gQ;split<;>(try split)<;>(try split)<;>decide
def vC(p:List Nd):Bool:=decide ((p.length:Int)≤60)&&(eO (gq (p.length+1) p 0)&&decide (eN (gq (p.length+1) p 0)=p.length))
variable{n:Nd}
theorem JY:MQ h1 h2 177 [aNd n] [] (Plain (eI (gQ n))):=by
 refine aL ?_ Z
 refine jB 59 h1 h2 Tryz.func177 Z fun O hF=>?_
 have hl:n.mul.length≤L:=by simpa[As.fact,A.fact,M.fact,Ms.fact,D.fact,Ds.fact]using hF.1.2.2.2.2.1.1
 refine ae (jx Z (js Z (jn (af (fZ [_,_,_,_,_,_,_,_,_,_,_,_,_] [pn [] 0 1,pn [0] 0 1,pn [0,1] 0 1,aF,ag [3],pe [3,4] 0,pn [] 0 1,pn [6] 0 1,pn [6,7] 0 1,pn [6,7,8] 0 1,pn (rg 0 6) 1 1,pn (rg 0 6++[10]) 1 1,pn (rg 0 12) 1 1] [5] [_,_] (ai (kc Z (V Z)) (ai (kc Z (V Z)) (ai (kc Z (V Z)) (kc Z (kc Z (ai (bv O (B0:=13000) Z Z Z Z (Ej h1 h2) (ac Z) Z Z Z Z Z) (ai (kc Z (V Z)) (ai (kc Z (V Z)) (ai (ai (cf O Z Z Z Z Z Z Z Z) (cf O Z Z Z Z Z Z Z Z)) (ai (kc Z (V Z)) (kc Z (kc Z (kc Z trivial))))))))))))) ?_)))))
 refine jw [5,4,3,2,1,0] Z (b0 ?_)
 refine ae (js Z (jn (af (ae (ab Z (jn (ao (ae (ab Z (jn (ah Z (fun z19=>?_) (fun z19=>?_))))))))))))
 refine ae (ab Z (jf [22,20,18,17,6,5,4,3,2,1,0] Z (aA 1 Z Z Z (fun hx=>ax hx Z (AN.nil)) Z Z ?_)))
 first|refine av (ay O Z Z Z Z Z) Z ?_|refine av (aG O Z Z Z Z Z) Z ?_|refine av (Val.pickB O Z Z Z Z Z) Z ?_
 refine js Z (jf [25,20,18,17,6,5,4,3,2,1,0] Z (aA 4 Z Z Z (fun hx=>ax hx Z (ax hx Z (dD hx (cf O Z Z Z Z Z Z Z Z) Z (ax hx Z (AN.nil))))) Z Z ?_))
 first|refine av (ay O Z Z Z Z Z) Z ?_|refine av (aG O Z Z Z Z Z) Z ?_|refine av (Val.pickB O Z Z Z Z Z) Z ?_
 refine js Z (jf [31,20,18,17,6,5,4,3,2,1,0] Z (aA 3 Z Z Z (fun hx=>ax hx Z (ax hx Z (bA O hx Z Z Z Z (vM h1 h2) (ac Z) Z Z Z Z Z Z Z (B0:=35000) Z (AN.nil)))) Z Z ?_))
 first|refine av (ay O Z Z Z Z Z) Z ?_|refine av (aG O Z Z Z Z Z) Z ?_|refine av (Val.pickB O Z Z Z Z Z) Z ?_
 refine jf [35,20,18,17,6,5,4,3,2,1,0] Z (jn (ah Z (fun z35=>?_) (fun z35=>?_)))
 refine ak (js Z (jn (ae (ab Z (jf [2,20,18,17,5,4,3,1,0] Z (jr ?_))))))
 refine aJ Z ?_
 have hb:ic n=true:=by rw[Kp (bK z19)];have h9:=z35;rw[Kx]at h9;exact h9
 rw[fX hb,if_pos (bK z19)]
 refine aj (ae (ab Z (jf [2,20,18,17,5,4,3,1,0] Z (jr ?_))))
 refine aJ Z ?_
 have hb:ic n=false:=by rw[Kp (bK z19)];have h9:=z35;rw[Kx]at h9;exact h9
 rw[jZ hb]
 refine ae (ab Z (jf [36,20,18,17,6,5,4,3,2,1,0] Z (jn (ah Z (fun z36=>?_) (fun z36=>?_)))))
 refine ae (ab Z (jf [39,20,18,17,6,5,4,3,2,1,0] Z (aA 1 Z Z Z (fun hx=>ax hx Z (AN.nil)) Z Z ?_)))
 first|refine av (ay O Z Z Z Z Z) Z ?_|refine av (aG O Z Z Z Z Z) Z ?_|refine av (Val.pickB O Z Z Z Z Z) Z ?_
 refine js Z (jf [42,20,18,17,6,5,4,3,2,1,0] Z (aA 3 Z Z Z (fun hx=>ax hx Z (ax hx Z (bA O hx Z Z Z Z (mS h1 h2) (ac Z) Z Z Z Z Z Z Z (B0:=46000) Z (AN.nil)))) Z Z ?_))
 first|refine av (ay O Z Z Z Z Z) Z ?_|refine av (aG O Z Z Z Z Z) Z ?_|refine av (Val.pickB O Z Z Z Z Z) Z ?_
 refine jf [46,20,18,17,6,5,4,3,2,1,0] Z (jn (ah Z (fun z46=>?_) (fun z46=>?_)))
 refine ak (js Z (jn (ae (ab Z (jf [2,20,18,17,5,4,3,1,0] Z (jr ?_))))))
 refine aJ Z ?_
 have hb:ic n=true:=by rw[Ko (bK z36)];have h9:=z46;rw[Kw]at h9;exact h9
 rw[fX hb,if_neg (cu z19),if_pos (bK z36)]
 refine aj (ae (ab Z (jf [2,20,18,17,5,4,3,1,0] Z (jr ?_))))
 refine aJ Z ?_
 have hb:ic n=false:=by rw[Ko (bK z36)];have h9:=z46;rw[Kw]at h9;exact h9
 rw[jZ hb]
 refine ae (ab Z (jf [47,20,18,17,6,5,4,3,2,1,0] Z (jn (ah Z (fun z47=>?_) (fun z47=>?_)))))
 refine ae (ab Z (jf [50,20,18,17,6,5,4,3,2,1,0] Z (bP Z (p9 h1 h2) 52000 Z (js Z (jf [52,20,18,17,6,5,4,3,2,1,0] Z (aA 1 Z Z Z (fun hx=>ax hx Z (AN.nil)) Z Z ?_))))))
 first|refine av (ay O Z Z Z Z Z) Z ?_|refine av (aG O Z Z Z Z Z) Z ?_|refine av (Val.pickB O Z Z Z Z Z) Z ?_
 refine js Z (jf [55,20,18,17,6,5,4,3,2,1,0] Z (aA 1 Z Z Z (fun hx=>ax hx Z (AN.nil)) Z Z ?_))
 first|refine av (ay O Z Z Z Z Z) Z ?_|refine av (aG O Z Z Z Z Z) Z ?_|refine av (Val.pickB O Z Z Z Z Z) Z ?_
 refine jf [57,20,18,17,6,5,4,3,2,1,0] Z (jn (ah Z (fun z57=>?_) (fun z57=>?_)))
 refine ak (js Z (jn (ae (ab Z (jf [2,20,18,17,5,4,3,1,0] Z (jr ?_))))))
 refine aJ Z ?_
 have hb:ic n=true:=by rw[Kn (bK z47)];have h9:=z57;rw[Kv]at h9;exact h9
 rw[fX hb,if_neg (cu z19),if_neg (cu z36)]
 refine aj (ae (ab Z (jf [2,20,18,17,5,4,3,1,0] Z (jr ?_))))
 refine aJ Z ?_
 have hb:ic n=false:=by rw[Kn (bK z47)];have h9:=z57;rw[Kv]at h9;exact h9
 rw[jZ hb]
 refine aj (ae (ab Z (jf [2,20,18,17,5,4,3,1,0] Z (jr ?_))))
 refine aJ Z ?_
 rw[jZ (by rw[ic,if_neg (cu z19),if_neg (cu z36),if_neg (cu z47)])]
variable{p:List Nd}{k:Nat}
theorem If{n:Nat}(hk:k≤p.length)(hn:p.length<n+1+k)(ih: ∀k',k'≤p.length→p.length<n+k'→MQ h1 h2 152 [nY p,eI k'] [] (Plain (Ee (gq n p k')))):MQ h1 h2 152 [nY p,eI k] [] (Plain (Ee (gq (n+1) p k))):=by
 refine jB 45 h1 h2 Tryz.func152 Z fun O hF=>?_
 have hl:p.length≤L:=by simpa[As.fact,A.fact,M.fact,D.fact,Ds.fact]using hF.1.1
 refine ae (aH Z (jn (af (ae (ab Z ?_)))))
 first|refine dh Z ?_|refine js Z ?_|refine dv Z Z ?_
 refine js Z (jn (ah Z (fun z15=>?_) (fun z15=>?_)))
 try simp only[bG]at z15
 refine ae (aH Z (jr ?_))
 refine⟨.inl Z,_,b9,_,Z,?_,Z⟩
 rw[show gq (n+1) p k=none from if_pos (by omega)]
 try simp only[bG]at z15
 refine aj (ae (ab Z ?_))
 first|refine jD Z Z ?_|refine nN Z Z ?_|refine dv Z Z ?_
 refine js Z (bP Z (JY (n:=p.getD k default) h1 h2) 21000 Z (js Z (jn (af (ae (ab Z (jn (ah Z (fun z22=>?_) (fun z22=>?_)))))))))
 try simp only[bG]at z22
 refine ae (aH Z (jr ?_))
 refine⟨.inl Z,_,b9,_,Z,?_,Z⟩
 rw[show gq (n+1) p k=none by unfold gq;rw[if_neg (by omega)];exact if_pos z22]
 try simp only[bG]at z22
 refine aj (ae (js Z ?_))
 first|refine ji Z ?_|refine dv Z Z ?_
 refine js Z (ba (js Z (jn (af (ao (aw (X:=Nat×Nat×Int) (fun x=>⟨[(0,nY p),(1,eI x.2.1),(7,eI x.1),(8,eI x.2.2)],[]⟩) (fun x=>x.2.1≤p.length∧k<x.2.1∧i6 (gq n p) (gQ (p.getD k default)).toNat (k+1) 0=i6 (gq n p) x.1 x.2.1 x.2.2∧x.1≤2∧0≤x.2.2∧x.2.2≤(x.2.1:Int)-(k+1:Nat)) (fun x=>x.1) ((gQ (p.getD k default)).toNat,k+1,0) (Ent.to ⟨Z,Z,congrArg (fun z=>some (eI z)) (Int.toNat_of_nonneg z22).symm,Z,ap⟩ Z) ?_ (fun x hi=>?_)))))))
 exact⟨(show k+1≤p.length by omega),Nat.lt_succ_self k,Z,by have:=Bo (p.getD k default);show(gQ (p.getD k default)).toNat≤2;omega,Int.le_refl 0,by show(0:Int)≤((k+1:Nat):Int)-(k+1:Nat);omega⟩
 refine af (ae (ab Z (jn (ah Z (fun z26=>?_) (fun z26=>?_)))))
 try simp only[bG]at z26
 refine aj (af (ao (ae (ab Z (an O Z Z Z Z (ih x.2.1 hi.1 (by omega)) (ac Z) Z Z Z Z (B0:=33000) Z Z (az Z (aH Z (jn (af (ae (ab Z (jn (ah Z (fun z37=>?_) (fun z37=>?_))))))))))))))
 try simp only[bG]at z37
 refine ae (aH Z (jr ?_))
 refine⟨.inl Z,_,b9,_,Z,?_,Z⟩
 have e0:=BC z37
 rw [show gq (n+1) p k=none by
  unfold gq
  rw[if_neg (by omega),if_neg (by omega),hi.2.2.1]
  obtain⟨q,hq⟩: ∃q,x.1=q+1:=⟨x.1-1,by omega⟩
  rw[hq,iI e0];rfl]
 try simp only[bG]at z37
 refine aj (ae ?_)
 obtain⟨k1,d1,hr⟩:=xW z37
 rw[hr]
 refine az Z (jn (ak (ab Z (jn (ak (js Z ?_))))))
 first|refine ji Z ?_|refine dv Z Z ?_
 refine js Z (jn ?_)
 have hle:=x7 hr
 refine⟨(x.1-1,k1,if d1>x.2.2 then d1 else x.2.2),Ent.to ⟨Z,Z,?_,Z,ap⟩ Z,⟨hle.2.1,by show k<k1;omega,?_,by show x.1-1≤2;omega,by show 0≤(if d1>x.2.2 then d1 else x.2.2);split<;>omega,by show(if d1>x.2.2 then d1 else x.2.2)≤(k1:Int)-(k+1:Nat);split<;>omega⟩,?_⟩
 exact congrArg (fun z=>some (eI z)) (by show(x.1:Int)-1=(x.1-1:Nat);omega)
 rw[hi.2.2.1]
 obtain⟨q,hq⟩: ∃q,x.1=q+1:=⟨x.1-1,by omega⟩
 rw[hq,eL hr];rfl
 show x.1-1<x.1;omega
 try simp only[bG]at z26
 refine bg (ae (ab Z ?_))
 first|refine ji Z ?_|refine dv Z Z ?_
 refine aH Z (jr ?_)
 refine⟨.inl Z,_,b9,_,Z,?_,Z⟩
 have hx:x.1=0:=by omega
 rw [show gq (n+1) p k=some (x.2.1,x.2.2+1) by
  unfold gq
  rw[if_neg (by omega),if_neg (by omega),hi.2.2.1,hx];rfl]
theorem zA{L:Nat}(h1:4096≤L)(h2:L≤1073741824){p:List Nd}: ∀{n k:Nat},k≤p.length→p.length<n+k→MC Tryz.prog L 152 [nY p,eI k] [] (Plain (Ee (gq n p k)))
 | 0,k,hk,hn=>by omega
 | n+1,k,hk,hn=>If h1 h2 hk hn (fun k' hk' hn'=>zA h1 h2 hk' hn')
theorem Hh:MQ h1 h2 107 [nY p] [] (Plain (eB (vC p))):=by
 refine aL ?_ Z
 refine jB 22 h1 h2 Tryz.func107 Z fun O hF=>?_
 have hl:p.length≤L:=by simpa[As.fact,A.fact,M.fact,D.fact,Ds.fact]using hF.1.1
 refine ae (js Z (jn (af (ae (js Z ?_)))))
 first|refine dh Z ?_|refine js Z ?_|refine dv Z Z ?_
 refine js Z (jn (ah Z (fun z8=>?_) (fun z8=>?_)))
 try simp only[bG]at z8
 refine ae (js Z (jr ?_))
 refine aJ Z ?_
 rw[vC,decide_eq_false (show¬(p.length:Int)≤60 by omega),Bool.false_and]
 try simp only[bG]at z8
 refine aj (ae (js Z (bI [(10,_),(2,_),(0,_)] [] ⟨Z,Z,Z,ap⟩ Z (an O Z Z Z Z (zA (p:=p) (n:=p.length+1) (k:=0) h1 h2 (cT _) (by omega)) (ac Z) Z Z Z Z (B0:=12000) Z Z (az Z (aH Z (ba (ab Z (bI [(16,_),(3,_),(2,_),(0,_)] [] ⟨Z,Z,Z,Z,ap⟩ Z (aA 4 Z Z Z (fun hx=>ax hx Z (ax hx Z (dD hx (cf O Z Z Z Z Z Z Z Z) Z (ax hx Z (AN.nil))))) Z Z ?_))))))))))
 first|refine av (ay O Z Z Z Z Z) Z ?_|refine av (aG O Z Z Z Z Z) Z ?_|refine av (Val.pickB O Z Z Z Z Z) Z ?_
 refine js Z (jr ?_)
 refine aJ Z ?_
 rw[vC,decide_eq_true (show(p.length:Int)≤60 by omega),Bool.true_and,Bool.cond_false_right]
theorem mu: ∀{xs:List Int} {g:Nat},(xs.foldl (fun g x=>Nat.gcd g x.natAbs) g ∣ g)∧∀x∈xs,xs.foldl (fun g x=>Nat.gcd g x.natAbs) g ∣ x.natAbs
 | [],g=>⟨Nat.dvd_refl _,fun x hx=>by cases hx⟩
 | y::r,g=>by
  have ih:=mu (xs:=r) (g:=Nat.gcd g y.natAbs)
  refine⟨Nat.dvd_trans ih.1 (Nat.gcd_dvd_left _ _),fun x hx=>?_⟩
  rcases List.mem_cons.1 hx with rfl|hx
  exact Nat.dvd_trans ih.1 (Nat.gcd_dvd_right _ _)
  exact ih.2 x hx
theorem iC{xs:List Int}{x:Int}(hx:x∈xs):bB xs ∣ x.natAbs:=(mu (g:=0)).2 x hx
theorem Cx{x:Int}{g:Nat}(h:g ∣ x.natAbs)(hx:x≠0)(hg:2≤g):x.tdiv g≠0:=by
 intro h0
 have h1:(x.tdiv g).natAbs=x.natAbs/g:=by rw[Int.natAbs_tdiv];rfl
 rw[h0]at h1
 obtain⟨q,hq⟩:=h
 rw[hq,Nat.mul_div_cancel_left _ (by omega)]at h1
 have:q=0:=by simpa using h1.symm
 rw[this]at hq
 omega
theorem rY{xs:List Int}(h:xs=[]∨xs.getD (xs.length-1) default≠0):bM xs=xs:=by
 have:=lU (xs:=xs) (n:=xs.length) (da _) (h.imp (fun e=>by rw[e];rfl) id)
 rwa[List.take_length]at this
theorem EI{t:Tm}:t.ok=true↔num t.c=true∧t.xs.all num=true∧t.xs.length≤10∧(t.xs=[]∨t.xs.getD (t.xs.length-1) default≠0):=by
 unfold Tm.ok
 have hz:((t.xs.length:Int)-1).toNat=t.xs.length-1:=by omega
 rw[hz]
 cases h1:num t.c<;>cases h2:t.xs.all num<;>simp
 by_cases h3:t.xs.length≤10
 have h4: ¬(10:Int)<t.xs.length:=by omega
 by_cases h5:t.xs=[]
 simp[h5]
 have h6:0<t.xs.length:=List.length_pos_iff.2 h5
 simp[h3,h5]
 intro _;omega
 have h4:(10:Int)<t.xs.length:=by omega
 simp[h3,h4]
theorem EJ{c:Int}{xs:List Int}(h:(Tm.mk c xs).ok=true):mf c xs=(⟨c,xs⟩,true):=by
 have h1:=EI.1 h
 have h2:bM xs=xs:=rY h1.2.2.2
 unfold mf
 rw[h2,if_pos h]
theorem gt{t:Tm}(h:t.ok=true):f8 t=cq t:=by
 unfold f8 cq
 split
 rfl
 rename_i hg
 obtain⟨h1,h2,h3,h4⟩:=EI.1 h
 have hc:=I7.1 h1
 have e:(if t.c.tmod (bB t.xs)<0 then t.c.tdiv (bB t.xs)-1 else t.c.tdiv (bB t.xs))=t5 t.c (bB t.xs):=rfl
 rw[e]
 refine(EJ ?_).symm
 refine EI.2 ⟨?_,?_,by simpa using h3,?_⟩
 have hq:(t.c.tdiv (bB t.xs)).natAbs=t.c.natAbs/bB t.xs:=by rw[Int.natAbs_tdiv];rfl
 have hq2:t.c.natAbs/bB t.xs≤t.c.natAbs/2:=Nat.div_le_div_left (by omega) (by decide)
 refine I7.2 ?_
 show -1000000≤t5 t.c (bB t.xs)∧t5 t.c (bB t.xs)≤1000000
 unfold t5
 split<;>omega
 rw[List.all_eq_true]
 intro y hy
 obtain⟨x,hx,rfl⟩:=List.mem_map.1 hy
 have:=I7.1 (List.all_eq_true.1 h2 x hx)
 exact I7.2 (eV this)
 rcases h4 with h4|h4
 exact .inl (by rw[h4];rfl)
 by_cases h0:t.xs=[]
 exact .inl (by rw[h0];rfl)
 refine .inr ?_
 have hl:0<t.xs.length:=List.length_pos_iff.2 h0
 rw[aD (by omega)]at h4
 rw[aD (by simp;omega)]
 simp only[bQ,List.getElem_map]
 exact Cx (iC (List.getElem_mem _)) h4 (by omega)
theorem Bg{t:Tm}:mg t (-1) ⟨1,[]⟩ (-1)=bU [t] [-1]:=by
 unfold mg bU
 apply List.map_congr_left
 intro k _
 show -1*t.xs.getD k 0+ -1*0= -1*t.xs.getD k 0+0
 omega
theorem vW{t:Tm}:aX t=if(ep t).ok=true then(ep t,true)else(⟨0,[]⟩,false):=by
 unfold aX yi mf
 rw[Bg]
 have:(-1*t.c+ -1*(⟨1,[]⟩:Tm).c)=bD Tm.c [t] [-1]-1:=by
  show -1*t.c+ -1*1= -1*t.c+0-1
  omega
 rw[this]
theorem mn{t:Tm}:(aX t).2=(ep t).ok:=by
 rw[vW]
 cases h:(ep t).ok<;>simp
theorem zN{t:Tm}(h:(ep t).ok=true):(aX t).1=ep t:=by rw[vW,if_pos h]
theorem Dd{xs:List Int}:bM xs=[]↔xs.all (fun x=>decide (x=0))=true:=by
 unfold bM
 rw[List.reverse_eq_nil_iff,List.all_eq_true]
 constructor
 intro h x hx
 have key: ∀{l:List Int},l.dropWhile (· == 0)=[]→∀x∈l,x=0:=by
  intro l
  induction l with
  | nil=>intro _ x hx;cases hx
  | cons y r ih=>
   intro h x hx
   rw[List.dropWhile_cons]at h
   split at h
   rename_i hy
   rcases List.mem_cons.1 hx with rfl|hx
   simpa using hy
   exact ih h x hx
   cases h
 exact decide_eq_true (key h x (List.mem_reverse.2 hx))
 intro h
 have key: ∀{l:List Int},(∀x∈l,x=0)→l.dropWhile (· == 0)=[]:=by
  intro l
  induction l with
  | nil=>intro _;rfl
  | cons y r ih=>
   intro h
   rw[List.dropWhile_cons,if_pos (by simpa using h y (by simp))]
   exact ih fun x hx=>h x (by simp[hx])
 exact key fun x hx=>bK (h x (List.mem_reverse.1 hx))
theorem sG{ctx:List Tm}{ms:List Int}:dY ctx ms=pT ctx ms:=by
 unfold dY pT
 have h1:decide (ms.length=ctx.length)=decide (ctx.length=ms.length):=decide_eq_decide.2 ⟨Eq.symm,Eq.symm⟩
 have h2:decide ((bM (bU ctx ms)).length=0)=(bU ctx ms).all (fun x=>decide (x=0)):=by
  cases h:(bU ctx ms).all (fun x=>decide (x=0))with
  | true=>rw[Dd.2 h];rfl
  | false=>
   refine decide_eq_false fun h0=>?_
   rw[Dd.1 (List.eq_nil_of_length_eq_zero h0)]at h
   cases h
 rw[h1,h2]
inductive Pf where
  | close (n:Nd)
  | tight (n:Nd) (a:Pf)
  | split (n:Nd) (a b:Pf)
def Pf.size:Pf→Nat
  | .close _=>1
  | .tight _ a=>1+a.size
  | .split _ a b=>1+a.size+b.size
def Pf.At(p:List Nd):Pf→Nat→Prop
  | .close n,k=>p[k]? = some n∧ic n=true∧n.kind=1
  | .tight n a,k=>p[k]? = some n∧ic n=true∧n.kind=3∧a.At p (k+1)
  | .split n a b,k=>p[k]? = some n∧ic n=true∧n.kind=2∧a.At p (k+1)∧b.At p (k+1+a.size)
theorem cE{p:List Nd}{k:Nat}{n:Nd}(h:p[k]? = some n):k<p.length∧p.getD k default=n:=by
 have h1:=(List.getElem?_eq_some_iff.1 h).1
 exact⟨h1,by rw[aD h1];exact(List.getElem?_eq_some_iff.1 h).2⟩
theorem Pf.At.le{p:List Nd}: ∀{t:Pf} {k:Nat},t.At p k→k+t.size≤p.length
 | .close n,k,h=>by have:=(cE h.1).1;simp only[Pf.size];omega
 | .tight n a,k,h=>by have:=h.2.2.2.le;simp only[Pf.size];omega
 | .split n a b,k,h=>by have:=h.2.2.2.2.le;simp only[Pf.size];omega
theorem dq: ∀{t:Pf},0<t.size
 | .close _=>by simp[Pf.size]
 | .tight _ _=>by simp only[Pf.size];omega
 | .split _ _ _=>by simp only[Pf.size];omega
theorem Pf.At.beh{p:List Nd}: ∀{t:Pf} {k n:Nat},t.At p k→p.length<n+k→∃d,gq n p k=some (k+t.size,d)
 | .close x,k,0,h,hn=>by have:=(cE h.1).1;omega
 | .tight x a,k,0,h,hn=>by have:=(cE h.1).1;omega
 | .split x a b,k,0,h,hn=>by have:=(cE h.1).1;omega
 | .close x,k,n+1,h,hn=>by
  obtain⟨h1,h2⟩:=cE h.1
  have hk:gQ x=0:=by rw[fX h.2.1,if_pos h.2.2]
  refine⟨0+1,?_⟩
  unfold gq
  rw[if_neg (by omega),h2,hk,if_neg (by decide)]
  rfl
 | .tight x a,k,n+1,h,hn=>by
  obtain⟨h1,h2⟩:=cE h.1
  have hk:gQ x=1:=by rw[fX h.2.1,if_neg (by rw[h.2.2.1];decide),if_neg (by rw[h.2.2.1];decide)]
  obtain⟨d,hd⟩:=h.2.2.2.beh (n:=n) (by omega)
  refine⟨(if d>0 then d else 0)+1,?_⟩
  unfold gq
  rw[if_neg (by omega),h2,hk,if_neg (by decide),show(1:Int).toNat=0+1 from Z,eL hd]
  show some (k+1+a.size,_)=some (k+(1+a.size),_)
  rw[Nat.add_assoc]
 | .split x a b,k,n+1,h,hn=>by
  obtain⟨h1,h2⟩:=cE h.1
  have hk:gQ x=2:=by rw[fX h.2.1,if_neg (by rw[h.2.2.1];decide),if_pos h.2.2.1]
  obtain⟨d,hd⟩:=h.2.2.2.1.beh (n:=n) (by omega)
  obtain⟨d',hd'⟩:=h.2.2.2.2.beh (n:=n) (by have:=dq (t:=a);omega)
  refine⟨(if d'>(if d>0 then d else 0)then d' else(if d>0 then d else 0))+1,?_⟩
  unfold gq
  rw[if_neg (by omega),h2,hk,if_neg (by decide),show(2:Int).toNat=1+1 from Z,eL hd,show(1:Nat)=0+1 from Z,eL hd']
  show some (k+1+a.size+b.size,_)=some (k+(1+a.size+b.size),_)
  rw[show k+1+a.size+b.size=k+(1+a.size+b.size) by omega]
theorem vq{n:Nd}(h: ¬gQ n<0):ic n=true:=by
 cases hb:ic n with
 | true=>rfl
 | false=>rw[jZ hb]at h;exact absurd (by decide) h
theorem td{p:List Nd}: ∀{n k k':Nat} {d:Int},gq n p k=some (k',d)→∃t:Pf,t.At p k∧k'=k+t.size
 | 0,_,_,_,h=>by cases h
 | n + 1,k,k',d,h=>by
  unfold gq at h
  split at h
  cases h
  rename_i hl
  split at h
  cases h
  rename_i hk
  have hb:=vq hk
  have hg:p[k]? = some (p.getD k default):=by rw[aD (by omega)];exact List.getElem?_eq_getElem (by omega)
  generalize p.getD k default=x at hk hb hg h
  rcases qu hb with h1|h1|h1
  rw[fX hb,if_pos h1]at h
  simp only[Int.toNat_zero,i6,Option.map_some,ef,Prod.mk.injEq]at h
  exact⟨.close x,⟨hg,hb,h1⟩,h.1.symm⟩
  rw[fX hb,if_neg (by omega),if_pos h1,show(2:Int).toNat=1+1 from Z]at h
  cases e1:gq n p (k+1)with
  | none=>rw[iI e1]at h;cases h
  | some r1=>
   obtain⟨k1,d1⟩:=r1
   rw[eL e1,show(1:Nat)=0+1 from Z]at h
   obtain⟨a,ha,rfl⟩:=td e1
   cases e2:gq n p (k+1+a.size)with
   | none=>rw[iI e2]at h;cases h
   | some r2=>
    obtain⟨k2,d2⟩:=r2
    rw[eL e2]at h
    obtain⟨b,hb2,rfl⟩:=td e2
    simp only[i6,Option.map_some,ef,Prod.mk.injEq]at h
    exact⟨.split x a b,⟨hg,hb,h1,ha,hb2⟩,by rw[←h.1];simp only[Pf.size];omega⟩
  rw[fX hb,if_neg (by omega),if_neg (by omega),show(1:Int).toNat=0+1 from Z]at h
  cases e1:gq n p (k+1)with
  | none=>rw[iI e1]at h;cases h
  | some r1=>
   obtain⟨k1,d1⟩:=r1
   rw[eL e1]at h
   obtain⟨a,ha,rfl⟩:=td e1
   simp only[i6,Option.map_some,ef,Prod.mk.injEq]at h
   exact⟨.tight x a,⟨hg,hb,h1,ha⟩,by rw[←h.1];simp only[Pf.size];omega⟩
theorem Pf.At.endK{p:List Nd}: ∀{t:Pf} {k:Nat} {need:Int},t.At p k→0<need→Al.endK (p.drop k) need=(Al.endK (p.drop (k+t.size)) (need-1)).map (· + t.size)
 | .close x,k,need,h,hn=>by
  obtain⟨h1,h2⟩:=cE h.1
  rw[lh hn h1,h2,h.2.2];rfl
 | .tight x a,k,need,h,hn=>by
  obtain⟨h1,h2⟩:=cE h.1
  rw[lh hn h1,h2,h.2.2.1,show need+dl 3=need by show need+0=need;omega,h.2.2.2.endK hn,Option.map_map]
  simp only[Pf.size]
  rw[show k+1+a.size=k+(1+a.size) by omega]
  exact congrArg (fun f=>Option.map f _) (funext fun n=>by show n+a.size+1=n+(1+a.size);omega)
 | .split x a b,k,need,h,hn=>by
  obtain⟨h1,h2⟩:=cE h.1
  rw[lh hn h1,h2,h.2.2.1,show need+dl 2=need+1 from Z,h.2.2.2.1.endK (by omega),show need+1-1=need by omega,h.2.2.2.2.endK hn,Option.map_map,Option.map_map]
  simp only[Pf.size]
  rw[show k+1+a.size+b.size=k+(1+a.size+b.size) by omega]
  exact congrArg (fun f=>Option.map f _) (funext fun n=>by show n+b.size+a.size+1=n+(1+a.size+b.size);omega)
theorem Pf.At.endP{p:List Nd}{t:Pf}{k:Nat}(h:t.At p k):Al.endP p k=k+t.size:=by
 unfold Al.endP
 rw[h.endK (by decide),show(1:Int)-1=0 from Z,u6 (Int.le_refl 0)]
 show(k:Int)+(0+t.size:Nat)=_
 omega
theorem Pf.At.valid{p:List Nd}: ∀{t:Pf} {k j:Nat},t.At p k→k≤j→j<k+t.size→ic (p.getD j default)=true
 | .close x,k,j,h,h1,h2=>by
  simp only[Pf.size]at h2
  obtain rfl:j=k:=by omega
  rw[(cE h.1).2];exact h.2.1
 | .tight x a,k,j,h,h1,h2=>by
  by_cases e:j=k
  subst e;rw[(cE h.1).2];exact h.2.1
  simp only[Pf.size]at h2
  exact h.2.2.2.valid (by omega) (by omega)
 | .split x a b,k,j,h,h1,h2=>by
  by_cases e:j=k
  subst e;rw[(cE h.1).2];exact h.2.1
  simp only[Pf.size]at h2
  by_cases e2:j<k+1+a.size
  exact h.2.2.2.1.valid (by omega) (by omega)
  exact h.2.2.2.2.valid (by omega) (by omega)
theorem pO{p:List Nd}(hv: ∀n∈p,ic n=true): ∀{m k:Nat} {need:Int} {r:Nat},p.length-k≤m→0<need→endK (p.drop k) need=some r→∃t:Pf,t.At p k
 | 0,k,need,r,hm,hn,h=>by
  rw[List.drop_of_length_le (by omega),u5 hn]at h;cases h
 | m+1,k,need,r,hm,hn,h=>by
  by_cases hk:k<p.length
  have hg:p[k]? = some (p.getD k default):=by rw[aD hk];exact List.getElem?_eq_getElem hk
  have hb:ic (p.getD k default)=true:=by rw[aD hk];exact hv _ (List.getElem_mem hk)
  rw[lh hn hk]at h
  generalize p.getD k default=x at hb hg h
  rcases qu hb with h1|h1|h1
  exact⟨.close x,hg,hb,h1⟩
  rw[h1,show need+dl 2=need+1 from Z]at h
  simp only[Option.map_eq_some_iff]at h
  obtain⟨r1,h2,_⟩:=h
  obtain⟨a,ha⟩:=pO hv (m:=m) (by omega) (by omega) h2
  rw[ha.endK (by omega),show need+1-1=need by omega]at h2
  simp only[Option.map_eq_some_iff]at h2
  obtain⟨r2,h3,_⟩:=h2
  obtain⟨b,hb2⟩:=pO hv (m:=m) (by have:=dq (t:=a);omega) hn h3
  exact⟨.split x a b,hg,hb,h1,ha,hb2⟩
  rw[h1,show need+dl 3=need by show need+0=need;omega]at h
  simp only[Option.map_eq_some_iff]at h
  obtain⟨r1,h2,_⟩:=h
  obtain⟨a,ha⟩:=pO hv (m:=m) (by omega) hn h2
  exact⟨.tight x a,hg,hb,h1,ha⟩
  rw[List.drop_of_length_le (by omega),u5 hn]at h;cases h
theorem Bt{p:List Nd}(h:t3 p=true): ∃t:Pf,t.At p 0∧t.size=p.length:=by
 obtain⟨h1,h2,h3,h4⟩:=k9 h
 have h5: ∃r,endK (p.drop 0) 1=some r:=by
  unfold endP at h4
  cases e:endK (p.drop 0) 1 with
  | some r=>exact⟨r,Z⟩
  | none=>rw[e]at h4;have h4:(-1:Int)=p.length:=h4;omega
 obtain⟨r,hr⟩:=h5
 obtain⟨t,ht⟩:=pO h3 (da _) (by decide) hr
 refine⟨t,ht,?_⟩
 rw[ht.endP]at h4
 omega
theorem qv{p:List Nd}(h:vC p=true):p.length≤60∧∃t:Pf,t.At p 0∧t.size=p.length:=by
 unfold vC at h
 simp only[bS,decide_eq_true_eq]at h
 obtain⟨k,d,hr⟩:=xW h.2.1
 obtain⟨t,ht,hk⟩:=td hr
 have h3:=h.2.2
 rw[hr]at h3
 have h3:(k:Int)=p.length:=h3
 exact⟨by omega,t,ht,by omega⟩
theorem vZ{p:List Nd}:vC p=t3 p:=by
 rw[Bool.eq_iff_iff]
 constructor
 intro h
 obtain⟨h1,t,ht,hs⟩:=qv h
 have hp:=dq (t:=t)
 unfold t3
 rw[decide_eq_true (show(1:Int)≤p.length by omega),decide_eq_true (show(p.length:Int)≤60 by omega),ht.endP,decide_eq_true (show((0:Nat):Int)+t.size=p.length by omega)]
 simp only[Bool.and_true,Bool.true_and,List.all_eq_true]
 intro n hn
 obtain⟨j,hj,rfl⟩:=List.mem_iff_getElem.1 hn
 have:=ht.valid (cT j) (by omega)
 rwa[aD hj]at this
 intro h
 obtain⟨t,ht,hs⟩:=Bt h
 obtain⟨h1,h2,_,_⟩:=k9 h
 obtain⟨d,hd⟩:=ht.beh (n:=p.length+1) (by omega)
 unfold vC
 rw[decide_eq_true (show(p.length:Int)≤60 by omega),hd]
 show(true&&decide (((0+t.size:Nat):Int)=p.length))=true
 rw[decide_eq_true (by omega)];rfl
structure Ex where
  es:List (Int×List Tm)
  flaw:Int
def nO:List (Int×List Tm)→Int→List Tm→List (Int×List Tm)
  | [],k,x=>[(k,x)]
  | (j,y)::r,k,x=>if k=j then(k,x)::r else(j,y)::nO r k x
def ie:List (Int×List Tm)→Int→Option (List Tm)
  | [],_=>none
  | (j,x)::r,k=>if k=j then some x else ie r k
abbrev cm(es:List (Int×List Tm)):List (Int×D):=es.map fun x=>(x.1,fC x.2)
theorem pL{k:Int}{c:List Tm}: ∀{es:List (Int×List Tm)},gG (cm es) k (fC c)=cm (nO es k c)
 | []=>rfl
 | (j,y)::r=>by
  show(if k=j then(k,fC c)::cm r else(j,fC y)::gG (cm r) k (fC c))=cm (if k=j then(k,c)::r else(j,y)::nO r k c)
  rw[pL]
  split<;>rfl
theorem ng{k j:Int}{c:List Tm}: ∀{es:List (Int×List Tm)},ie (nO es k c) j=if j=k then some c else ie es j
 | []=>by simp[nO,ie]
 | (i,y)::r=>by
  unfold nO
  by_cases h:k=i
  subst h
  rw[if_pos Z]
  simp only[ie]
  split<;>rfl
  rw[if_neg h]
  simp only[ie,ng]
  by_cases h1:j=i
  subst h1;rw[if_pos rfl,if_pos rfl,if_neg (fun e=>h e.symm)]
  rw[if_neg h1,if_neg h1]
def Ex.put(e:Ex)(k:Nat)(c:List Tm):Ex:={e with es:=nO e.es k c}
def Ex.bad(e:Ex)(k:Nat):Ex:=if e.flaw<0 then{e with flaw:=k}else e
def gM(n:Nd)(c:List Tm):Bool:=decide ((c.length:Int)<20)&&(ep n.term).ok
def ik(n:Nd)(c:List Tm):Bool:=decide ((c.length:Int)<20)&&ft 0 ((c.length:Int)-1) n.fact
def pm(n:Nd)(c:List Tm):Tm×Bool:=f8 (c.getD n.fact.toNat default)
def j6:Pf→Nat→List Tm→Ex→Ex
  | .close n,k,c,e=>if dY c n.mul=true then e.put k c else(e.put k c).bad k
  | .tight n a,k,c,e=>if(ik n c&&(pm n c).2)=true then j6 a (k+1) (c++[(pm n c).1]) (e.put k c)else(e.put k c).bad k
  | .split n a b,k,c,e=>if gM n c=true then j6 b (k+1+a.size) (c++[ep n.term]) (j6 a (k+1) (c++[n.term]) (e.put k c))else(e.put k c).bad k
theorem CtxOk.snoc{c:List Tm}{t:Tm}(h:CtxOk c)(ht:t.ok=true)(hl:(c.length:Int)<20):CtxOk (c++[t]):=⟨fun u hu=>by
 rcases List.mem_append.1 hu with hu|hu
 exact h.ok u hu
 simp at hu;subst hu;exact ht,by simp;omega⟩
theorem Ea:Tryz.prog.underlying 136=some (.map 3 24):=by kernel_rfl
theorem u3:Tryz.prog.underlying 3=some (.int .i64):=by kernel_rfl
abbrev xH(p:List Nd)(e:Ex):List (Nat×B):=[(0,.box [.d (D9 p),.mp 1,.d (.int .i64 e.flaw)]),(1,bn (cm e.es))]
theorem te{e:Ex}{k:Nat}(h:e.flaw<0):e.bad k={e with flaw:=k}:=if_pos h
theorem tg{e:Ex}{k:Nat}(h: ¬e.flaw<0):e.bad k=e:=if_neg h
theorem GD{a b:Bool}:(bif a then b else false)=(a&&b):=by cases a<;>rfl
variable{c0:Tm}{r0:List Tm}
theorem E7{e:Ex}(hA:Pf.At p (.close n) k)(hc:CtxOk (c0::r0))(hpl:p.length≤1000):MQ h1 h2 108 [.c (.pt 0 0 0),eI k,cb (c0::r0)] (xH p e) (bb (eI ((k+Pf.size (.close n):Nat):Int)) (xH p (j6 (.close n) k (c0::r0) e))):=by
 refine jH 112 [0,1] h1 h2 Tryz.func108 Z fun O hF=>?_
 obtain⟨dd,hd⟩:=hA.beh (n:=p.length+1) (by omega)
 obtain⟨hkl,hgn⟩:=cE hA.1
 have hnb:=hA.2.1
 have hks:=hA.le
 have hlc:=hc.len
 refine ae (js Z (ba (az Z (js Z (an O Z Z Z Z ((zA (p:=p) (n:=p.length+1) (k:=k) h1 h2 (by omega) (by omega)).plain (u:=.tup [eI ((k+Pf.size (.close n):Nat):Int),eI dd,eB true]) (by rw[hd])) (ac Z) Z Z Z Z (B0:=23000) Z Z (az Z (aH Z (ba (az Z (js Z (av ((bf O Z Z Z Z Z Z Z Z (dO hkl)).cast (v':=ptr n.cells) (by rw[hgn])) Z (js Z (jl Z (aq ?_))))))))))))))
 refine jo Z (aq ?_)
 refine ba (az Z (ab Z (aU (HS.mapUpdate (kt:=3) (et:=24) (q:=.i64) (es:=cm e.es) (k:=(k:Int)) (v:=fC (c0::r0)) O Z Z Z Z Ea u3 Z Z Z Z Z) Z ?_)))
 rw[pL]
 obtain⟨e1,he1⟩: ∃e1:Ex,e1=e.put k (c0::r0):=⟨_,rfl⟩
 have he1s:nO e.es k (c0::r0)=e1.es:=by rw[he1];rfl
 have he1f:e.flaw=e1.flaw:=by rw[he1];rfl
 rw[he1s,he1f]
 refine aq ?_
 refine aq ?_
 refine ba (js Z ?_)
 first|refine dh Z ?_|refine js Z ?_|refine dv Z Z ?_
 refine ab Z (jn (af (ae (ab Z (jn (ao (ae (ab Z (jn (ah Z (fun z44=>?_) (fun z44=>?_)))))))))))
 refine ae (aH Z (bP Z (J2 (ctx:=c0::r0) (ms:=n.mul) h1 h2 hc (E4 (CL hnb))) 50000 Z (jn (ah Z (fun z49=>?_) (fun z49=>?_)))))
 refine ae (ab Z (jr ?_))
 have hv:j6 (.close n) k (c0::r0) e=e1:=by rw[he1];exact if_pos z49
 refine⟨.inl Z,_,am [0,1] Z Z (e':=[(6,_)]) ⟨Z,ap⟩ Z,_,Z,?_,?_⟩
 rfl
 rw[hv];rfl
 refine aj (af (ae (az Z (js Z (jn (ah Z (fun z106=>?_) (fun z106=>?_)))))))
 refine ak (az Z (jo Z (aq ?_)))
 refine ba (ab Z (jr ?_))
 have hv:j6 (.close n) k (c0::r0) e=e1.bad k:=by rw[he1];exact if_neg (by rw[z49];decide)
 rw[te (bK z106)]at hv
 refine⟨.inl Z,_,am [0,1] Z Z (e':=[(6,_)]) ⟨Z,ap⟩ Z,_,Z,?_,?_⟩
 rfl
 rw[hv];rfl
 refine aj (ae (ab Z (jr ?_)))
 have hv:j6 (.close n) k (c0::r0) e=e1.bad k:=by rw[he1];exact if_neg (by rw[z49];decide)
 rw[tg (cu z106)]at hv
 refine⟨.inl Z,_,am [0,1] Z Z (e':=[(6,_)]) ⟨Z,ap⟩ Z,_,Z,?_,?_⟩
 rfl
 rw[hv];rfl
 exact absurd hA.2.2 (cu z44)
theorem E6{a b:Pf}{e:Ex}(hA:Pf.At p (.split n a b) k)(hc:CtxOk (c0::r0))(hpl:p.length≤1000)(iha: ∀{c0:Tm} {r0:List Tm} {e:Ex},CtxOk (c0::r0)→MQ h1 h2 108 [.c (.pt 0 0 0),eI (k+1:Nat),cb (c0::r0)] (xH p e) (bb (eI ((k+1+a.size:Nat):Int)) (xH p (j6 a (k+1) (c0::r0) e))))(ihb: ∀{c0:Tm} {r0:List Tm} {e:Ex},CtxOk (c0::r0)→MQ h1 h2 108 [.c (.pt 0 0 0),eI (k+1+a.size:Nat),cb (c0::r0)] (xH p e) (bb (eI ((k+1+a.size+b.size:Nat):Int)) (xH p (j6 b (k+1+a.size) (c0::r0) e)))):MQ h1 h2 108 [.c (.pt 0 0 0),eI k,cb (c0::r0)] (xH p e) (bb (eI ((k+Pf.size (.split n a b):Nat):Int)) (xH p (j6 (.split n a b) k (c0::r0) e))):=by
 refine jH 112 [0,1] h1 h2 Tryz.func108 Z fun O hF=>?_
 obtain⟨dd,hd⟩:=hA.beh (n:=p.length+1) (by omega)
 obtain⟨hkl,hgn⟩:=cE hA.1
 have hnb:=hA.2.1
 have hks:=hA.le
 have hlc:=hc.len
 refine ae (js Z (ba (az Z (js Z (jf [21,20,6,0,1,2] Z (an O Z Z Z Z ((zA (p:=p) (n:=p.length+1) (k:=k) h1 h2 (by omega) (by omega)).plain (u:=.tup [eI ((k+Pf.size (.split n a b):Nat):Int),eI dd,eB true]) (by rw[hd])) (ac Z) Z Z Z Z (B0:=23000) Z Z (az Z (aH Z (jf [7,6,0,1,2] Z (ba (az Z (js Z (av ((bf O Z Z Z Z Z Z Z Z (dO hkl)).cast (v':=ptr n.cells) (by rw[hgn])) Z (js Z (jf [32,7,6,0,1,2] Z (jl Z (aq ?_)))))))))))))))))
 refine jo Z (aq ?_)
 refine ba (az Z (ab Z (jf [38,37,36,10,32,7,6,0,1,2] Z (aU (HS.mapUpdate (kt:=3) (et:=24) (q:=.i64) (es:=cm e.es) (k:=(k:Int)) (v:=fC (c0::r0)) O Z Z Z Z Ea u3 Z Z Z Z Z) Z ?_))))
 rw[pL]
 obtain⟨e1,he1⟩: ∃e1:Ex,e1=e.put k (c0::r0):=⟨_,rfl⟩
 have he1s:nO e.es k (c0::r0)=e1.es:=by rw[he1];rfl
 have he1f:e.flaw=e1.flaw:=by rw[he1];rfl
 rw[he1s,he1f]
 refine aq ?_
 refine aq ?_
 refine jf [10,32,7,6,0,1,2] Z (ba (js Z ?_))
 first|refine dh Z ?_|refine js Z ?_|refine dv Z Z ?_
 refine ab Z (jf [11,10,32,7,6,0,1,2] Z (jn (af (ae (ab Z (jn (ao (ae (ab Z (jn (ah Z (fun z44=>?_) (fun z44=>?_))))))))))))
 exact absurd (bK z44) (by rw[hA.2.2.1];decide)
 refine ae (ab Z (jf [51,45,43,42,11,10,32,7,6,0,1,2] Z (jn (ah Z (fun z51=>?_) (fun z51=>?_)))))
 refine ae (ab Z (jf [54,45,43,42,11,10,32,7,6,0,1,2] Z (an O Z Z Z Z (zC (t:=n.term) h1 h2 (nj hnb)) (ac Z) Z Z Z Z (B0:=56000) Z Z (jf [55,45,43,42,11,10,32,7,6,0,1,2] Z (jl Z (aq ?_))))))
 refine jo Z (aq ?_)
 refine ba (ab Z (jf [57,12,55,45,43,42,11,10,32,7,6,0,1,2] Z (aA 2 Z Z Z (fun hx=>ax hx Z (bA O hx Z Z Z Z (mS (t:=ep n.term) h1 h2) (ac Z) Z Z Z Z Z Z Z (B0:=60000) Z (AN.nil))) Z Z ?_)))
 first|refine av (ay O Z Z Z Z Z) Z ?_|refine av (aG O Z Z Z Z Z) Z ?_|refine av (Val.pickB O Z Z Z Z Z) Z ?_
 refine jf [60,12,55,45,43,42,11,10,32,7,6,0,1,2] Z (jn (ah Z (fun z60=>?_) (fun z60=>?_)))
 refine ae ?_
 have hs:gM n (c0::r0)=true:=by have h9:=z60;rw[GD]at h9;exact h9
 have hs':=hs
 simp only[gM,bS,decide_eq_true_eq]at hs'
 have hcl:=hs'.1
 have hok:=hs'.2
 have hl1:(c0::r0).length≤1000:=hc.len
 refine ab Z ?_
 first|refine ji Z ?_|refine dv Z Z ?_
 refine aH Z (jf [66,64,63,61,12,55,45,43,42,11,10,32,7,6,0,1,2] Z (an O Z Z Z Z (Ca (c:=c0) (r:=r0) (t:=n.term) h1 h2 hl1) (ac Z) Z Z Z Z (B0:=68000) Z Z (jf [67,63,61,12,55,45,43,42,11,10,32,7,6,0,1,2] Z (au O [0,1] (bin:=[.box [.d (D9 p),.mp 1,.d (.int .i64 (e1).flaw)],bn (cm (e1).es)]) Z Z Z Z (iha (c0:=c0) (r0:=r0++[n.term]) (e:=e1) (hc.snoc (nj hnb) hcl)) Z Z Z Z Z Z (B0:=69000) Z Z (aq ?_)))))
 refine js Z (jf [13,12,55,45,43,42,11,10,32,7,6,0,1,2] Z (ba ?_))
 obtain⟨e2,he2⟩: ∃e2:Ex,e2=j6 a (k+1) (c0::(r0++[n.term])) e1:=⟨_,rfl⟩
 rw[show j6 a (k+1) (c0::(r0++[n.term])) e1=e2 from he2.symm]
 refine az Z (jf [72,71,70,69,12,55,45,43,42,11,10,32,7,6,0,1,2] Z (an O Z Z Z Z (Ca (c:=c0) (r:=r0) (t:=ep n.term) h1 h2 hl1) (ac Z) Z Z Z Z (B0:=74000) Z Z (jf [73,70,69,12,55,45,43,42,11,10,32,7,6,0,1,2] Z (au O [0,1] (bin:=[.box [.d (D9 p),.mp 1,.d (.int .i64 (e2).flaw)],bn (cm (e2).es)]) Z Z Z Z (ihb (c0:=c0) (r0:=r0++[ep n.term]) (e:=e2) (hc.snoc hok hcl)) Z Z Z Z Z Z (B0:=75000) Z Z (aq ?_)))))
 refine js Z (jf [6,12,55,45,43,42,11,10,32,7,0,1,2] Z (jr ?_))
 have hv:j6 (.split n a b) k (c0::r0) e=j6 b (k+1+a.size) (c0::r0++[ep n.term]) e2:=by rw[he2,he1];exact if_pos hs
 refine⟨.inl Z,_,am [0,1] Z Z (e':=[(6,_)]) ⟨Z,ap⟩ Z,_,Z,?_,?_⟩
 exact congrArg (fun z:Nat=>eI (z:Int)) (by simp only[Pf.size];omega)
 rw[hv];rfl
 refine aj (af (ae (az Z (js Z (jf [106,12,55,45,43,42,11,10,32,7,6,0,1,2] Z (jn (ah Z (fun z106=>?_) (fun z106=>?_))))))))
 refine ak (az Z (jf [110,108,12,55,45,43,42,11,10,32,7,6,0,1,2] Z (jo Z (aq ?_))))
 refine jf [12,55,45,43,42,11,10,32,7,6,0,1,2] Z (ba (ab Z (jr ?_)))
 have hv:j6 (.split n a b) k (c0::r0) e=e1.bad k:=by rw[he1];exact if_neg (by rw[show gM n (c0::r0)=false by have h9:=z60;rw[GD]at h9;exact h9];decide)
 rw[te (bK z106)]at hv
 refine⟨.inl Z,_,am [0,1] Z Z (e':=[(6,_)]) ⟨Z,ap⟩ Z,_,Z,?_,?_⟩
 rfl
 rw[hv];rfl
 refine aj (ae (ab Z (jf [6,12,55,45,43,42,11,10,32,7,0,1,2] Z (jr ?_))))
 have hv:j6 (.split n a b) k (c0::r0) e=e1.bad k:=by rw[he1];exact if_neg (by rw[show gM n (c0::r0)=false by have h9:=z60;rw[GD]at h9;exact h9];decide)
 rw[tg (cu z106)]at hv
 refine⟨.inl Z,_,am [0,1] Z Z (e':=[(6,_)]) ⟨Z,ap⟩ Z,_,Z,?_,?_⟩
 rfl
 rw[hv];rfl
 exact absurd hA.2.2.1 (cu z51)
theorem E5{a:Pf}{e:Ex}(hA:Pf.At p (.tight n a) k)(hc:CtxOk (c0::r0))(hpl:p.length≤1000)(iha: ∀{c0:Tm} {r0:List Tm} {e:Ex},CtxOk (c0::r0)→MQ h1 h2 108 [.c (.pt 0 0 0),eI (k+1:Nat),cb (c0::r0)] (xH p e) (bb (eI ((k+1+a.size:Nat):Int)) (xH p (j6 a (k+1) (c0::r0) e)))):MQ h1 h2 108 [.c (.pt 0 0 0),eI k,cb (c0::r0)] (xH p e) (bb (eI ((k+Pf.size (.tight n a):Nat):Int)) (xH p (j6 (.tight n a) k (c0::r0) e))):=by
 refine jH 112 [0,1] h1 h2 Tryz.func108 Z fun O hF=>?_
 obtain⟨dd,hd⟩:=hA.beh (n:=p.length+1) (by omega)
 obtain⟨hkl,hgn⟩:=cE hA.1
 have hnb:=hA.2.1
 have hks:=hA.le
 have hlc:=hc.len
 refine ae (js Z (ba (az Z (js Z (jf [21,20,6,0,1,2] Z (an O Z Z Z Z ((zA (p:=p) (n:=p.length+1) (k:=k) h1 h2 (by omega) (by omega)).plain (u:=.tup [eI ((k+Pf.size (.tight n a):Nat):Int),eI dd,eB true]) (by rw[hd])) (ac Z) Z Z Z Z (B0:=23000) Z Z (az Z (aH Z (jf [7,6,0,1,2] Z (ba (az Z (js Z (av ((bf O Z Z Z Z Z Z Z Z (dO hkl)).cast (v':=ptr n.cells) (by rw[hgn])) Z (js Z (jf [32,7,6,0,1,2] Z (jl Z (aq ?_)))))))))))))))))
 refine jo Z (aq ?_)
 refine ba (az Z (ab Z (jf [38,37,36,10,32,7,6,0,1,2] Z (aU (HS.mapUpdate (kt:=3) (et:=24) (q:=.i64) (es:=cm e.es) (k:=(k:Int)) (v:=fC (c0::r0)) O Z Z Z Z Ea u3 Z Z Z Z Z) Z ?_))))
 rw[pL]
 obtain⟨e1,he1⟩: ∃e1:Ex,e1=e.put k (c0::r0):=⟨_,rfl⟩
 have he1s:nO e.es k (c0::r0)=e1.es:=by rw[he1];rfl
 have he1f:e.flaw=e1.flaw:=by rw[he1];rfl
 rw[he1s,he1f]
 refine aq ?_
 refine aq ?_
 refine jf [10,32,7,6,0,1,2] Z (ba (js Z ?_))
 first|refine dh Z ?_|refine js Z ?_|refine dv Z Z ?_
 refine ab Z (jf [11,10,32,7,6,0,1,2] Z (jn (af (ae (ab Z (jn (ao (ae (ab Z (jn (ah Z (fun z44=>?_) (fun z44=>?_))))))))))))
 exact absurd (bK z44) (by rw[hA.2.2.1];decide)
 refine ae (ab Z (jf [51,45,43,42,11,10,32,7,6,0,1,2] Z (jn (ah Z (fun z51=>?_) (fun z51=>?_)))))
 exact absurd (bK z51) (by rw[hA.2.2.1];decide)
 refine ae (ab Z (jf [75,45,43,42,11,10,32,7,6,0,1,2] Z (jn (ah Z (fun z75=>?_) (fun z75=>?_)))))
 refine ae (ab Z (jf [78,45,43,42,11,10,32,7,6,0,1,2] Z (aA 5 Z Z Z (fun hx=>ax hx Z (ax hx Z (ax hx Z (dD hx (cf O Z Z Z Z Z Z Z Z) Z (bA O hx Z Z Z Z (c90 (k:=n.fact) (n:=(c0::r0).length) h1 h2 (by omega)) (ac Z) Z Z Z Z Z Z Z (B0:=84000) Z (AN.nil)))))) Z Z ?_)))
 first|refine av (ay O Z Z Z Z Z) Z ?_|refine av (aG O Z Z Z Z Z) Z ?_|refine av (Val.pickB O Z Z Z Z Z) Z ?_
 refine jf [84,45,43,42,11,10,32,7,6,0,1,2] Z (jn (ah Z (fun z84=>?_) (fun z84=>?_)))
 refine ae ?_
 have hs:ik n (c0::r0)=true:=by have h9:=z84;rw[GD]at h9;exact h9
 have hs':=hs
 simp only[ik,ft,bS,decide_eq_true_eq]at hs'
 have hcl:=hs'.1
 have hf0:=hs'.2.1
 have hf1:=hs'.2.2
 have hl1:(c0::r0).length≤1000:=hc.len
 have hgt:=hc.get (show n.fact.toNat<(c0::r0).length by omega)
 refine aH Z (av (bN O Z Z Z Z Z Z Z Z hf0 (m7 hf0 (by omega))) Z (js Z (jf [90,45,43,42,11,10,32,7,6,0,1,2] Z (an O Z Z Z Z (Hd (t:=(c0::r0).getD n.fact.toNat default) h1 h2 (Small.of hgt)) (ac Z) Z Z Z Z (B0:=92000) Z Z (aH Z (jf [93,92,45,43,42,11,10,32,7,6,0,1,2] Z (jl Z (aq ?_))))))))
 refine jo Z (aq ?_)
 refine js Z (jf [15,14,45,43,42,11,10,32,7,6,0,1,2] Z (ba (js Z (jn (ah Z (fun z94=>?_) (fun z94=>?_))))))
 refine ae ?_
 have htok:(pm n (c0::r0)).1.ok=true:=by have h9:(pm n (c0::r0)).2=true:=z94;unfold pm at h9 ⊢;rw[gt hgt]at h9 ⊢;exact lW h9
 refine ab Z ?_
 first|refine ji Z ?_|refine dv Z Z ?_
 refine ab Z (jf [99,98,97,95,15,14,45,43,42,11,10,32,7,6,0,1,2] Z (an O Z Z Z Z (Ca (c:=c0) (r:=r0) (t:=(pm n (c0::r0)).1) h1 h2 hl1) (ac Z) Z Z Z Z (B0:=101000) Z Z (jf [100,97,95,15,14,45,43,42,11,10,32,7,6,0,1,2] Z (au O [0,1] (bin:=[.box [.d (D9 p),.mp 1,.d (.int .i64 (e1).flaw)],bn (cm (e1).es)]) Z Z Z Z (iha (c0:=c0) (r0:=r0++[(pm n (c0::r0)).1]) (e:=e1) (hc.snoc htok hcl)) Z Z Z Z Z Z (B0:=102000) Z Z (aq ?_)))))
 refine js Z (jf [6,15,14,45,43,42,11,10,32,7,0,1,2] Z (jr ?_))
 have hv:j6 (.tight n a) k (c0::r0) e=j6 a (k+1) (c0::r0++[(pm n (c0::r0)).1]) e1:=by rw[he1];exact if_pos (by rw[hs];exact z94)
 refine⟨.inl Z,_,am [0,1] Z Z (e':=[(6,_)]) ⟨Z,ap⟩ Z,_,Z,?_,?_⟩
 exact congrArg (fun z:Nat=>eI (z:Int)) (by simp only[Pf.size];omega)
 rw[hv];rfl
 refine aj (af (ae (az Z (js Z (jf [106,15,14,45,43,42,11,10,32,7,6,0,1,2] Z (jn (ah Z (fun z106=>?_) (fun z106=>?_))))))))
 refine ak (az Z (jf [110,108,15,14,45,43,42,11,10,32,7,6,0,1,2] Z (jo Z (aq ?_))))
 refine jf [15,14,45,43,42,11,10,32,7,6,0,1,2] Z (ba (ab Z (jr ?_)))
 have hv:j6 (.tight n a) k (c0::r0) e=e1.bad k:=by rw[he1];exact if_neg (by rw[show(ik n (c0::r0)&&(pm n (c0::r0)).2)=false by rw[show(pm n (c0::r0)).2=false from z94,Bool.and_false]];decide)
 rw[te (bK z106)]at hv
 refine⟨.inl Z,_,am [0,1] Z Z (e':=[(6,_)]) ⟨Z,ap⟩ Z,_,Z,?_,?_⟩
 rfl
 rw[hv];rfl
 refine aj (ae (ab Z (jf [6,15,14,45,43,42,11,10,32,7,0,1,2] Z (jr ?_))))
 have hv:j6 (.tight n a) k (c0::r0) e=e1.bad k:=by rw[he1];exact if_neg (by rw[show(ik n (c0::r0)&&(pm n (c0::r0)).2)=false by rw[show(pm n (c0::r0)).2=false from z94,Bool.and_false]];decide)
 rw[tg (cu z106)]at hv
 refine⟨.inl Z,_,am [0,1] Z Z (e':=[(6,_)]) ⟨Z,ap⟩ Z,_,Z,?_,?_⟩
 rfl
 rw[hv];rfl
 refine aj (af (ae (az Z (js Z (jf [106,45,43,42,11,10,32,7,6,0,1,2] Z (jn (ah Z (fun z106=>?_) (fun z106=>?_))))))))
 refine ak (az Z (jf [110,108,45,43,42,11,10,32,7,6,0,1,2] Z (jo Z (aq ?_))))
 refine jf [45,43,42,11,10,32,7,6,0,1,2] Z (ba (ab Z (jr ?_)))
 have hv:j6 (.tight n a) k (c0::r0) e=e1.bad k:=by rw[he1];exact if_neg (by rw[show ik n (c0::r0)=false by have h9:=z84;rw[GD]at h9;exact h9,Bool.false_and];decide)
 rw[te (bK z106)]at hv
 refine⟨.inl Z,_,am [0,1] Z Z (e':=[(6,_)]) ⟨Z,ap⟩ Z,_,Z,?_,?_⟩
 rfl
 rw[hv];rfl
 refine aj (ae (ab Z (jf [6,45,43,42,11,10,32,7,0,1,2] Z (jr ?_))))
 have hv:j6 (.tight n a) k (c0::r0) e=e1.bad k:=by rw[he1];exact if_neg (by rw[show ik n (c0::r0)=false by have h9:=z84;rw[GD]at h9;exact h9,Bool.false_and];decide)
 rw[tg (cu z106)]at hv
 refine⟨.inl Z,_,am [0,1] Z Z (e':=[(6,_)]) ⟨Z,ap⟩ Z,_,Z,?_,?_⟩
 rfl
 rw[hv];rfl
 exact absurd hA.2.2.1 (cu z75)
theorem Ce{L:Nat}(h1:4096≤L)(h2:L≤1073741824){p:List Nd}(hpl:p.length≤1000): ∀{t:Pf} {k:Nat},t.At p k→∀{c0:Tm} {r0:List Tm} {e:Ex},CtxOk (c0::r0)→
  MC Tryz.prog L 108 [.c (.pt 0 0 0),eI k,cb (c0::r0)] (xH p e) (bb (eI ((k+t.size:Nat):Int)) (xH p (j6 t k (c0::r0) e)))
 | .close n,k,h,_,_,_,hc=>E7 h1 h2 h hc hpl
 | .split n a b,k,h,_,_,_,hc=>E6 h1 h2 h hc hpl (fun hc'=>Ce h1 h2 hpl h.2.2.2.1 hc') (fun hc'=>Ce h1 h2 hpl h.2.2.2.2 hc')
 | .tight n a,k,h,_,_,_,hc=>E5 h1 h2 h hc hpl (fun hc'=>Ce h1 h2 hpl h.2.2.2 hc')
def fl(b:Nat→Bool):Nat→Nat→Int→Int
  | _,0,f=>f
  | k,n+1,f=>fl b (k+1) n (if b k=true∧f<0 then(k:Int)else f)
theorem tF{b:Nat→Bool}: ∀{n k:Nat} {f:Int},(∀j,k≤j→j<k+n→b j=false)→fl b k n f=f
 | 0,_,_,_=>rfl
 | n+1,k,f,h=>by
  unfold fl
  rw[h k (da _) (by omega),if_neg (by simp)]
  exact tF fun j h1 h2=>h j (by omega) (by omega)
theorem wc{b:Nat→Bool}: ∀{m n k:Nat} {f:Int},fl b k (m+n) f=fl b (k+m) n (fl b k m f)
 | 0,n,k,f=>by rw[Nat.zero_add];rfl
 | m+1,n,k,f=>by
  rw[show m+1+n=(m+n)+1 by omega]
  show fl b (k+1) (m+n) _=fl b (k+(m+1)) n (fl b (k+1) m _)
  rw[wc,show k+1+m=k+(m+1) by omega]
theorem CV{b:Nat→Bool}{n k:Nat}{f:Int}:fl b k (n+1) f=if b (k+n)=true∧fl b k n f<0 then((k+n:Nat):Int)else fl b k n f:=by
 rw[wc];rfl
structure Eqs(p:List Nd)(c0:List Tm)(H:Nat→Bool)(A:Nat→List Tm)(R:Nat→Bool):Prop where
  h0:0<p.length→H 0=true∧A 0=c0
  h: ∀j,0<j→j<p.length→H j=R (rB p j j).1.toNat
  a: ∀j,0<j→j<p.length→H j=true→A j=kX (p.getD (rB p j j).1.toNat default) (A (rB p j j).1.toNat) (rB p j j).2
  r: ∀j,j<p.length→R j=(H j&&jt (p.getD j default) (A j))
theorem ma{p:List Nd}{c0:List Tm}(hp:t3 p=true)(h0:CtxOk c0){n:Nat}: ∀{m:Nat},n≤m→m≤p.length→∀j,j<n→
    (cI p c0 m).all.getD j default=(cI p c0 n).all.getD j default∧(cI p c0 m).has.getD j default=(cI p c0 n).has.getD j default∧(cI p c0 m).right.getD j default=(cI p c0 n).right.getD j default
 | 0,h,_,j,hj=>by omega
 | m+1,h,hm,j,hj=>by
  by_cases e:n=m+1
  subst e;exact⟨rfl,rfl,rfl⟩
  have ih:=ma hp h0 (n:=n) (m:=m) (by omega) (by omega) j hj
  have hz:=qN (c0:=c0) hp h0 (k:=m) (by omega)
  show((cI p c0 m).all++[_]).getD j default=_∧((cI p c0 m).has++[_]).getD j default=_∧((cI p c0 m).right++[_]).getD j default=_
  rw[fK,fK,fK,hz.all,hz.has,hz.right,if_neg (by omega),if_neg (by omega),if_neg (by omega)]
  exact ih
theorem lm{p:List Nd}{c0:List Tm}(hp:t3 p=true)(h0:CtxOk c0){j:Nat}(hj:j<p.length) :
    (cI p c0 p.length).all.getD j default=yj p c0 j (cI p c0 j)∧(cI p c0 p.length).has.getD j default=mU p j (cI p c0 j)∧(cI p c0 p.length).right.getD j default=nZ p c0 j (cI p c0 j):=by
 have h1:=ma (c0:=c0) hp h0 (n:=j+1) (m:=p.length) (by omega) (da _) j (by omega)
 have hz:=qN (c0:=c0) hp h0 (k:=j) (by omega)
 rw[h1.1,h1.2.1,h1.2.2]
 show((cI p c0 j).all++[_]).getD j default=_∧((cI p c0 j).has++[_]).getD j default=_∧((cI p c0 j).right++[_]).getD j default=_
 rw[fK,fK,fK,hz.all,hz.has,hz.right,if_pos Z,if_pos Z,if_pos Z]
 exact⟨Z,Z,Z⟩
theorem yS{p:List Nd}{c0:List Tm}(hp:t3 p=true)(h0:CtxOk c0) :
    Eqs p c0 (fun j=>(cI p c0 p.length).has.getD j default) (fun j=>(cI p c0 p.length).all.getD j default) (fun j=>(cI p c0 p.length).right.getD j default):=by
 refine⟨fun h=>?_,fun j hj0 hj=>?_,fun j hj0 hj hH=>?_,fun j hj=>?_⟩
 have:=lm (c0:=c0) hp h0 h
 exact⟨this.2.1,this.1⟩
 have h1:=lm (c0:=c0) hp h0 hj
 obtain⟨a,ha,hak⟩:=vV hp hj0 hj
 have h2:=ma (c0:=c0) hp h0 (n:=j) (m:=p.length) (by omega) (da _) a hak
 show(cI p c0 p.length).has.getD j default=_
 rw[h1.2.1,mU,if_neg (by omega)]
 show _=(cI p c0 p.length).right.getD _ default
 rw[ha,Int.toNat_natCast,h2.2.2]
 have h1:=lm (c0:=c0) hp h0 hj
 obtain⟨a,ha,hak⟩:=vV hp hj0 hj
 have h2:=ma (c0:=c0) hp h0 (n:=j) (m:=p.length) (by omega) (da _) a hak
 have hH:(cI p c0 p.length).has.getD j default=true:=hH
 show(cI p c0 p.length).all.getD j default=_
 rw[h1.1,yj,if_neg (by omega),if_pos (by rw[←h1.2.1];exact hH)]
 show _=kX _ ((cI p c0 p.length).all.getD _ default) _
 rw[ha,Int.toNat_natCast,h2.1]
 have h1:=lm (c0:=c0) hp h0 hj
 show(cI p c0 p.length).right.getD j default=_
 rw[h1.2.2,nZ,←h1.1,←h1.2.1]
theorem ri{p:List Nd}{c0:List Tm}(hp:t3 p=true)(h0:CtxOk c0): ∀{n:Nat},n≤p.length→
    (cI p c0 n).flaw=fl (fun j=>(cI p c0 p.length).has.getD j default&& !(cI p c0 p.length).right.getD j default) 0 n (-1)
 | 0,_=>rfl
 | n+1,hn=>by
  have h1:=lm (c0:=c0) hp h0 (show n<p.length by omega)
  rw[CV,←ri hp h0 (n:=n) (by omega),Nat.zero_add,h1.2.1,h1.2.2]
  show(if((mU p n (cI p c0 n)&& !nZ p c0 n (cI p c0 n))&&decide ((cI p c0 n).flaw<0))=true then(n:Int)else(cI p c0 n).flaw)=_
  simp only[bS,decide_eq_true_eq]
theorem Pf.At.nested{p:List Nd}: ∀{t:Pf} {k i:Nat},t.At p k→k≤i→i<k+t.size→Al.endP p i≤((k+t.size:Nat):Int)
 | .close x,k,i,h,h1,h2=>by
  simp only[Pf.size]at h2
  obtain rfl:i=k:=by omega
  rw[h.endP];omega
 | .tight x a,k,i,h,h1,h2=>by
  by_cases e:i=k
  subst e;rw[h.endP];omega
  simp only[Pf.size]at h2 ⊢
  have:=h.2.2.2.nested (i:=i) (by omega) (by omega)
  omega
 | .split x a b,k,i,h,h1,h2=>by
  by_cases e:i=k
  subst e;rw[h.endP];omega
  simp only[Pf.size]at h2 ⊢
  by_cases e2:i<k+1+a.size
  have:=h.2.2.2.1.nested (i:=i) (by omega) (by omega)
  omega
  have:=h.2.2.2.2.nested (i:=i) (by omega) (by omega)
  omega
theorem uG{p:List Nd}{k lo:Nat}: ∀{hi:Nat},lo≤hi→(∀i,lo≤i→i<hi→Al.endP p i≤k)→rB p k hi=rB p k lo
 | 0,h,_=>by
  obtain rfl:lo=0:=by omega
  rfl
 | hi+1,h,hs=>by
  by_cases e:lo=hi+1
  rw[e]
  rw[rB,if_pos (.inr (hs hi (by omega) (by omega)))]
  exact uG (by omega) fun i h1 h2=>hs i h1 (by omega)
theorem l6{p:List Nd}{k:Nat}(hk:(p.getD k default).kind≠1)(he:((k+1:Nat):Int)<Al.endP p k):rB p (k+1) (k+1)=((k:Int),true):=by
 rw[rB,if_neg (by rintro(h|h);exact hk h;omega)]
 simp
theorem qZ{p:List Nd}{k m:Nat}(hm:0<m)(hk:(p.getD k default).kind≠1)(he:((k+1+m:Nat):Int)<Al.endP p k)(hs: ∀i,k+1≤i→i<k+1+m→Al.endP p i≤((k+1+m:Nat):Int)):rB p (k+1+m) (k+1+m)=((k:Int),false):=by
 rw[uG (lo:=k+1) (by omega) hs,rB,if_neg (by rintro(h|h);exact hk h;omega)]
 simp;omega
theorem Pf.At.dead{p:List Nd}{c0 H A R}(E:Eqs p c0 H A R): ∀{t:Pf} {k:Nat},t.At p k→H k=false→∀j,k≤j→j<k+t.size→H j=false
 | .close x,k,h,hk,j,h1,h2=>by
  simp only[Pf.size]at h2
  obtain rfl:j=k:=by omega
  exact hk
 | .tight x a,k,h,hk,j,h1,h2=>by
  by_cases e:j=k
  subst e;exact hk
  have hl:=h.le
  have hp:=dq (t:=a)
  simp only[Pf.size]at h2 hl
  have hpar:=l6 (p:=p) (k:=k) (by rw[(cE h.1).2,h.2.2.1];decide) (by rw[h.endP];simp only[Pf.size];omega)
  refine h.2.2.2.dead E ?_ j (by omega) (by omega)
  rw[E.h (k+1) (by omega) (by omega),hpar,Int.toNat_natCast,E.r k (by omega),hk];rfl
 | .split x a b,k,h,hk,j,h1,h2=>by
  by_cases e:j=k
  subst e;exact hk
  have hl:=h.le
  have hp:=dq (t:=a)
  have hq:=dq (t:=b)
  simp only[Pf.size]at h2 hl
  have hkk:(p.getD k default).kind≠1:=by rw[(cE h.1).2,h.2.2.1];decide
  have hend:Al.endP p k=((k+1+a.size+b.size:Nat):Int):=by rw[h.endP];simp only[Pf.size];omega
  have hpar:=l6 (p:=p) (k:=k) hkk (by rw[hend];omega)
  have hpar2:=qZ (p:=p) (k:=k) (m:=a.size) hp hkk (by rw[hend];omega) (fun i h1 h2=>h.2.2.2.1.nested h1 h2)
  have hr:R k=false:=by rw[E.r k (by omega),hk];rfl
  by_cases e2:j<k+1+a.size
  refine h.2.2.2.1.dead E ?_ j (by omega) (by omega)
  rw[E.h (k+1) (by omega) (by omega),hpar,Int.toNat_natCast,hr]
  refine h.2.2.2.2.dead E ?_ j (by omega) (by omega)
  rw[E.h (k+1+a.size) (by omega) (by omega),hpar2,Int.toNat_natCast,hr]
theorem EC{n:Nd}{c:List Tm}(h:n.kind=2):jt n c=gM n c:=by
 unfold jt gM
 rw[if_neg (by omega),mn]
 by_cases h1:20≤c.length
 rw[if_pos h1,decide_eq_false (by omega),Bool.false_and]
 rw[if_neg h1,if_pos h,decide_eq_true (by omega),Bool.true_and]
theorem EB{n:Nd}{c:List Tm}(hn:ic n=true)(h:n.kind=3)(hc:CtxOk c):jt n c=(ik n c&&(pm n c).2):=by
 have hf:=uJ hn
 unfold jt ik pm ft
 rw[if_neg (by omega)]
 by_cases h1:20≤c.length
 rw[if_pos h1,decide_eq_false (show¬(c.length:Int)<20 by omega),Bool.false_and,Bool.false_and]
 rw[if_neg h1,if_neg (by omega),decide_eq_true (show(c.length:Int)<20 by omega),Bool.true_and,decide_eq_true hf,Bool.true_and]
 by_cases h2:n.fact≥c.length
 rw[if_pos h2,decide_eq_false (by omega),Bool.false_and]
 rw[if_neg h2,decide_eq_true (by omega),Bool.true_and,gt (hc.get (by omega))]
theorem wb{b:Nat→Bool}{n k:Nat}{f:Int}(hk:b k=true)(h: ∀j,k<j→j<k+(n+1)→b j=false):fl b k (n+1) f=if f<0 then(k:Int)else f:=by
 unfold fl
 rw[tF fun j h1 h2=>h j (by omega) (by omega)]
 simp[hk]
theorem xU{b:Nat→Bool}{n k:Nat}{f:Int}(hk:b k=false):fl b k (n+1) f=fl b (k+1) n f:=by
 rw[fl,if_neg (by simp[hk])]
def sQ(H:Nat→Bool)(A:Nat→List Tm)(j:Nat):Option (List Tm):=if H j=true then some (A j)else none
theorem Pf.At.exam{p:List Nd}{c0 H A R}(E:Eqs p c0 H A R): ∀{t:Pf} {k:Nat} {e:Ex},t.At p k→H k=true→CtxOk (A k)→(∀j,k≤j→j<k+t.size→ie e.es j=none)→
    (j6 t k (A k) e).flaw=fl (fun j=>H j&& !R j) k t.size e.flaw∧∀j:Nat,ie (j6 t k (A k) e).es j=if k≤j∧j<k+t.size then sQ H A j else ie e.es j
 | .close x,k,e,h,hk,hc,hn=>by
  obtain⟨hl,hg⟩:=cE h.1
  have hr:R k=dY (A k) x.mul:=by rw[E.r k hl,hk,hg,jt,if_pos h.2.2,Bool.true_and,sG]
  have hes: ∀j:Nat,ie (e.put k (A k)).es j=if k≤j∧j<k+1 then sQ H A j else ie e.es j:=fun j=>by
   show ie (nO e.es k (A k)) j=_
   rw[ng]
   by_cases e1:j=k
   · subst e1;rw[if_pos rfl,if_pos (by omega),sQ,if_pos hk]
   · rw[if_neg (by omega),if_neg (by omega)]
  unfold j6
  cases hcl:dY (A k) x.mul with
  | true=>
   rw[if_pos Z]
   refine⟨?_,hes⟩
   show e.flaw=_
   have h0: ∀j,k≤j→j<k+1→(H j&& !R j)=false:=fun j h1 h2=>by
    obtain rfl:j=k:=by omega
    rw[hr,hcl];simp
   rw[Pf.size,tF h0]
  | false=>
   rw[if_neg (by decide)]
   have hb:(fun j=>H j&& !R j) k=true:=by show(H k&& !R k)=true;rw[hk,hr,hcl];rfl
   refine⟨?_,fun j=>?_⟩
   show((e.put k (A k)).bad k).flaw=fl _ k (0+1) _
   rw[wb hb (fun j h1 h2=>by omega)]
   unfold Ex.bad
   show(if e.flaw<0 then _ else _:Ex).flaw=_
   split<;>rfl
   rw[Pf.size,←hes j]
   unfold Ex.bad
   split<;>rfl
 | .tight x a,k,e,h,hk,hc,hn=>by
  obtain⟨hl,hg⟩:=cE h.1
  have hll:=h.le
  have hp:=dq (t:=a)
  simp only[Pf.size]at hll hn
  have hr:R k=(ik x (A k)&&(pm x (A k)).2):=by rw[E.r k hl,hk,hg,EB h.2.1 h.2.2.1 hc,Bool.true_and]
  have hpar:=l6 (p:=p) (k:=k) (by rw[hg,h.2.2.1];decide) (by rw[h.endP];simp only[Pf.size];omega)
  have hH1:H (k+1)=R k:=by rw[E.h (k+1) (by omega) (by omega),hpar,Int.toNat_natCast]
  have hput: ∀j:Nat,ie (e.put k (A k)).es j=if j=k then some (A k)else ie e.es j:=fun j=>by
   show ie (nO e.es k (A k)) j=_
   rw[ng]
   by_cases e1:j=k
   · rw[if_pos e1,if_pos (by omega)]
   · rw[if_neg (by omega),if_neg e1]
  unfold j6
  cases hcl:(ik x (A k)&&(pm x (A k)).2)with
  | true=>
   rw[hcl]at hr
   rw[if_pos Z]
   rw[hr]at hH1
   have hcl':=hcl
   simp only[ik,ft,bS,decide_eq_true_eq]at hcl'
   have hA1:A (k+1)=A k++[(pm x (A k)).1]:=by
    rw[E.a (k+1) (by omega) (by omega) hH1,hpar,Int.toNat_natCast,hg,kX,if_pos h.2.2.1]
    unfold pm
    rw[gt (hc.get (by omega))]
   have htok:(pm x (A k)).1.ok=true:=by
    have h9:=hcl'.2
    unfold pm at h9 ⊢
    rw[gt (hc.get (by omega))]at h9 ⊢
    exact lW h9
   have ih:=h.2.2.2.exam E (e:=e.put k (A k)) hH1 (by rw[hA1];exact hc.snoc htok hcl'.1.1) (fun j h1 h2=>by rw[hput,if_neg (by omega)];exact hn j (by omega) (by omega))
   rw[hA1]at ih
   refine⟨?_,fun j=>?_⟩
   rw[ih.1,Pf.size,Nat.add_comm 1,xU (by show(H k&& !R k)=false;rw[hr];simp)]
   rfl
   rw[ih.2 j,hput j,Pf.size]
   by_cases e1:j=k
   subst e1;rw[if_neg (by omega),if_pos rfl,if_pos (by omega),sQ,if_pos hk]
   by_cases e2:k+1≤j∧j<k+1+a.size
   rw[if_pos e2,if_pos (by omega)]
   rw[if_neg e2,if_neg e1,if_neg (by omega)]
  | false=>
   rw[hcl]at hr
   rw[if_neg (by decide)]
   rw[hr]at hH1
   have hd:=h.2.2.2.dead E hH1
   have hb:(fun j=>H j&& !R j) k=true:=by show(H k&& !R k)=true;rw[hk,hr];rfl
   refine⟨?_,fun j=>?_⟩
   rw[Pf.size,Nat.add_comm 1,wb hb (fun j h1 h2=>by show(H j&& !R j)=false;rw[hd j (by omega) (by omega)];rfl)]
   unfold Ex.bad
   show(if e.flaw<0 then _ else _:Ex).flaw=_
   split<;>rfl
   have:ie ((e.put k (A k)).bad k).es j=ie (e.put k (A k)).es j:=by unfold Ex.bad;split<;>rfl
   rw[this,hput j,Pf.size]
   by_cases e1:j=k
   subst e1;rw[if_pos rfl,if_pos (by omega),sQ,if_pos hk]
   rw[if_neg e1]
   by_cases e2:k≤j∧j<k+(1+a.size)
   rw[if_pos e2,sQ,hd j (by omega) (by omega),if_neg (by decide)]
   exact hn j e2.1 (by omega)
   rw[if_neg e2]
 | .split x a b,k,e,h,hk,hc,hn=>by
  obtain⟨hl,hg⟩:=cE h.1
  have hll:=h.le
  have hp:=dq (t:=a)
  have hq:=dq (t:=b)
  simp only[Pf.size]at hll hn
  have hr:R k=gM x (A k):=by rw[E.r k hl,hk,hg,EC h.2.2.1,Bool.true_and]
  have hkk:(p.getD k default).kind≠1:=by rw[hg,h.2.2.1];decide
  have hend:Al.endP p k=((k+1+a.size+b.size:Nat):Int):=by rw[h.endP];simp only[Pf.size];omega
  have hpar:=l6 (p:=p) (k:=k) hkk (by rw[hend];omega)
  have hpar2:=qZ (p:=p) (k:=k) (m:=a.size) hp hkk (by rw[hend];omega) (fun i h1 h2=>h.2.2.2.1.nested h1 h2)
  have hH1:H (k+1)=R k:=by rw[E.h (k+1) (by omega) (by omega),hpar,Int.toNat_natCast]
  have hH2:H (k+1+a.size)=R k:=by rw[E.h (k+1+a.size) (by omega) (by omega),hpar2,Int.toNat_natCast]
  have hput: ∀j:Nat,ie (e.put k (A k)).es j=if j=k then some (A k)else ie e.es j:=fun j=>by
   show ie (nO e.es k (A k)) j=_
   rw[ng]
   by_cases e1:j=k
   · rw[if_pos e1,if_pos (by omega)]
   · rw[if_neg (by omega),if_neg e1]
  unfold j6
  cases hcl:gM x (A k)with
  | true=>
   rw[hcl]at hr
   rw[if_pos Z]
   rw[hr]at hH1 hH2
   have hcl':=hcl
   simp only[gM,bS,decide_eq_true_eq]at hcl'
   have hA1:A (k+1)=A k++[x.term]:=by
    rw[E.a (k+1) (by omega) (by omega) hH1,hpar,Int.toNat_natCast,hg,kX,if_neg (by rw[h.2.2.1];decide),if_pos Z]
   have hA2:A (k+1+a.size)=A k++[ep x.term]:=by
    rw[E.a (k+1+a.size) (by omega) (by omega) hH2,hpar2,Int.toNat_natCast,hg,kX,if_neg (by rw[h.2.2.1];decide),if_neg (show¬((k:Int),false).2=true from Bool.false_ne_true),zN hcl'.2]
   have ih1:=h.2.2.2.1.exam E (e:=e.put k (A k)) hH1 (by rw[hA1];exact hc.snoc (nj h.2.1) hcl'.1) (fun j h1 h2=>by rw[hput,if_neg (by omega)];exact hn j (by omega) (by omega))
   rw[hA1]at ih1
   have ih2:=h.2.2.2.2.exam E (e:=j6 a (k+1) (A k++[x.term]) (e.put k (A k))) hH2 (by rw[hA2];exact hc.snoc hcl'.2 hcl'.1) (fun j h1 h2=>by
    rw[ih1.2 j,if_neg (by omega),hput,if_neg (by omega)];exact hn j (by omega) (by omega))
   rw[hA2]at ih2
   refine⟨?_,fun j=>?_⟩
   rw[ih2.1,ih1.1,Pf.size,show 1+a.size+b.size=(a.size+b.size)+1 by omega,xU (by show(H k&& !R k)=false;rw[hr];simp),wc]
   rfl
   rw[ih2.2 j,ih1.2 j,hput j,Pf.size]
   by_cases e1:j=k
   subst e1;rw[if_neg (by omega),if_neg (by omega),if_pos rfl,if_pos (by omega),sQ,if_pos hk]
   by_cases e2:k+1+a.size≤j∧j<k+1+a.size+b.size
   rw[if_pos e2,if_pos (by omega)]
   rw[if_neg e2]
   by_cases e3:k+1≤j∧j<k+1+a.size
   rw[if_pos e3,if_pos (by omega)]
   rw[if_neg e3,if_neg e1,if_neg (by omega)]
  | false=>
   rw[hcl]at hr
   rw[if_neg (by decide)]
   rw[hr]at hH1 hH2
   have hd1:=h.2.2.2.1.dead E hH1
   have hd2:=h.2.2.2.2.dead E hH2
   have hd: ∀j,k<j→j<k+(1+a.size+b.size)→H j=false:=fun j h1 h2=>by
    by_cases e2:j<k+1+a.size
    · exact hd1 j (by omega) e2
    · exact hd2 j (by omega) (by omega)
   have hb:(fun j=>H j&& !R j) k=true:=by show(H k&& !R k)=true;rw[hk,hr];rfl
   refine⟨?_,fun j=>?_⟩
   rw[Pf.size,show 1+a.size+b.size=(a.size+b.size)+1 by omega,wb hb (fun j h1 h2=>by show(H j&& !R j)=false;rw[hd j h1 (by omega)];rfl)]
   unfold Ex.bad
   show(if e.flaw<0 then _ else _:Ex).flaw=_
   split<;>rfl
   have:ie ((e.put k (A k)).bad k).es j=ie (e.put k (A k)).es j:=by unfold Ex.bad;split<;>rfl
   rw[this,hput j,Pf.size]
   by_cases e1:j=k
   subst e1;rw[if_pos rfl,if_pos (by omega),sQ,if_pos hk]
   rw[if_neg e1]
   by_cases e2:k≤j∧j<k+(1+a.size+b.size)
   rw[if_pos e2,sQ,hd j (by omega) e2.2,if_neg (by decide)]
   exact hn j e2.1 (by omega)
   rw[if_neg e2]
theorem CX{p:List Nd}{c0:List Tm}{t:Pf}(hp:t3 p=true)(h0:CtxOk c0)(ht:t.At p 0)(hs:t.size=p.length) :
    (j6 t 0 c0 ⟨[],-1⟩).flaw=(cI p c0 p.length).flaw∧∀j:Nat,j<p.length→ie (j6 t 0 c0 ⟨[],-1⟩).es j=if(cI p c0 p.length).has.getD j default=true then some ((cI p c0 p.length).all.getD j default)else none:=by
 have hl:=(k9 hp).1
 have E:=yS (c0:=c0) hp h0
 have h1:=E.h0 (by omega)
 have h2:=ht.exam E (e:=⟨[],-1⟩) h1.1 (by rw[h1.2];exact h0) (fun j _ _=>rfl)
 rw[h1.2]at h2
 refine⟨?_,fun j hj=>?_⟩
 rw[h2.1,ri (c0:=c0) hp h0 (da _),hs]
 rw[h2.2 j,if_pos (by omega)];rfl
theorem lQ{s:Sq}(h:dW s=true):gJ s=mz s:=by
 unfold gJ mz
 rw[h,Bool.true_and,mn]
 split
 rename_i ho;rw[zN ho]
 rfl
theorem qi{s:Sq}(h:(gJ s).2=true):dW s=true∧(ep s.goal).ok=true:=by
 unfold gJ at h
 split at h
 rename_i h1;simpa using h1
 cases h
theorem yR{s:Sq}(h:(gJ s).2=true): ∃c r,(gJ s).1=c::r∧CtxOk (c::r):=by
 obtain⟨h1,h2⟩:=qi h
 have h3:CtxOk (gJ s).1:=by rw[lQ h1];exact x4 h1
 unfold gJ at h3 ⊢
 rw[h1,h2]at h3 ⊢
 simp only[Bool.and_true,if_true]at h3 ⊢
 cases hf:s.facts with
 | nil=>rw[hf]at h3;exact⟨_,_,rfl,h3⟩
 | cons c r=>rw[hf]at h3;exact⟨_,_,rfl,h3⟩
abbrev E0(s:Sq)(t:Pf):Ex:=j6 t 0 (gJ s).1 ⟨[],-1⟩
theorem B7:MQ h1 h2 139 [cb ts] [] (Rows (.c (.rs 0 0 ts.length)) [GU ts]):=by
 refine cH (jB 19 h1 h2 Tryz.func139 Z fun O hF=>?_)
 have hl:ts.length≤L:=by simpa[As.fact,A.fact,M.fact,D.fact,Ds.fact]using hF.1.1
 refine ae (js Z (ba (js Z (jn (af (ae (js Z (dh Z (js Z (jn (ao (aw (X:=Nat) (fun i=>⟨[(3,.c (.rs 900 0 i)),(6,cb ts),(7,eI ts.length),(8,eI i)],[(900,GU (ts.take i))]⟩) (fun i=>i≤ts.length) (fun i=>ts.length-i) 0 ((cL 3 900 2 true Z Z).trans (Ent.to ⟨Z,Z,Z,Z,ap⟩ Z)) ?_ (fun i hi=>?_)))))))))))))
 exact cT _
 refine ae (js Z (jn (af (ah Z (fun z9=>?_) (fun z9=>?_)))))
 try simp only[bG]at z9
 refine aj (af (ao (ae (jD Z Z (js Z (jl Z (aq ?_)))))))
 refine jo Z (aq ?_)
 refine jn (ak (ab Z (ci O (B0:=15000) Z Z Z Z (rP (t:=ts.getD i default) h1 h2) (ac Z) Z Z Z Z Z Z (aq ?_))))
 refine aU (md (ds:=Tm.cells (ts.getD i default)) O Z Z Z Z Z Z Z Z Z Z (.d Z (.rs Z (bQ _).symm .nil)) Z Z Z) Z (aq ?_)
 refine aq ?_
 refine aU (cJ (zs:=(ts.take (i+1)).map Tm.cells) (n:=i+1) O Z Z Z Z Z Z Z Z Z Z Z Z Z Z Z Z (.row Z (by simp;omega)) Z Z (by decide) Z (by simp;omega) (by simp;omega) (by rw[List.take_succ_eq_append_getElem (by omega),List.map_append,aD (by omega)];rfl) (by simp;omega)) Z (aq ?_)
 refine aq ?_
 refine js Z (jn (ak (ji Z (js Z (jn ?_)))))
 refine⟨i+1,((am [16] (e':=[(3,_),(6,_),(7,_),(8,_)]) Z Z ⟨Z,Z,Z,Z,ap⟩ Z).trans (aa 16 900 Z Z)),by omega,by omega⟩
 try simp only[bG]at z9
 refine bg (ae (ab Z (jr ?_)))
 obtain rfl:i=ts.length:=by omega
 rw[List.take_length]
 refine⟨.inl Z,_,b9,_,Z,[900],by decide,Z,Z,Z⟩
theorem JS{t:Pf}(h:(gJ s).2=true)(hI:vC p=true)(ht:t.At p 0)(hts:t.size=p.length):MQ h1 h2 68 [BS s,nY p] [] (bb (.tup [.c (.pt 0 0 0),eB true]) (xH p (E0 s t))):=by
 refine jB 29 h1 h2 Tryz.func68 Z fun O hF=>?_
 obtain⟨c0,r0,hcr,hco⟩:=yR h
 have hpl:=(qv hI).1
 refine ae (jx Z (aq ?_))
 refine ab Z (ba (js Z (jf [10,5,4,0,1] Z (an O Z Z Z Z (Cg (s:=s) h1 h2) (ac Z) Z Z Z Z (B0:=12000) Z Z (az Z (js Z (jf [7,6,5,4,0,1] Z (jn (af (ae (aH Z (jf [16,6,5,4,0,1] Z (aA 3 Z Z Z (fun hx=>ax hx Z (bA O hx Z Z Z Z (Hh (p:=p) h1 h2) (ac Z) Z Z Z Z Z Z Z (B0:=19000) Z (ax hx Z (AN.nil)))) Z Z ?_)))))))))))))
 first|refine av (aG O Z Z Z Z Z) Z ?_|refine av (Val.pickB O Z Z Z Z Z) Z ?_|refine av (ay O Z Z Z Z Z) Z ?_
 refine jf [20,6,5,4,0,1] Z (jn (ah Z (fun z20=>?_) (fun z20=>?_)))
 exact absurd z20 (by rw[h,hI];decide)
 refine aj (ae ?_)
 rw[E0,hcr]
 refine js Z (jf [21,6,5,4,0,1] Z (aU (HS.makeMap O Z Z Z Z) Z (aq ?_)))
 refine aq ?_
 refine js Z (jf [23,6,5,4,0,1] Z (jx Z (aq ?_)))
 refine js Z (jf [8,6,5,4,0,1] Z (ba (ab Z (jf [26,25,8,5,4,0,1] Z (au O [24,22] (bin:=[.box [.d (D9 p),.mp 1,.d (.int .i64 (Ex.flaw ⟨[],-1⟩))],bn (cm (Ex.es ⟨[],-1⟩))]) Z Z Z Z (Ce (k:=0) (c0:=c0) (r0:=r0) (e:=⟨[],-1⟩) h1 h2 (by omega) ht hco) Z Z Z Z Z Z (B0:=28000) Z Z (aq ?_))))))
 refine jf [8,5,4,0,1] Z (ba (aH Z (jr ?_)))
 refine⟨.inl Z,_,(am [24,22] (e':=[(4,_),(5,_)]) Z Z ⟨Z,Z,ap⟩ Z).trans ((aa 24 0 Z Z).trans (aa 22 1 Z Z)),_,Z,Z,Z⟩
theorem JT(hn:((gJ s).2&&vC p)=false):MQ h1 h2 68 [BS s,nY p] [] (Plain (.tup [.c (.d .nilp),eB false])):=by
 refine MC.data (jB 29 h1 h2 Tryz.func68 Z fun O hF=>?_)
 refine ae (jx Z (aq ?_))
 refine ab Z (ba (js Z (an O Z Z Z Z (Cg (s:=s) h1 h2) (ac Z) Z Z Z Z (B0:=12000) Z Z (az Z (js Z (jn (af (ae (aH Z (aA 3 Z Z Z (fun hx=>ax hx Z (bA O hx Z Z Z Z (Hh (p:=p) h1 h2) (ac Z) Z Z Z Z Z Z Z (B0:=19000) Z (ax hx Z (AN.nil)))) Z Z ?_))))))))))
 first|refine av (aG O Z Z Z Z Z) Z ?_|refine av (Val.pickB O Z Z Z Z Z) Z ?_|refine av (ay O Z Z Z Z Z) Z ?_
 refine jn (ah Z (fun z20=>?_) (fun z20=>?_))
 refine ae (ab Z (jr ?_))
 refine aJ Z ?_
 exact .tup (.cons (.c .d) (.cons (.c .d) .nil))
 exact absurd z20 (by rw[g2,hn];decide)
theorem JP{t:Pf}(h:(gJ s).2=true)(hI:vC p=true)(ht:t.At p 0)(hts:t.size=p.length):MQ h1 h2 38 [BS s,nY p] [] (Plain (eB (decide ((E0 s t).flaw<0)))):=by
 refine aL ?_ Z
 refine jB 21 h1 h2 Tryz.func38 Z fun O hF=>?_
 refine ae (jx Z (aq ?_))
 refine js Z (ba (ab Z (sL O Z Z Z Z (JS (s:=s) (p:=p) (t:=t) h1 h2 h hI ht hts) (ac Z) Z Z Z Z (B0:=11000) Z (aq ?_))))
 refine az Z (js Z (ba (ab Z (aA 5 Z Z Z (fun hx=>ax hx Z (ax hx Z (ax hx Z (ax hx Z (ax hx Z (AN.nil)))))) Z Z ?_))))
 first|refine av (ay O Z Z Z Z Z) Z ?_|refine av (aG O Z Z Z Z Z) Z ?_|refine av (Val.pickB O Z Z Z Z Z) Z ?_
 refine js Z (jr ?_)
 refine aJ Z ?_
 rfl
theorem JQ(hn:((gJ s).2&&vC p)=false):MQ h1 h2 38 [BS s,nY p] [] (Plain (eB false)):=by
 refine aL ?_ Z
 refine jB 21 h1 h2 Tryz.func38 Z fun O hF=>?_
 refine ae (jx Z (aq ?_))
 refine js Z (ba (ab Z (an O Z Z Z Z (JT (s:=s) (p:=p) h1 h2 hn) (ac Z) Z Z Z Z (B0:=11000) Z Z (az Z (js Z (ba (ab Z (bF Z (bF Z (bF Z (bF Z (bF Z (av (aT O Z Z Z Z Z) Z (js Z (jr ?_)))))))))))))))
 refine aJ Z ?_
 rfl
theorem DF{s:Sq}{p:List Nd}{t:Pf}(h:(gJ s).2=true)(hI:vC p=true)(ht:t.At p 0)(hts:t.size=p.length):decide ((E0 s t).flaw<0)=pZ s p:=by
 obtain⟨h1,h2⟩:=qi h
 have hp:t3 p=true:=by rw[←vZ];exact hI
 have ho:(aX s.goal).2=true:=by rw[mn];exact h2
 have he:=CX (c0:=(mz s).1) hp (x4 h1) ht hts
 unfold pZ B6 E0
 rw[h1,hp,if_pos ho,lQ h1,he.1];rfl
theorem H3{s:Sq}{p:List Nd}(h:((gJ s).2&&vC p)=false):pZ s p=false:=by
 unfold pZ B6
 rw[←vZ]
 cases h1:dW s with
 | false=>rfl
 | true=>
  rw[lQ h1,wi]at h
  cases h2:vC p with
  | false=>rfl
  | true=>rw[h2,Bool.and_true]at h;rw[if_neg (by rw[h];decide)];rfl
theorem c96{L:Nat}(h1:4096≤L)(h2:L≤1073741824){s:Sq}{p:List Nd}:MC Tryz.prog L 38 [BS s,nY p] [] (Plain (eB (pZ s p))):=by
 cases h:((gJ s).2&&vC p)with
 | false=>rw[H3 h];exact JQ h1 h2 h
 | true=>
  rw[bS]at h
  obtain⟨_,t,ht,hts⟩:=qv h.2
  rw[←DF h.1 h.2 ht hts]
  exact JP h1 h2 h.1 h.2 ht hts
def sX(ss:List Sq)(ps:List (List Nd)):Bool:=decide ((ss.length:Int)≤60)&&lK ss ps
theorem HY{ss:List Sq}{ps:List (List Nd)}(h:(bif decide (60<(ss.length:Int))then true else !decide ((ps.length:Int)=ss.length))=false):(ss.length:Int)≤60∧ps.length=ss.length:=by
 by_cases h1:60<(ss.length:Int)
 rw[decide_eq_true h1]at h;cases h
 rw[decide_eq_false h1]at h
 have h2:((ps.length:Int)=ss.length):=by simpa using h
 exact⟨by omega,by omega⟩
theorem HX{ss:List Sq}{ps:List (List Nd)}(h:(bif decide (60<(ss.length:Int))then true else !decide ((ps.length:Int)=ss.length))=true):sX ss ps=false:=by
 unfold sX lK
 by_cases h1:60<(ss.length:Int)
 rw[decide_eq_false (show¬(ss.length:Int)≤60 by omega),Bool.false_and]
 rw[decide_eq_false h1]at h
 have h2: ¬((ps.length:Int)=ss.length):=by simpa using h
 rw[decide_eq_false (show¬ps.length=ss.length by omega),Bool.false_and,Bool.and_false]
theorem c47{ss:List Sq}{ps:List (List Nd)}:MQ h1 h2 18 [mT ss,qd ps] [] (Plain (eB (sX ss ps))):=by
 refine aL ?_ Z
 refine jB 32 h1 h2 Tryz.func18 Z fun O hF=>?_
 have hl:ss.length≤L:=by simpa[As.fact,A.fact,M.fact,D.fact,Ds.fact]using hF.1.1
 refine ae (js Z (jn (af (ae (js Z ?_)))))
 first|refine dh Z ?_|refine js Z ?_|refine dv Z Z ?_
 refine ab Z (aA 5 Z Z Z (fun hx=>ax hx Z (dD hx (cf O Z Z Z Z Z Z Z Z) Z (ax hx Z (dD hx (cf O Z Z Z Z Z Z Z Z) Z (ax hx Z (AN.nil)))))) Z Z ?_)
 first|refine av (aG O Z Z Z Z Z) Z ?_|refine av (Val.pickB O Z Z Z Z Z) Z ?_|refine av (ay O Z Z Z Z Z) Z ?_
 refine jn (ah Z (fun z16=>?_) (fun z16=>?_))
 refine ae (js Z (jr ?_))
 refine aJ Z ?_
 rw[show sX ss ps=false from HX z16]
 refine aj (af (ae ?_))
 have hx16:(ss.length:Int)≤60∧ps.length=ss.length:=HY z16
 have hx1:=hx16.1
 have hx2:=hx16.2
 refine js Z ?_
 first|refine dh Z ?_|refine js Z ?_|refine dv Z Z ?_
 refine js Z (jn (ao (aw (X:=Nat) (fun i=>⟨[(1,qd ps),(17,mT ss),(18,eI ss.length),(19,eI i)],[]⟩) (fun i=>i≤ss.length∧∀j,j<i→pZ (ss.getD j default) (ps.getD j default)=true) (fun i=>ss.length-i) 0 (Ent.env ⟨Z,Z,Z,Z,ap⟩) ?_ (fun i hi=>?_))))
 exact⟨cT _,fun j hj=>absurd hj (Nat.not_lt_zero j)⟩
 refine ae (js Z (jn (af (ah Z (fun z20=>?_) (fun z20=>?_)))))
 refine aj (af (ao (ae ?_)))
 have hij:i<ss.length:=by have h9:=bK z20;omega
 refine js Z ?_
 first|refine jD Z Z ?_|refine nN Z Z ?_|refine dv Z Z ?_
 refine js Z (jl Z (aq ?_))
 refine js Z (jo Z (aq ?_))
 refine jn (af (fZ [_,_,_,_,_,_,_] [aF,aF,aF,ag [1,2],ag [1,2,3],pe (rg 0 5) 0,pn (rg 0 6) 1 1] [5] [_,_] (kc Z (kc Z (kc Z (ai (bf O Z Z Z Z Z Z Z Z (dO (by omega))) (kc Z (ai (bv O (B0:=30000) Z Z Z Z (c96 (s:=ss.getD i default) (p:=ps.getD i default) h1 h2) (ac Z) Z Z Z Z Z) (kc Z trivial))))))) ?_))
 refine jw [30,6,23,20,1,17,18,19] Z (b0 ?_)
 refine ah Z (fun z30=>?_) (fun z30=>?_)
 refine ae (js Z (jr ?_))
 refine aJ Z ?_
 rw[sX,wy hij (nt z30),Bool.and_false]
 refine aj (ak ?_)
 first|refine ji Z ?_|refine dv Z Z ?_
 refine js Z (jn ?_)
 refine⟨i+1,(am [] (e':=[(1,_),(17,_),(18,_),(19,_)]) Z Z ⟨Z,Z,Z,Z,ap⟩ Z),⟨by omega,fun j hj=>?_⟩,by omega⟩
 by_cases e:j=i
 subst e;exact nf z30
 exact hi.2 j (by omega)
 refine bg (ae (js Z (jr ?_)))
 refine aJ Z ?_
 have h9:=cu z20
 rw[sX,r9 hx2 (fun j hj=>hi.2 j (by omega)),decide_eq_true hx1,Bool.and_self]
end Go.Al
/- What the laws of the certificates share: the types of their arguments; what came in reads as it did. -/
namespace Go.Proofs.YtgaahipcjhjlbaaGreat
open Go.ChangeShapes Go.WideShapes Go.ChangeAt Go.RowKit Go.Al

theorem ownK:ownKnob Tryz.prog.godebug=none:=by kernel_rfl
theorem kidsK:Kids Tryz.prog (· < Tryz.prog.types.size):=kids_rows (by kernel_rfl) (by kernel_rfl)
theorem fullK: ∀t e,t<Tryz.prog.types.size→Tryz.prog.underlying t=some (.slice e)→0<Tryz.prog.cellsOf e:=slices_full_of Tryz.prog (by kernel_rfl)

theorem fits_all{α:Type}{es:List Ty}{g:α→List D}(hg: ∀e,FitsL es e→∃a,e=g a): ∀{xs:List (List D)},FitsA es xs→∃ys:List α,xs=ys.map g
 | _,.nil=>⟨[],rfl⟩
 | _,.cons h1 h2=>by
  obtain⟨a,rfl⟩:=hg _ h1
  obtain⟨ys,rfl⟩:=fits_all hg h2
  exact⟨a::ys,Z⟩
theorem fits_one{t:Ty}{e:List D}(h:FitsL [t] e): ∃d,e=[d]∧Fits t d:=by
 cases h with
 | cons a h=>cases h;exact⟨_,rfl,a⟩
theorem rdl_rms{L:Nat}{w:World}{ok:Nat→Prop}{m:Nat→Go.Al.Loc}: ∀{ds:List D} {vs:List Value} {F:List Nat},RDL L w ok ds vs F→F=[]→RMs L w ok m (ds.map .d) vs
 | _,_,_,.nil,_=>.nil
 | _,_,_,.cons (F1:=F1) (F2:=F2) h1 h2,hF=>by
  obtain⟨rfl,rfl⟩:=List.append_eq_nil_iff.1 hF
  exact .cons (.d h1) (rdl_rms h2 Z)
section
variable{H:Type}{enc:TypeId×Value→H}{P:Program}{w w':World}
theorem CA(hs: ∀b,b<w.heap.size→Same w w' b){p:MemPlace}(hp:p.block<w.heap.size):w.sameAt w' p:=by
 cases p with
 | cell b o=>exact(hs b hp).cell
 | map b=>exact hs b hp
theorem trodAll_same(hs: ∀b,b<w.heap.size→Same w w' b){base:Nat}{sp:Nat→Bool}{held:Bool}: ∀{ts:List TypeId} {vs:List Value} {ds:List (DataW H)} {ps:List MemPlace},(∀p∈ps,p.block<w.heap.size)→DataW.TrodAll enc P w base sp held ts vs ds ps→DataW.TrodAll enc P w' base sp held ts vs ds ps
 | [],[],[],_,_,h=>h
 | _::_,_::_,_::_,_,hl,⟨p,q,⟨n,h1⟩,h2,e⟩=>
  ⟨p,q,⟨n,DataW.trod_carry n _ _ _ h1 (fun x hx=>CA hs (hl x (by rw[e];exact List.mem_append_left _ hx)))⟩,trodAll_same hs (fun x hx=>hl x (by rw[e];exact List.mem_append_right _ hx)) h2,e⟩
theorem wE(hf:Go.Al.Frame w w' [])(may:MemPlace→Prop):w.keptBut w' may:=by
 refine⟨hf.os,hf.output,fun i hi=>?_⟩
 have h:=hf.block i hi (by simp)
 unfold Same at h
 rw[h]
 cases hx:w.heap[i]? with
 | none=>trivial
 | some o=>
  cases o with
  | cells c t fr=>exact⟨Z,Z,Z,fun _ _=>rfl⟩
  | map es clock=>exact .inr ⟨Z,Z⟩
  | _=>rfl
theorem wD(hf:Go.Al.Frame w w' []){a:Addr}(ha:a.block<w.heap.size):w'.frozen? a=w.frozen? a:=by
 have h:=hf.block a.block ha (by simp)
 unfold Same at h
 unfold World.frozen?
 rw[h]
theorem post_of_old{f:Func}{s:ChangeSpec}{apart fresh handsOn again:Bool}{args:Array Value}{v:Value}{ds gs:List (DataW H)}{before pa pv:List MemPlace}
    (hW:DataW.Whole enc P f.params.toList s.vars apart w args.toList ds gs before)
    (hres: ∀(b:Nat) (sp:Nat→Bool) (hd:Bool),DataW.TrodAll enc P w' b sp hd f.resultTypes.toList (v.resultList f.resultTypes.size) (s.fn H (ds++gs)).results [])
    (hargs: ∀sp:Nat→Bool,(∀p∈before,sp p.block=true)→DataW.TrodAll enc P w' 0 sp true f.params.toList args.toList (s.fn H (ds++gs)).args pa)
    (hvars: ∀sp:Nat→Bool,(∀p∈before,sp p.block=true)→DataW.TrodVars enc P w' sp s.vars (s.fn H (ds++gs)).vars pv)
    (hps:before=pa++pv) (hf:Go.Al.Frame w w' [])
    (hok: ∀(j:Nat) (t:TypeId) (r:Value),f.resultTypes[j]? = some t→(v.resultList f.resultTypes.size)[j]? = some r→Value.okWide P w' .any 0 t r) :
    s.post enc P f apart fresh handsOn again w args v w':=by
 have hlt:=hW.lt
 have hold: ∀p∈before,(fun b=>decide (b<w.heap.size)) p.block=true:=fun p hp=>by simpa using hlt p hp
 refine⟨ds,gs,before,[],pa,pv,hW,hres _ _ _,hargs _ hold,hvars _ hold,World.keptBut_mono (fun p hp=>⟨hp,?_⟩) (wE hf (· ∈before)),fun _=>?_⟩
 rw[hps,List.mem_append]at hp
 exact Or.inr hp
 obtain⟨_,_,_,_,_,hz,hn⟩:=hW
 refine⟨hok,_,_,([]++pa)++pv,⟨[]++pa,pv,trodAll_append (hargs _ (fun _ _=>rfl)) (hres _ _ _),hvars _ (fun _ _=>rfl),Z,?_,?_⟩,?_⟩
 intro b off hp
 have hp':MemPlace.cell b off∈before:=by rw[hps];simpa using hp
 rw[wD hf (hlt _ hp')]
 exact hz b off hp'
 intro ha
 have:=hn ha
 rw[hps]at this
 simpa using this
 intro p hp _
 rw[hps]
 simpa using hp
end

end Go.Proofs.YtgaahipcjhjlbaaGreat
namespace Go.Al
variable{L:Nat}(h1:4096≤L)(h2:L≤1073741824)
structure In where
  op:Int
  a:Int
  deriving Inhabited,DecidableEq
structure Pt where
  k:Int
  fs:List Tm
  deriving Inhabited,DecidableEq
structure An where
  pre:List Tm
  post:List Tm
  code:List In
  pts:List Pt
  deriving Inhabited,DecidableEq
def v9(x:In):Bool:=
  if x.op=0∨x.op=4 then num x.a else if x.op=1∨x.op=2 then ft 0 3 x.a else if x.op=5∨x.op=6 then ft 0 79 x.a else if x.op=9 then ft 0 3 x.a
  else if x.op=3∨x.op=7∨x.op=8∨x.op=10∨x.op=11 then decide (x.a=0)else false
def Eg(x:In):Bool:=decide (x.op=5)||decide (x.op=6)
def JJ(ps:List Pt)(k:Int):Bool:=ps.any fun p=>decide (p.k=k)
def HZ(c:List In)(k:Int):Bool:=c.any fun x=>Eg x&&decide (x.a=k)
def plB(c:List In)(ps:List Pt)(k:Int):Bool:=HZ c k||JJ ps k
def G8(pl:Int→Bool):Nat→List In→List In
  | _,[]=>[]
  | k,x::r=>if pl (k:Int)=true then[]else x::G8 pl (k+1) r
def sgt(c:List In)(ps:List Pt)(k:Nat):List In:=match c.drop k with
  | []=>[]
  | x::r=>x::G8 (plB c ps) (k+1) r
def ua:List Int→List In→Bool
  | [],_=>true
  | _::_,[]=>false
  | o::os,x::s=>decide (x.op=o)&&ua os s
def Am(x:In):Bool:=decide (x.op=1)||decide (x.op=3)||decide (x.op=7)
def HM(s:List In):Nat×List In:=
  let x:=s.getD 0 default
  let y:=s.getD 1 default
  if ua [0,4] s=true∧num (x.a*y.a)=true then(2,[⟨0,x.a*y.a⟩])
  else if ua [0,0,3] s=true∧num (x.a+y.a)=true then(3,[⟨0,x.a+y.a⟩])
  else if ua [0,1,3] s=true∧x.a=0 then(3,[y])
  else if ua [0,1,4,3] s=true∧x.a=0 then(4,[y,s.getD 2 default])
  else if(Am x=true∨x.op=4)∧ua [x.op,0,3] s=true∧y.a=0 then(3,[x])
  else if Am x=true∧ua [x.op,4] s=true∧y.a=1 then(2,[x])
  else if ua [4,4] s=true∧num (x.a*y.a)=true then(2,[⟨4,x.a*y.a⟩])
  else(0,[])
def JI(k less:Int)(x:In):In:=if Eg x=true∧k<x.a then⟨x.op,x.a-less⟩else x
def sPt(k less:Int)(p:Pt):Pt:=if k<p.k then⟨p.k-less,p.fs⟩else p
def JH(a:An)(k n:Nat)(by':List In):An:=
  ⟨a.pre,a.post,(a.code.take k++by'++a.code.drop (k+n)).map (JI k ((n:Int)-by'.length)),a.pts.map (sPt k ((n:Int)-by'.length))⟩
abbrev xd(a:An)(k:Nat):Nat×List In:=HM (sgt a.code a.pts k)
def Dq(a:An):Nat→Nat→Option An
  | 0,_=>none
  | f+1,k=>if 0<(xd a k).1 then some (JH a k (xd a k).1 (xd a k).2)else Dq a f (k+1)
def H0(a:An):Option An:=Dq a a.code.length 0
def DC:Nat→An→An
  | 0,a=>a
  | f + 1,a=>match H0 a with
    | none=>a
    | some b=>DC f b
def xh(a:An):An:=DC a.code.length a
structure AOk(a:An):Prop where
  code: ∀x∈a.code,v9 x=true
  pts: ∀p∈a.pts,0≤p.k∧p.k≤79
  len:a.code.length≤80
  np:a.pts.length≤8
  npre:a.pre.length≤6
  npost:a.post.length≤6
structure RuOk(s:List In)(r:Nat×List In):Prop where
  n:r.1≤s.length
  lt:r.2.length<r.1
  one:1≤r.2.length
  two:r.2.length≤2
  jmp: ∀x∈r.2,Eg x=false
  ok:(∀x∈s,v9 x=true)→∀x∈r.2,v9 x=true
structure Fo(a out:An)(k:Nat):Prop where
  le:k≤out.code.length
  eq:xh out=xh a
  ok:AOk out
  no: ∀j,j<k→(xd out j).1=0
structure Gn(a out:An):Prop where
  eq:xh out=xh a
  ok:AOk out
structure Cs where
  code:List In
  pts:List Pt
  fr:List Int
  to:List Int
mutual
/-- Each element has a place of its own, and behind it the statements that it dU. -/
def Tr.cok(n:Nat):Tr→Prop
  | .node s a ks=>(0≤a∧a<n)∧(s.sum.term=true∧s.index.term=true)∧(bz s=true∧(ks.length:Int)=bC s.kind)∧Trs.cok n ks
def Trs.cok(n:Nat):List Tr→Prop
  | []=>True
  | t::r=>t.cok n∧Trs.cok n r
end
mutual
def Tr.nodes:Tr→Nat
  | .node _ _ ks=>1+Trs.nodes ks
def Trs.nodes:List Tr→Nat
  | []=>0
  | t::r=>t.nodes+Trs.nodes r
end
structure CsLe(m:Nat)(c d:Cs):Prop where
  code:d.code.length≤c.code.length+30*m
  pts:d.pts.length≤c.pts.length+m
  fr:d.fr.length=c.fr.length
  to:d.to.length=c.to.length
  ge:c.code.length≤d.code.length
theorem uO{n:Nat}{f:Nat→Option (Tr×Nat)}(hf: ∀k t k',f k=some (t,k')→k<k'∧t.cok n∧t.nodes=k'-k): ∀{q k ts k'},c6 f q k=some (ts,k')→Trs.cok n ts∧k≤k'∧Trs.nodes ts=k'-k
 | 0,k,ts,k',h=>by
  simp only[c6,ef,Prod.mk.injEq]at h
  obtain⟨rfl,rfl⟩:=h
  exact⟨trivial,da _,by simp[Trs.nodes]⟩
 | q + 1,k,ts,k',h=>by
  unfold c6 at h
  cases hx:f k with
  | none=>rw[hx]at h;cases h
  | some x=>
   obtain⟨t,k1⟩:=x
   rw[hx]at h
   simp only[Option.map_eq_some_iff]at h
   obtain⟨⟨ts1,k2⟩,h1,h2⟩:=h
   simp only[Prod.mk.injEq]at h2
   obtain⟨rfl,rfl⟩:=h2
   have h3:=hf k t k1 hx
   have h4:=uO hf h1
   exact⟨⟨h3.2.1,h4.1⟩,by omega,by simp only[Trs.nodes];omega⟩
theorem uu{body:List Sm}: ∀{m k:Nat} {t:Tr} {k':Nat},cV m body k=some (t,k')→k<k'∧t.cok body.length∧t.nodes=k'-k
 | 0,_,_,_,h=>by cases h
 | m + 1,k,t,k',h=>by
  have hlt:=iy h
  unfold cV at h
  split at h
  cases h
  split at h
  cases h
  rename_i h1 h2
  simp only[Option.map_eq_some_iff]at h
  obtain⟨⟨ts,k2⟩,h3,h4⟩:=h
  simp only[Prod.mk.injEq]at h4
  obtain⟨rfl,rfl⟩:=h4
  have h5:=uO (fun k t k' h=>uu h) h3
  have h8:=(nq (fun k t k' h=>ne h) h3).1
  have hs:bz (body.getD k default)=true:=by
   cases hb:bz (body.getD k default)with
   | true=>rfl
   | false=>unfold cC at h2;rw[hb]at h2;exact absurd (by rw[if_neg (by decide)];decide) h2
  refine⟨by omega,⟨by omega,dg hs,⟨hs,?_⟩,h5.1⟩,by simp only[Tr.nodes];omega⟩
  rw[h8]
  unfold cC
  rw[if_pos hs]
  have:=(c7 (body.getD k default).kind).1
  omega
structure Pth where
  frm:Int
  to:Int
  facts:List Tm
  ends:List Tm
  ev:List Int
abbrev Pth.cells(p:Pth):List D:=[.int .i64 p.frm,.int .i64 p.to,fC p.facts,fC p.ends,cY p.ev]
structure Pw where
  vars:List Tm
  facts:List Tm
  ev:List Int
  sym:Nat
structure Gs where
  paths:List Pth
  conds:List Sq
  bad:Bool
inductive Fr where
  | st (t:Tr)
  | lp (k:Nat)
structure Pe where
  post:List Tm
  lf:Nat→List Tm
  num:Int→Nat
def aR(t:Tm)(vs:List Tm):Tm×Bool:=mf (t.c+bD Tm.c vs t.xs) (bU vs t.xs)
def iV(k:Nat):Tm:=⟨0,List.replicate k 0++[1]⟩
def Gs.flag(b:Bool)(g:Gs):Gs:=⟨g.paths,g.conds,g.bad||b⟩
def Gs.goal(w:Pw)(t:Tm)(g:Gs):Gs:=⟨g.paths,g.conds++[⟨w.facts,t⟩],g.bad⟩
def Pw.fact(t:Tm)(w:Pw):Pw:=⟨w.vars,w.facts++[t],w.ev,w.sym⟩
def Pw.set(i:Nat)(t:Tm)(w:Pw):Pw:=⟨w.vars.set i t,w.facts,w.ev,w.sym⟩
def Pw.long(w:Pw):Bool:=decide (12<w.facts.length)
def bk(w:Pw)(t:Tm)(g:Gs):Gs:=g.flag (!(aR t w.vars).2)
def bE(w:Pw)(g:Gs)(t:Tm):Gs:=(bk w t g).goal w (aR t w.vars).1
def jL(frm:Int)(w:Pw)(to:Int)(g:Gs):Gs:=⟨g.paths++[⟨frm,to,w.facts,w.vars,w.ev⟩],g.conds,g.bad||decide (200<g.paths.length+1)⟩
def dP(frm:Int)(w:Pw)(to:Int)(facts:List Tm)(g:Gs):Gs:=jL frm w to (facts.foldl (bE w) g)
abbrev dM:=Tm→Tm×Bool
def kT(la:dM)(w:Pw)(t:Tm)(g:Gs):Gs:=((g.goal w t).flag (!(la t).2)).goal w (la t).1
def cy(la:dM)(w:Pw)(t:Tm)(g:Gs):Gs:=kT la w (aR t w.vars).1 (bk w t g)
def n4(i:Nat)(w:Pw):Pw:=⟨w.vars.set i (iV w.sym),w.facts,w.ev,w.sym+1⟩
def cd(la:dM)(s:Sm)(w:Pw)(g:Gs):Pw×Gs:=
  if s.kind=2 then(w.set s.var.toNat (aR s.sum w.vars).1,bk w s.sum g)
  else if s.kind=3 then if w.sym=10 then(w.set s.var.toNat ⟨0,[]⟩,(cy la w s.index g).flag true)else(n4 s.var.toNat w,cy la w s.index g)
  else if s.kind=4 then(w,cy la w s.index g)
  else if s.kind=5 then(⟨w.vars,w.facts,w.ev++[s.event],w.sym⟩,g)
  else if s.kind=6 then(w.fact (aR s.sum w.vars).1,((bk w s.sum g).goal w (aR s.sum w.vars).1).flag (w.fact (aR s.sum w.vars).1).long)
  else(w,g)
def dT(yes no:Pw→Gs→Gs)(w:Pw)(t:Tm)(g:Gs):Gs:=no (w.fact (aX t).1) (yes (w.fact t) ((g.flag (!(aX t).2)).flag (w.fact t).long))
def fi (la:dM)(E:Pe)(frm:Int):Nat→List Fr→Pw→Gs→Gs
  | 0,_,_,g=>g
  | n + 1,r,w,g=>if g.bad=true then g else match r with
    | []=>dP frm w (-1) E.post g
    | .lp k::_=>dP frm w k (E.lf k) g
    | .st (.node s a [x,y])::r=>if s.kind=1 then fi la E frm n (.st x:: .st y::r) w g
        else dT (fi la E frm n (.st x::r)) (fi la E frm n (.st y::r)) w (aR s.sum w.vars).1 (bk w s.sum g)
    | .st (.node s a [x])::r=>dP frm w (E.num a) s.facts g
    | .st (.node s a _)::r=>fi la E frm n r (cd la s w g).1 (cd la s w g).2
theorem de{la:dM}{E:Pe}{frm:Int}{n:Nat}{r:List Fr}{w:Pw}{g:Gs}(h:g.bad=true):fi la E frm n r w g=g:=by
 cases n with
 | zero=>rfl
 | succ n=>unfold fi;rw[if_pos h]
theorem gm{la:dM}{E:Pe}{frm:Int}{n:Nat}{w:Pw}{g:Gs}(h:g.bad=false):fi la E frm (n+1) [] w g=dP frm w (-1) E.post g:=by
 rw[fi,if_neg (by rw[h];decide)]
theorem jv{la:dM}{E:Pe}{frm:Int}{n k:Nat}{r:List Fr}{w:Pw}{g:Gs}(h:g.bad=false):fi la E frm (n+1) (.lp k::r) w g=dP frm w k (E.lf k) g:=by
 rw[fi,if_neg (by rw[h];decide)]
theorem gl{la:dM}{E:Pe}{frm:Int}{n:Nat}{r:List Fr}{w:Pw}{g:Gs}{s:Sm}{a:Int}{x y:Tr}(h:g.bad=false)(hk:s.kind=1):fi la E frm (n+1) (.st (.node s a [x,y])::r) w g=fi la E frm n (.st x:: .st y::r) w g:=by
 rw[fi,if_neg (by rw[h];decide)];exact if_pos hk
theorem jy{la:dM}{E:Pe}{frm:Int}{n:Nat}{r:List Fr}{w:Pw}{g:Gs}{s:Sm}{a:Int}{x y:Tr}(h:g.bad=false)(hk: ¬s.kind=1):fi la E frm (n+1) (.st (.node s a [x,y])::r) w g=dT (fi la E frm n (.st x::r)) (fi la E frm n (.st y::r)) w (aR s.sum w.vars).1 (bk w s.sum g):=by
 rw[fi,if_neg (by rw[h];decide)];exact if_neg hk
theorem ju{la:dM}{E:Pe}{frm:Int}{n:Nat}{r:List Fr}{w:Pw}{g:Gs}{s:Sm}{a:Int}{x:Tr}(h:g.bad=false):fi la E frm (n+1) (.st (.node s a [x])::r) w g=dP frm w (E.num a) s.facts g:=by
 rw[fi,if_neg (by rw[h];decide)]
theorem fA{la:dM}{E:Pe}{frm:Int}{n:Nat}{r:List Fr}{w:Pw}{g:Gs}{s:Sm}{a:Int}(h:g.bad=false):fi la E frm (n+1) (.st (.node s a [])::r) w g=fi la E frm n r (cd la s w g).1 (cd la s w g).2:=by
 rw[fi,if_neg (by rw[h];decide)]<;>simp
theorem jR{la:dM}{E:Pe}{frm:Int}{n:Nat}{r:List Fr}{w:Pw}{g:Gs}{s:Sm}{a:Int}{x y z:Tr}{ks:List Tr}(h:g.bad=false):fi la E frm (n+1) (.st (.node s a (x::y::z::ks))::r) w g=fi la E frm n r (cd la s w g).1 (cd la s w g).2:=by
 rw[fi,if_neg (by rw[h];decide)]<;>simp
structure GEq(g h:Gs):Prop where
  bad:g.bad=h.bad
  eq:g.bad=false→g=h
theorem GEq.refl{g:Gs}:GEq g g:=⟨rfl,fun _=>rfl⟩
theorem GEq.of{g h:Gs}(hb:g.bad=true)(hc:h.bad=true):GEq g h:=⟨by rw[hb,hc],fun e=>by rw[hb]at e;cases e⟩
theorem GEq.cases{g h:Gs}(e:GEq g h):g=h∨(g.bad=true∧h.bad=true):=by
 cases hb:g.bad with
 | false=>exact .inl (e.eq hb)
 | true=>exact .inr ⟨Z,by rw[←e.bad,hb]⟩
theorem GEq.flag{g h:Gs}(e:GEq g h){b:Bool}:GEq (g.flag b) (h.flag b):=by
 rcases e.cases with rfl|⟨h1,h2⟩
 exact .refl
 exact .of (by simp[Gs.flag,h1]) (by simp[Gs.flag,h2])
theorem GEq.goal{g h:Gs}(e:GEq g h){w:Pw}{t:Tm}:GEq (g.goal w t) (h.goal w t):=by
 rcases e.cases with rfl|⟨h1,h2⟩
 exact .refl
 exact .of h1 h2
theorem qD{w:Pw}: ∀{fs:List Tm} {g:Gs},g.bad=true→(fs.foldl (bE w) g).bad=true
 | [],g,h=>h
 | t::fs,g,h=>qD (fs:=fs) (g:=bE w g t) (by simp[bE,bk,Gs.goal,Gs.flag,h])
theorem CY{frm:Int}{w:Pw}{to:Int}{fs:List Tm}{g:Gs}(h:g.bad=true):(dP frm w to fs g).bad=true:=by simp[dP,jL,qD h]
structure LaEq(la lb:dM):Prop where
  two: ∀t,t.ok=true→(la t).2=(lb t).2
  one: ∀t,t.ok=true→(la t).2=true→(la t).1=(lb t).1
theorem fo{t:Tm}{vs:List Tm}:(aR t vs).1.ok=true:=by
 unfold aR mf;split
 assumption
 rfl
theorem tK{la lb:dM}(hl:LaEq la lb){w:Pw}{t:Tm}{g h:Gs}(e:GEq g h):GEq (cy la w t g) (cy lb w t h):=by
 have h2:=hl.two _ (fo (t:=t) (vs:=w.vars))
 have h1:=hl.one _ (fo (t:=t) (vs:=w.vars))
 unfold cy kT
 cases hb:(la (aR t w.vars).1).2 with
 | true=>
  rw[←h2,h1 hb,hb]
  exact(GEq.flag (GEq.goal (GEq.flag e))).goal
 | false=>
  rw[←h2,hb]
  exact .of (by simp[Gs.goal,Gs.flag]) (by simp[Gs.goal,Gs.flag])
theorem pJ{la lb:dM}(hl:LaEq la lb){s:Sm}{w:Pw}{g h:Gs}(e:GEq g h):(cd la s w g).1=(cd lb s w h).1∧GEq (cd la s w g).2 (cd lb s w h).2:=by
 unfold cd
 split
 exact⟨Z,e.flag⟩
 split
 split
 exact⟨Z,(tK hl e).flag⟩
 exact⟨Z,tK hl e⟩
 split
 exact⟨Z,tK hl e⟩
 split
 exact⟨Z,e⟩
 split
 exact⟨Z,e.flag.goal.flag⟩
 exact⟨Z,e⟩
theorem kV{la lb:dM}(hl:LaEq la lb){E:Pe}{frm:Int}: ∀{n:Nat} {r:List Fr} {w:Pw} {g h:Gs},GEq g h→GEq (fi la E frm n r w g) (fi lb E frm n r w h)
 | 0,r,w,g,h,e=>e
 | n + 1,r,w,g,h,e=>by
  rcases e.cases with rfl|⟨h1,h2⟩
  cases hb:g.bad with
  | true=>rw[de hb,de hb];exact .refl
  | false=>
   match r with
   | []=>rw[gm hb,gm hb];exact .refl
   | .lp k::r=>rw[jv hb,jv hb];exact .refl
   | .st (.node s a [])::r=>
    rw[fA hb,fA hb,(pJ hl (s:=s) (w:=w) e).1]
    exact kV hl (pJ hl e).2
   | .st (.node s a [x])::r=>rw[ju hb,ju hb];exact .refl
   | .st (.node s a [x,y])::r=>
    by_cases hk:s.kind=1
    rw[gl hb hk,gl hb hk];exact kV hl .refl
    rw[jy hb hk,jy hb hk]
    exact kV hl (kV hl .refl)
   | .st (.node s a (x::y::z::ks))::r=>
    rw[jR hb,jR hb,(pJ hl (s:=s) (w:=w) e).1]
    exact kV hl (pJ hl e).2
  rw[de h1,de h2];exact .of h1 h2
def Fr.nodes:Fr→Nat
  | .st t=>t.nodes
  | .lp _=>0
def aP:List Fr→Nat
  | []=>0
  | f::r=>f.nodes+aP r
structure WOk(m:Nat)(w:Pw):Prop where
  vars:w.vars.length=4
  ok: ∀t∈w.vars,t.ok=true
  facts:w.facts.length+m≤64
  ev:w.ev.length+m≤64
  sym:w.sym≤10
theorem WOk.le{m k:Nat}{w:Pw}(h:WOk m w)(hk:k≤m):WOk k w:=⟨h.vars,h.ok,by have:=h.facts;omega,by have:=h.ev;omega,h.sym⟩
theorem Ag{k:Nat}(h:k<10):(iV k).ok=true:=by
 have: ∀k:Fin 10,(iV k).ok=true:=by decide
 exact this ⟨k,h⟩
theorem sZ{xs:List Tm}{i:Nat}{t:Tm}(h: ∀t∈xs,t.ok=true)(ht:t.ok=true): ∀u∈xs.set i t,u.ok=true:=fun u hu=>by
 rcases List.mem_or_eq_of_mem_set hu with h1|h1
 exact h u h1
 rw[h1];exact ht
theorem WOk.set{m:Nat}{w:Pw}(h:WOk m w){i:Nat}{t:Tm}(ht:t.ok=true):WOk m (w.set i t):=⟨by simp[Pw.set,h.vars],sZ h.ok ht,h.facts,h.ev,h.sym⟩
theorem WOk.fact{m:Nat}{w:Pw}(h:WOk (m+1) w){t:Tm}:WOk m (w.fact t):=⟨h.vars,h.ok,by have:=h.facts;simp only[Pw.fact,cG,dL];omega,by have:=h.ev;simp only[Pw.fact];omega,h.sym⟩
theorem WOk.leaf{m:Nat}{w:Pw}(h:WOk (m+1) w){la:dM}{s:Sm}{g:Gs}:WOk m (cd la s w g).1:=by
 have h0:=h.le (Nat.le_succ m)
 unfold cd
 split
 exact h0.set fo
 split
 split
 exact h0.set (by decide)
 have:=h.sym
 exact⟨by simp[n4,h.vars],sZ h.ok (Ag (by omega)),h0.facts,h0.ev,by simp only[n4];omega⟩
 split
 exact h0
 split
 exact⟨h.vars,h.ok,h0.facts,by have:=h.ev;simp only[cG,dL];omega,h.sym⟩
 split
 exact h.fact
 exact h0
structure GOk(n:Nat)(g:Gs):Prop where
  paths:g.paths.length≤201
  good:g.bad=false→g.paths.length≤200
  conds:g.conds.length≤n
theorem GOk.le{m n:Nat}{g:Gs}(h:GOk m g)(hm:m≤n):GOk n g:=⟨h.paths,h.good,Nat.le_trans h.conds hm⟩
theorem GOk.flag{n:Nat}{g:Gs}(h:GOk n g){b:Bool}:GOk n (g.flag b):=⟨h.paths,fun e=>h.good (by simp[Gs.flag]at e;exact e.1),h.conds⟩
theorem GOk.goal{n:Nat}{g:Gs}(h:GOk n g){w:Pw}{t:Tm}:GOk (n+1) (g.goal w t):=⟨h.paths,h.good,by have:=h.conds;simp only[Gs.goal,cG,dL];omega⟩
theorem xT{w:Pw}: ∀{fs:List Tm} {n:Nat} {g:Gs},GOk n g→GOk (n+fs.length) (fs.foldl (bE w) g)
 | [],n,g,h=>h
 | t::fs,n,g,h=>by
  have:=xT (fs:=fs) (w:=w) (h.flag.goal:GOk (n+1) (bE w g t))
  exact this.le (by simp only[eH];omega)
theorem iJ{w:Pw}: ∀{fs:List Tm} {g:Gs},(fs.foldl (bE w) g).paths=g.paths
 | [],g=>rfl
 | t::fs,g=>iJ (fs:=fs) (g:=bE w g t)
theorem EU{frm:Int}{w:Pw}{to:Int}{fs:List Tm}{n:Nat}{g:Gs}(h:GOk n g)(hb:g.bad=false):GOk (n+fs.length) (dP frm w to fs g):=by
 have h1:=xT (fs:=fs) (w:=w) h
 have h2:=h.good hb
 have h3:=congrArg List.length (iJ (fs:=fs) (w:=w) (g:=g))
 refine⟨?_,fun e=>?_,h1.conds⟩
 simp only[dP,jL,cG,dL];omega
 simp only[dP,jL,Bool.or_eq_false_iff,decide_eq_false_iff_not]at e
 simp only[dP,jL,cG,dL];omega
theorem tJ{la:dM}{w:Pw}{t:Tm}{n:Nat}{g:Gs}(h:GOk n g):GOk (n+2) (cy la w t g):=h.flag.goal.flag.goal
theorem tC{la:dM}{s:Sm}{w:Pw}{n:Nat}{g:Gs}(h:GOk n g):GOk (n+2) (cd la s w g).2:=by
 unfold cd
 split
 exact h.flag.le (by omega)
 split
 split
 exact(tJ h).flag
 exact tJ h
 split
 exact tJ h
 split
 exact h.le (by omega)
 split
 exact h.flag.goal.flag.le (by omega)
 exact h.le (by omega)
def rD(m:Nat):Nat:=8*(2^(m/2)*(m+1))
theorem cP{m n:Nat}(h:m≤n):rD m≤rD n:=by
 unfold rD
 exact Nat.mul_le_mul_left _ (Nat.mul_le_mul (Nat.pow_le_pow_right (by decide) (Nat.div_le_div_right h)) (by omega))
theorem qP{m:Nat}:rD m+2≤rD (m+1):=by
 unfold rD
 have h1:2^(m/2)≤2^((m+1)/2):=Nat.pow_le_pow_right (by decide) (by omega)
 have h2:1≤2^((m+1)/2):=Nat.one_le_two_pow
 have h3:2^(m/2)*(m+1)≤2^((m+1)/2)*(m+1):=Nat.mul_le_mul_right _ h1
 rw[show(2:Nat)^((m+1)/2)*(m+1+1)=2^((m+1)/2)*(m+1)+2^((m+1)/2)from Nat.mul_succ _ _]
 omega
theorem tL{m:Nat}:rD m+rD m≤rD (m+2):=by
 unfold rD
 rw[show(m+2)/2=m/2+1 by omega,Nat.pow_succ]
 have h3:2^(m/2)*(m+1)≤2^(m/2)*(m+2+1):=Nat.mul_le_mul_left _ (by omega)
 rw[show 2^(m/2)*2*(m+2+1)=2*(2^(m/2)*(m+2+1)) by rw[Nat.mul_right_comm,Nat.mul_comm]]
 omega
theorem tc:rD 30=8126464:=by decide
theorem wj{m:Nat}:8≤rD m:=by
 have:=cP (cT m)
 exact Nat.le_trans (by decide) this
def pY(t:Tm):Tm×Bool:=if t.ok=true then(t,true)else(⟨0,[]⟩,false)
theorem ll{f:Tm→Int}: ∀{ts:List Tm} {ms:List Int},bD f (ts.take ms.length) ms=bD f ts ms
 | [],ms=>by simp
 | t::ts,[]=>by simp[bD]
 | t::ts,m::ms=>by simp only[eH,List.take_succ_cons,bD];rw[ll]
theorem A0{t:Tm}{vs:List Tm}:pY (io (⟨t.c,[]⟩::vs.take t.xs.length) (1::t.xs))=aR t vs:=by
 have h1:bD Tm.c (⟨t.c,[]⟩::vs.take t.xs.length) (1::t.xs)=t.c+bD Tm.c vs t.xs:=by rw[bD,ll,Int.one_mul]
 have h2:bU (⟨t.c,[]⟩::vs.take t.xs.length) (1::t.xs)=bU vs t.xs:=by
  unfold bU
  apply List.map_congr_left
  intro k _
  rw[bD,ll]
  simp[kb]
 rw[io,h1,h2];rfl
theorem AZ{t:Tm}{vs:List Tm}:mf (t.c+bD Tm.c (vs.take t.xs.length) (t.xs.take t.xs.length)) (bU (vs.take t.xs.length) (t.xs.take t.xs.length))=aR t vs:=by
 have h2:bU (vs.take t.xs.length) t.xs=bU vs t.xs:=by
  unfold bU
  apply List.map_congr_left
  intro k _
  rw[ll]
 rw[List.take_length,ll,h2];rfl
theorem E3{t:Tm}(h:t.ok=true):(Tm.mk t.c []).ok=true:=by
 have:=(Small.of h).c
 simp[Tm.ok,this]
theorem wl{vs:List Tm}{n:Int}(h:fS vs n=true):(∀t∈vs,t.ok=true)∧(vs.length:Int)≤n:=by
 unfold fS at h
 simpa using h
theorem Cy{t:Tm}{vs:List Tm}{n:Nat}(ht:t.ok=true)(hv:fS vs 10=true):CtxOk (⟨t.c,[]⟩::vs.take n):=by
 have h1:=wl hv
 refine⟨fun u hu=>?_,by simp;omega⟩
 rcases List.mem_cons.1 hu with rfl|h
 exact E3 ht
 exact h1.1 u (List.mem_of_mem_take h)
theorem CH{t:Tm}:aX t=pY (ep t):=vW
variable{t:Tm}
theorem Ir:MQ h1 h2 158 [db t] [] (Plain (iZ (pY t))):=by
 refine MC.data (jB 10 h1 h2 Tryz.func158 Z fun O hF=>?_)
 refine ae (jx Z (jl Z (js Z (jn (af (ae (js Z (bP Z (mS (t:=t) h1 h2) 6000 Z (js Z (jn (ah Z (fun z6=>?_) (fun z6=>?_))))))))))))
 refine ae (js Z (jo Z (js Z (jr ?_))))
 refine aJ Z ?_
 have hok:t.ok=false:=by simpa using z6
 rw[show pY t=(⟨0,[]⟩,false)from if_neg (by rw[hok];decide)]
 exact .tup (.cons (.agg (.cons .d (.cons .nils .nil))) (.cons (.c .d) .nil))
 refine aj (ae (js Z (an O Z Z Z Z (Cd (t:=t) h1 h2) (ac Z) Z Z Z Z (B0:=10000) Z Z (jo Z (js Z (jr ?_))))))
 refine aJ Z ?_
 have hok:t.ok=true:=by simpa using z6
 rw[show pY t=(t,true)from if_pos hok]
 exact .tup (.cons (.agg (aE Z)) (.cons (.c .d) .nil))
theorem DO(ht:t.ok=true):MQ h1 h2 120 [db t] [] (Plain (iZ (aX t))):=by
 refine MC.data (jB 13 h1 h2 Tryz.func120 Z fun O hF=>?_)
 refine ae (jx Z (jl Z (js Z (jn (af (ae (js Z (bP Z (mS (t:=t) h1 h2) 6000 Z (js Z (jn (ah Z (fun z6=>?_) (fun z6=>?_))))))))))))
 exact absurd z6 (by rw[ht];decide)
 refine aj (ae (js Z (an O Z Z Z Z (zC (t:=t) h1 h2 ht) (ac Z) Z Z Z Z (B0:=10000) Z Z (an O Z Z Z Z (Ir (t:=ep t) h1 h2) (ac Z) Z Z Z Z (B0:=11000) Z Z (ab Z (jo Z (js Z (jr ?_))))))))
 refine aJ Z ?_
 rw[CH]
 exact .tup (.cons (.agg (aE Z)) (.cons (.c .d) .nil))
theorem pC{k:Nat}:(List.replicate (k+1) [D.int .i64 0])[0+k]? = some [D.int .i64 0]:=by simp
theorem pA{k:Nat}:(List.replicate (k+1) [D.int .i64 0]).set (0+k) [D.int .i64 1]=((List.replicate k 0++[1]:List Int)).map fun n=>[D.int .i64 n]:=by
 rw[List.replicate_succ',Nat.zero_add,List.set_append_right _ _ (by simp)];simp
variable{k:Nat}
theorem DQ(hk:k<10):MQ h1 h2 111 [eI k] [] (Plain (db (iV k))):=by
 refine MC.data (jB 13 h1 h2 Tryz.func111 Z fun O hF=>?_)
 refine ae (jl Z (aq ?_))
 refine ba (js Z (ji Z (aU (gn O Z Z Z Z Z Z Z Z Z (by first|omega|(simp at *;omega)) (by first|omega|(simp at *;omega)) (by first|omega|(simp at *;omega)) (by first|omega|(dsimp only;omega)|(simp only[bG]at *;omega)) (by first|omega|(simp at *;omega)) Z Z Z) Z (aq ?_))))
 refine js Z (jl Z (aq ?_))
 refine jo Z (aq ?_)
 refine ba (aH Z (dv Z Z (aU (ca (ex:=[.int .i64 0]) (xs':=((List.replicate k 0++[1]:List Int)).map (fun n=>[D.int .i64 n])) O Z Z Z Z Z Z Z Z Z Z Z Z Z Z pC pA) Z (aq ?_))))
 refine ba (js Z (jo Z (aq ?_)))
 refine jr ?_
 refine aJ Z ?_
 exact .v (.agg (.cons .d (.cons (.whole Z (by simp[iV])) .nil)))
theorem Iw{vs:List Tm}(hc:CtxOk vs)(hm:t.xs.all num=true)(hn:num t.c=true)(hle:t.xs.length≤vs.length):MQ h1 h2 161 [ptr t.cells,cb vs] [] (Plain (iZ (aR t vs))):=by
 refine MC.data (jB 93 h1 h2 Tryz.func161 Z fun O hF=>?_)
 have hlc:=hc.len
 have hnc:=I7.1 hn
 have hl:t.xs.length≤L:=by simpa[As.fact,A.fact,M.fact,D.fact,Ds.fact]using hF.1.2.1.1
 refine ae (jl Z (js Z (ba (az Z (js Z (ba (aU (gn O Z Z Z Z Z Z Z Z Z (by first|omega|(simp at *;omega)) (by first|omega|(simp at *;omega)) (by first|omega|(simp at *;omega)) (by first|omega|(dsimp only;omega)|(simp only[bG]at *;omega)) (by first|omega|(simp at *;omega)) Z Z Z) Z (js Z (jn (af (ae (js Z (jn (ao (aw (X:=Nat) (fun i=>⟨[(0,ptr t.cells),(1,cb vs),(4,.c (.pt 4 0 0)),(6,eI (t.c+bD Tm.c (vs.take i) (t.xs.take i))),(7,.c (.rs 14 0 10)),(8,eI i)],[(4,.box [.d (.int .i64 0),.d .nils]),(14,aO (bU (vs.take i) (t.xs.take i)))]⟩) (fun i=>i≤t.xs.length) (fun i=>t.xs.length-i) 0 (Ent.to ⟨Z,Z,Z,by show some (eI t.c)=_;simp[bD],Z,Z,ap⟩ Z) ?_ (fun i hi=>?_))))))))))))))))
 exact cT _
 refine af (ae (az Z (js Z (dh Z (js Z (jn (ah Z (fun z21=>?_) (fun z21=>?_))))))))
 try simp only[bG]at z21
 refine aj (af (ao (af (ae (ab Z (dh Z (js Z (jn (ah Z (fun z27=>?_) (fun z27=>?_))))))))))
 try simp only[bG]at z27
 exact absurd z27 (by omega)
 try simp only[bG]at z27
 refine aj (af ?_)
 have hi0:=hi
 have hts:=Small.of (hc.get (show i<vs.length by omega))
 have hd1:=kl (f:=Tm.c) (ts:=vs) (ms:=t.xs) (fun t ht=>(Small.of (hc.ok t ht)).c) hm (i:=i) (by omega) hi
 have hd2:=hJ (f:=Tm.c) (ts:=vs) (ms:=t.xs) (i:=i) (by omega) (by omega)
 have hmi:num (t.xs.getD i default)=true:=by rw[aD (by omega)];exact List.all_eq_true.1 hm _ (List.getElem_mem _)
 have hmu:=fE hmi hts.c
 refine fZ [_,_,_,_,_,_,_,_,_,_,_,_,_,_,_,_] [aF,aF,ag [1],ag [1,2],ag [1,2,3],aF,ag (rg 1 5),ag (rg 1 6),aF,aF,ag [8,9],ag [8,9,10],ag (rg 8 4),ag (rg 1 12),ag (rg 0 14),ag (rg 0 15)] [] [_] (cw Z (kc Z (kc Z (ai (vN Z) (kc Z (kc Z (kc Z (ai (vN Z) (kc Z (kc Z (ai (bi O Z Z (by omega) (by omega)) (ai (bi O Z Z (by omega) (by omega)) (kc Z trivial))))))))))))) ?_
 refine jw [6,27,21,0,1,4,7,8] Z (b0 ?_)
 refine ae (js Z (jn (ao (aw (X:=Nat) (fun j=>⟨[(0,ptr t.cells),(1,cb vs),(4,.c (.pt 4 0 0)),(6,eI (t.c+bD Tm.c (vs.take i) (t.xs.take i)+t.xs.getD i default*(vs.getD i default).c)),(7,.c (.rs 14 0 10)),(8,eI i),(9,eI j)],[(4,.box [.d (.int .i64 0),.d .nils]),(14,aO (fP vs t.xs i j))]⟩) (fun j=>j≤(vs.getD i default).xs.length) (fun j=>(vs.getD i default).xs.length-j) 0 (((am [4,14] (e':=[(0,_),(1,_),(4,_),(6,_),(7,_),(8,_),(9,_)]) Z Z ⟨Z,Z,Z,Z,Z,Z,Z,ap⟩ Z)).trans (Ent.to ⟨Z,Z,Z,Z,Z,Z,Z,ap⟩ (by rw[ol];rfl))) ?_ (fun j hi=>?_)))))
 exact cT _
 refine af (ae (aH Z (jD Z Z (ab Z (dh Z (js Z (jn (ah Z (fun z63=>?_) (fun z63=>?_)))))))))
 try simp only[bG]at z63
 refine aj (af (ao ?_))
 have hjl:j<10:=by have:=qf (hc.get (show i<vs.length by omega));omega
 have hpj:=ni (ts:=vs) (ms:=t.xs) (i:=i) hjl
 have hps:=om (ts:=vs) (ms:=t.xs) (i:=i) hjl
 have hpl:=eP (ts:=vs) (ms:=t.xs) (i:=i) (j:=j)
 have hd3:=kl (f:=kb j) (ts:=vs) (ms:=t.xs) (fun t ht=>(Small.of (hc.ok t ht)).get j) hm (i:=i) (by omega) (by omega)
 have hmx:=fE hmi (hts.get j)
 rw[show(vs.getD i default).xs.getD j 0=(vs.getD i default).xs.getD j default from Z]at hmx
 refine fZ [_,_,_,_,_,_,_,_,_,_,_,_,_,_,_,_,_,_,_,_,_,_,_] [aF,aF,ag [0,1],ag [0,1,2],aF,ag [4],ag [4,5],ag [4,5,6],aF,ag (rg 4 5),ag (rg 4 6),aF,aF,ag [11,12],ag [11,12,13],ag (rg 11 4),aF,ag (rg 11 6),ag (rg 11 7),ag (rg 4 15),ag (rg 0 20),ag (rg 0 21),pe (rg 0 22) 0] [22] [_,_] (kc Z (kc Z (ai (vI Z Z) (ai (bt O (ex:=[.int .i64 ((fP vs t.xs i j).getD j default)]) Z Z Z Z (vJ (by omega)) Z) (cw Z (kc Z (ai (vN Z) (kc Z (kc Z (kc Z (ai (vN Z) (kc Z (kc Z (kc Z (ai (vN Z) (kc Z (ai (bi O Z Z (by omega) (by omega)) (ai (bi O Z Z (by omega) (by omega)) (ai (vI Z Z) (ai (cR (ex:=[.int .i64 ((fP vs t.xs i j).getD j default)]) (xs':=(fP vs t.xs i (j+1)).map (fun n=>[D.int .i64 n])) O Z Z Z Z Z Z Z Z Z Z Z Z Z Z Z (vJ (by omega)) (by rw[←hps,List.map_set];simp only[Int.toNat_natCast,Nat.zero_add];rfl) Z) trivial)))))))))))))))))))) ?_
 refine jw [63,0,1,4,6,7,8,9] Z (b0 ?_)
 refine ak (js Z (ji Z (js Z (jn ?_))))
 refine⟨j+1,Ent.to ⟨Z,Z,Z,Z,Z,Z,Z,ap⟩ Z,by omega,by omega⟩
 try simp only[bG]at z63
 refine bg (ak (js Z (ji Z (js Z (jn ?_)))))
 refine⟨i+1,((am [4,14] (e':=[(0,_),(1,_),(4,_),(6,_),(7,_),(8,_)]) Z Z ⟨Z,Z,Z,Z,Z,Z,ap⟩ Z)).trans (Ent.to ⟨Z,Z,Z,by rw[hd2,←Int.add_assoc];rfl,Z,Z,ap⟩ ?_),by omega,by omega⟩
 rw[←qq (j:=j) (by omega) (by omega) (by omega)];rfl
 try simp only[bG]at z21
 refine bg (ae ?_)
 obtain rfl:i=t.xs.length:=by omega
 have hcl:=kB (ts:=vs.take t.xs.length) (ms:=t.xs.take t.xs.length)
 refine ar (Ent.freeze 14 (e':=[(7,_),(6,_),(4,_)]) Z (.cons Z (.c (.row Z (by rw[bQ,hcl]))) (fe [6,4] Z)) (aZ Z (.skip .nil))) ?_
 refine ab Z (an O Z Z Z Z (p8 (c:=t.c+bD Tm.c (vs.take t.xs.length) (t.xs.take t.xs.length)) (xs:=bU (vs.take t.xs.length) (t.xs.take t.xs.length)) h1 h2) (ac Z) Z Z Z Z (B0:=91000) Z Z (ab Z (jo Z (js Z (jr ?_)))))
 refine aJ Z ?_
 rw[←AZ]
 exact .tup (.cons (.agg (aE Z)) (.cons (.c .d) .nil))
abbrev zt(ps:List Pth):D:=.slc 5 (ps.map Pth.cells)
abbrev ck(ps:List Pth):B:=.row false 5 (ps.map Pth.cells)
abbrev cn(ss:List Sq):B:=.row false 3 (ss.map Sq.cells)
abbrev gR(p fl:D)(frm:Int)(g:Gs)(i j:Nat):B:=.box [.d p,.d fl,.d (.int .i64 frm),.rs i 0 g.paths.length,.rs j 0 g.conds.length,.d (.bool g.bad)]
abbrev hB(w:Pw):B:=.box [.d (fC w.vars),.d (.int .i64 (w.sym:Int)),.d (fC w.facts),.d (cY w.ev)]
abbrev hA(w:Pw):A:=.agg [.d (fC w.vars),.d (.int .i64 (w.sym:Int)),.d (fC w.facts),.d (cY w.ev)]
abbrev fH(p fl:D)(frm:Int)(g:Gs)(w:Pw):List (Nat×B):=[(0,gR p fl frm g 1 2),(1,ck g.paths),(2,cn g.conds),(3,hB w)]
abbrev Ku(p fl:D)(frm:Int)(g:Gs)(w:Pw):List (Nat×B):=[(0,gR p fl frm g 1 6),(1,ck g.paths),(3,hB w),(6,cn g.conds)]
abbrev JM(p fl:D)(frm:Int)(g:Gs)(w:Pw):List (Nat×B):=[(0,gR p fl frm g 5 6),(3,hB w),(5,ck g.paths),(6,cn g.conds)]
theorem GF{a b:Bool}:(bif a then true else b)=(a||b):=by cases a<;>rfl
variable{frm:Int}{g:Gs}{w:Pw}
theorem rR{p fl:D}{ds:List D}{j:Nat}(hd:(ds.drop j).take (Tm.cells t).length=Tm.cells t)(hw:CtxOk w.vars)(ht:t.ok=true)(hle:t.xs.length≤w.vars.length):MQ h1 h2 127 [.c (.pt 0 0 0),.c (.pt 3 0 0),.c (.d (.ptr ds j))] (fH p fl frm g w) (bb (db (aR t w.vars).1) (fH p fl frm (bk w t g) w)):=by
 refine MC.shift 500 Z (MC.keep [500,501,502,503] (bs:=[gR p fl frm (bk w t g) 501 502,ck g.paths,cn g.conds,hB w]) Z Z (jH 30 [500,501,502,503] h1 h2 Tryz.func127 Z fun O hF=>?_))
 refine b0 ?_
 refine ae (jl Z (aq ?_))
 refine ba (az Z (js Z (an O Z Z Z Z (Iw (t:=t) (vs:=w.vars) h1 h2 hw (Small.of ht).xs (Small.of ht).c hle) (.cons (.c (.sub hd)) (ac Z)) Z Z Z Z (B0:=16000) Z Z (aH Z (jl Z (aq ?_))))))
 refine jo Z (aq ?_)
 refine js Z (ba (az Z (ab Z (aA 2 Z Z Z (fun hx=>ax hx Z (ax hx Z (AN.nil))) Z Z (av ((aG O Z Z Z Z Z).cast (v':=eB (g.bad|| !(aR t w.vars).2)) (congrArg eB GF)) Z (ab Z (jo Z (aq ?_))))))))
 refine ba (js Z (jo Z (aq ?_)))
 refine jr ?_
 refine⟨.inl Z,_,b9,_,Z,Z,Z⟩
theorem xq{p fl:D}(hg:g.conds.length+1≤L):MQ h1 h2 129 [.c (.pt 0 0 0),.c (.pt 3 0 0),db t] (fH p fl frm g w) (bb (.tup []) (Ku p fl frm (g.goal w t) w)):=by
 refine MC.shift 500 Z (MC.keep [500,501,503,506] (bs:=[gR p fl frm (g.goal w t) 501 506,ck g.paths,hB w,cn (g.goal w t).conds]) Z Z (jH 22 [500,501,502,503] h1 h2 Tryz.func129 Z fun O hF=>?_))
 refine b0 ?_
 refine ae (jx Z (aq ?_))
 refine ar (Ent.freeze 5 (e':=[(5,_),(0,_),(1,_)]) Z (.cons Z (.c (.box (cs:=Tm.cells t) Z (aE Z))) (fe [0,1] Z)) (.skip (aZ Z (bh Z (bh Z (aZ Z .nil)))))) ?_
 refine aq ?_
 refine jn (rC [_,_,_,_,_,_,_,_,_,_,_,_,_,_,_,_,_] [pn [] 0 3,pn [] 0 2,pn [1] 0 2,pn [1,2] 0 2,pn [1,2,3] 0 2,aF,ag [5],ag [5,6],ag [5,6,7],pe [5,6,7,8] 0,pe [5,6,7,8,9] 1,pn [5,6,7,8,9,10] 2 2,pn [5,6,7,8,9,10,11] 2 2,pe [1,2,3,4,5,6,7,8,9,10,11,12] 2,pn [0,1,2,3,4,5,6,7,8,9,10,11,12,13] 3 3,pn [0,1,2,3,4,5,6,7,8,9,10,11,12,13,14] 3 3,pe [0,1,2,3,4,5,6,7,8,9,10,11,12,13,14,15] 3] [9,10,13,16] 12 18 (.row false 3 [Sq.cells (⟨w.facts,t⟩:Sq)]) [_,_,_] [_,_] [[],[],[502],[]] (ai (kf Z Z Z (kf Z Z Z (kf Z Z Z (kg Z Z Z)))) (ai (kf Z Z Z (kf Z Z Z (kg Z Z Z))) (ai (kf Z Z Z (kf Z Z Z (kg Z Z Z))) (ai (kf Z Z Z (kf Z Z Z (kg Z Z Z))) (ai (kf Z Z Z (kf Z Z Z (kg Z Z Z))) (kf Z Z Z (kf Z Z Z (kf Z Z Z (kf Z Z Z (ai (ai (aB (bR O (B0:=16000) Z Z Z Z (Dh (ts:=w.facts) h1 h2) (ac Z) Z Z Z Z Z) (bR O (B0:=16000) Z Z Z Z (Dh (ts:=w.facts) h1 h2) (ac Z) Z Z Z Z Z)) Z) (ai (ai (aB (bR O (B0:=17000) Z Z Z Z (En (t:=t) h1 h2) (ac Z) Z Z Z Z Z) (bR O (B0:=17000) Z Z Z Z (En (t:=t) h1 h2) (ac Z) Z Z Z Z Z)) Z) (kf Z Z Z (ai (ai (cQ O Z Z Z Z Z Z Z Z Z Z Z Z Z Z) Z) (ai (ai (aB trivial (cp (own:=false) (xs:=g.conds.map Sq.cells) (ys:=[Sq.cells (⟨w.facts,t⟩:Sq)]) (zs:=((g.conds++[(⟨w.facts,t⟩:Sq)])).map Sq.cells) (n:=(g.conds++[(⟨w.facts,t⟩:Sq)]).length) O Z Z Z Z Z Z Z Z Z Z Z Z Z Z Z Z (.row Z (bQ _).symm) (.whole Z Z (.inr ⟨Z,Z⟩)) (by simp) Z (by simp;omega) (by simp;omega) (by simp) (by simp) Z)) Z) (ai (ai (aB trivial (V Z)) Z) (ai (ai (aB trivial (V Z)) Z) (ai (ai (aB trivial (aI (eS Z Z Z))) Z) trivial))))))))))))))))) ?_)
 show _∧_
 refine⟨.inr Z,_,aa 19 506 Z Z,_,Z,Z,Z⟩
theorem ug{p fl:D}(hl:w.facts.length≤1000):MQ h1 h2 130 [.c (.pt 0 0 0),.c (.pt 3 0 0),db t] (fH p fl frm g w) (bb (hA (w.fact t)) (fH p fl frm (g.flag (w.fact t).long) w)):=by
 refine MC.shift 500 Z (MC.keep [500,501,502,503] (bs:=[gR p fl frm (g.flag (w.fact t).long) 501 502,ck g.paths,cn g.conds,hB w]) Z Z (jH 34 [500,501,502,503] h1 h2 Tryz.func130 Z fun O hF=>?_))
 refine b0 ?_
 refine ae (jx Z (aq ?_))
 refine ar (Ent.freeze 5 (e':=[(5,_),(0,_),(1,_)]) Z (.cons Z (.c (.box (cs:=Tm.cells t) Z (aE Z))) (fe [0,1] Z)) (.skip (aZ Z (bh Z (bh Z (aZ Z .nil)))))) ?_
 refine aq ?_
 refine jl Z (aq ?_)
 refine ba (aH Z (jl Z (aq ?_)))
 refine jo Z (aq ?_)
 refine jn (af (rC [_,_,_,_,_,_,_,_,_,_] [aF,ag [0],ag [0,1],ag [0,1,2],pe [0,1,2,3] 0,pn [] 0 1,pn [5] 0 1,pe [0,1,2,3,4,5,6] 1,pn [0,1,2,3,4,5,6,7] 2 2,pe [0,1,2,3,4,5,6,7,8] 2] [4,7,9] 6 17 (.row false 2 [Tm.cells t]) [_,_] [_,_] [[],[16000],[]] (kf Z Z Z (kf Z Z Z (kf Z Z Z (kf Z Z Z (ai (ai (aB (aI (el O (B0:=16000) Z Z Z Z (sW (ts:=w.facts) h1 h2) (ac Z) Z Z Z Z)) (aI (el O (B0:=16000) Z Z Z Z (sW (ts:=w.facts) h1 h2) (ac Z) Z Z Z Z))) Z) (ai (kf Z Z Z (kg Z Z Z)) (ai (ai (ai (aI (cQ O Z Z Z Z Z Z Z Z Z Z Z Z Z Z)) Z) (ai (aI (cQ O Z Z Z Z Z Z Z Z Z Z Z Z Z Z)) Z)) (ai (ai (aB trivial (cp (own:=false) (xs:=w.facts.map Tm.cells) (ys:=[Tm.cells t]) (zs:=((w.facts++[t])).map Tm.cells) (n:=(w.facts++[t]).length) O Z Z Z Z Z Z Z Z Z Z Z Z Z Z Z Z (.row Z (bQ _).symm) (.whole Z Z (.inr ⟨Z,Z⟩)) (by simp) Z (by simp;omega) (by simp;omega) (by simp) (by simp) Z)) Z) (ai (ai (aB trivial (V Z)) Z) (ai (ai (aB trivial (aI (eS Z Z Z))) Z) trivial)))))))))) ?_))
 refine jw [7,10,6,0,1] Z (b0 ?_)
 refine ae (ar (Ent.freeze 18 (e':=[(0,_),(7,_),(6,_)]) Z (fe [0,7,6] Z) (aZ Z (.cons Z (.box (dw Z (dw Z (.cons (.row Z (by simp)) (fk Z))))) (bh Z (.skip (aZ Z (bh Z (bh Z (aZ Z .nil))))))))) ?_)
 refine az Z (ab Z (aA 4 Z Z Z (fun hx=>ax hx Z (ax hx Z (dD hx (cf O Z Z Z Z Z Z Z Z) Z (ax hx Z (AN.nil))))) Z Z (av ((aG O Z Z Z Z Z).cast (v':=eB (g.bad||(w.fact t).long)) (congrArg eB (by rw[GF,Pw.long];exact congrArg (g.bad|| ·) (decide_eq_decide.2 (by simp[Pw.fact];omega))))) Z (ab Z (jo Z (aq ?_))))))
 refine ba (js Z (jo Z (aq ?_)))
 refine jr ?_
 refine⟨.inl Z,_,b9,_,Z,Z,Z⟩
def bH:dM:=fun t=>yi ⟨7,[]⟩ 1 t (-1)
theorem Ez:Small (⟨7,[]⟩:Tm):=⟨by decide,by decide⟩
theorem zZ{p fl:D}{ds:List D}{j:Nat}(hd:(ds.drop j).take (Tm.cells t).length=Tm.cells t)(hw:CtxOk w.vars)(ht:t.ok=true)(hle:t.xs.length≤w.vars.length)(hg:g.conds.length+2≤L):MQ h1 h2 128 [.c (.pt 0 0 0),.c (.pt 3 0 0),.c (.d (.ptr ds j))] (fH p fl frm g w) (bb (.tup []) (Ku p fl frm (cy bH w t g) w)):=by
 refine MC.shift 500 Z (MC.keep [500,501,503,506] (bs:=[gR p fl frm (cy bH w t g) 501 506,ck (cy bH w t g).paths,hB w,cn (cy bH w t g).conds]) Z Z (jH 38 [500,501,502,503] h1 h2 Tryz.func128 Z fun O hF=>?_))
 refine b0 ?_
 refine ae (aH Z (jf [11,10,9,0,1] Z (au O [500,501,502,503] (bin:=[gR p fl frm g 1 2,ck g.paths,cn g.conds,hB w]) Z Z Z Z (rR (p:=p) (fl:=fl) (frm:=frm) (g:=g) (w:=w) (t:=t) (ds:=ds) (j:=j) h1 h2 hd hw ht hle) Z Z Z Z Z Z (B0:=13000) Z Z (aq ?_))))
 refine jf [12,0,1] Z (jl Z (aq ?_))
 refine jo Z (aq ?_)
 refine ba (aH Z (au O [500,501,502,503] (bin:=[gR p fl frm (bk w t g) 1 2,ck (bk w t g).paths,cn (bk w t g).conds,hB w]) Z Z Z Z (xq (p:=p) (fl:=fl) (frm:=frm) (g:=(bk w t g)) (w:=w) (t:=(aR t w.vars).1) h1 h2 (by simp only[bk,Gs.flag,Gs.goal,cG,dL];omega)) Z Z Z Z Z Z (B0:=17000) Z Z (aq ?_)))
 refine jf [6,12,0,1] Z (ba (js Z (jx Z (aq ?_))))
 refine jf [19,6,12,0,1] Z (ar (Ent.freeze 19 (e':=[(19,_),(6,_),(0,_),(1,_)]) Z (.cons Z (.c (.box (cs:=Tm.cells ⟨7,[]⟩) Z (.cons .d (.cons .nils .nil)))) (fe [6,0,1] Z)) (aZ Z (.skip (aZ Z (bh Z (aZ Z (bh Z .nil))))))) ?_)
 refine ar (Ent.freeze 6 (e':=[(19,_),(6,_),(0,_),(1,_)]) Z (.cons Z (.keep Z) (.cons Z (.c (.box (cs:=Tm.cells (aR t w.vars).1) Z (aE Z))) (fe [0,1] Z))) (.skip (aZ Z (bh Z (aZ Z (bh Z .nil)))))) ?_
 refine an O Z Z Z Z (Hb (a:=⟨7,[]⟩) (m:=1) (b:=(aR t w.vars).1) (n:= -1) h1 h2 Ez (Small.of fo) (by decide) (by decide)) (ac Z) Z Z Z Z (B0:=21000) Z Z (aH Z (jf [22,21,6,0,1] Z (jl Z (aq ?_))))
 refine jo Z (aq ?_)
 refine js Z (jf [8,7,6,0,1] Z (ba (az Z (ab Z (jf [28,23,8,7,6,0,1] Z (aA 2 Z Z Z (fun hx=>ax hx Z (ax hx Z (AN.nil))) Z Z (av ((aG O Z Z Z Z Z).cast (v':=eB (((bk w t g).goal w (aR t w.vars).1).bad|| !(bH (aR t w.vars).1).2)) (congrArg eB GF)) Z (ab Z (jf [33,31,7,6,0,1] Z (jo Z (aq ?_)))))))))))
 refine jf [7,6,0,1] Z (jn (ak (aH Z (au O [500,501,17006,503] (bin:=[gR p fl frm (((bk w t g).goal w (aR t w.vars).1).flag (!(bH (aR t w.vars).1).2)) 1 2,ck (((bk w t g).goal w (aR t w.vars).1).flag (!(bH (aR t w.vars).1).2)).paths,cn (((bk w t g).goal w (aR t w.vars).1).flag (!(bH (aR t w.vars).1).2)).conds,hB w]) Z Z Z Z (xq (p:=p) (fl:=fl) (frm:=frm) (g:=(((bk w t g).goal w (aR t w.vars).1).flag (!(bH (aR t w.vars).1).2))) (w:=w) (t:=(bH (aR t w.vars).1).1) h1 h2 (by simp only[bk,Gs.flag,Gs.goal,cG,dL];omega)) Z Z Z Z Z Z (B0:=38000) Z Z (aq ?_)))))
 refine jf [7,6,0,1] Z (jn ?_)
 show _∧_
 refine⟨.inr Z,_,aa 38006 506 Z Z,_,Z,Z,Z⟩
theorem sg{w:Pw}{g:Gs}{fs:List Tm}{i:Nat}(h:i<fs.length):(fs.take (i+1)).foldl (bE w) g=bE w ((fs.take i).foldl (bE w) g) (fs.getD i default):=by
 rw[List.take_succ_eq_append_getElem h,List.foldl_append,aD h];rfl
theorem mK{w:Pw}: ∀{fs:List Tm} {g:Gs},(fs.foldl (bE w) g).conds.length=g.conds.length+fs.length
 | [],g=>rfl
 | t::fs,g=>by
  rw[List.foldl_cons,mK]
  simp only[bE,bk,Gs.goal,Gs.flag,cG,eH,List.length_nil];omega
def TsOk(fs:List Tm):Prop:= ∀t∈fs,t.ok=true∧t.xs.length≤4
theorem TsOk.get{fs:List Tm}(h:TsOk fs){i:Nat}(hi:i<fs.length):(fs.getD i default).ok=true∧(fs.getD i default).xs.length≤4:=by rw[aD hi];exact h _ (List.getElem_mem hi)
theorem DR{p fl:D}{to:Int}{fs:List Tm}(hw:CtxOk w.vars)(hv:w.vars.length=4)(hf:TsOk fs)(hg:g.conds.length+fs.length≤L)(hp:g.paths.length+1≤L):MQ h1 h2 126 [.c (.pt 0 0 0),.c (.pt 3 0 0),eI to,cb fs] (fH p fl frm g w) (bb (.tup []) (JM p fl frm (dP frm w to fs g) w)):=by
 refine MC.shift 500 Z (MC.keep [500,503,505,506] (bs:=[gR p fl frm (dP frm w to fs g) 505 506,hB w,ck (dP frm w to fs g).paths,cn (dP frm w to fs g).conds]) Z Z (jH 69 [500,501,502,503] h1 h2 Tryz.func126 Z fun O hF=>?_))
 refine b0 ?_
 have hpe:(fs.foldl (bE w) g).paths.length=g.paths.length:=congrArg List.length iJ
 refine af (ae (js Z (jn (ao (aw (X:=Nat) (fun i=>⟨[(0,.c (.pt 500 0 0)),(1,.c (.pt 503 0 0)),(2,eI to),(3,cb fs),(8,eI i)],[(500,gR p fl frm ((fs.take i).foldl (bE w) g) 501 902),(501,ck ((fs.take i).foldl (bE w) g).paths),(503,hB w),(902,cn ((fs.take i).foldl (bE w) g).conds)]⟩) (fun i=>i≤fs.length) (fun i=>fs.length-i) 0 (((am [500,501,503,502] (e':=[(0,_),(1,_),(2,_),(3,_),(8,_)]) Z Z ⟨Z,Z,Z,Z,Z,ap⟩ Z).trans (aa 502 902 Z Z)).trans (Ent.to ⟨Z,Z,Z,Z,Z,ap⟩ Z)) ?_ (fun i hi=>?_))))))
 exact cT _
 refine af (ae (ab Z (dh Z (js Z (jf [12,0,1,2,3,8] Z (jn (ah Z (fun z12=>?_) (fun z12=>?_))))))))
 refine aj (af (ao (ak (az Z (ab Z (jD Z Z (jf [21,18,17,16,15,12,0,1,2,3,8] Z ?_)))))))
 have hil:i<fs.length:=by have:=bK z12;omega
 have hfi:=hf.get hil
 have hci:=mK (w:=w) (fs:=fs.take i) (g:=g)
 rw[List.length_take,Nat.min_eq_left (by omega)]at hci
 refine au O [500,501,902,503] (bin:=[gR p fl frm ((fs.take i).foldl (bE w) g) 1 2,ck ((fs.take i).foldl (bE w) g).paths,cn ((fs.take i).foldl (bE w) g).conds,hB w]) Z Z Z Z (rR (p:=p) (fl:=fl) (frm:=frm) (g:=((fs.take i).foldl (bE w) g)) (w:=w) (t:=(fs.getD i default)) (ds:=Tm.cells (fs.getD i default)) (j:=0) h1 h2 Z hw hfi.1 (by omega)) Z Z Z Z Z Z (B0:=23000) Z Z (aq ?_)
 refine jf [22,16,15,12,0,1,2,3,8] Z (au O [500,501,902,503] (bin:=[gR p fl frm (bk w (fs.getD i default) ((fs.take i).foldl (bE w) g)) 1 2,ck (bk w (fs.getD i default) ((fs.take i).foldl (bE w) g)).paths,cn (bk w (fs.getD i default) ((fs.take i).foldl (bE w) g)).conds,hB w]) Z Z Z Z (xq (p:=p) (fl:=fl) (frm:=frm) (g:=bk w (fs.getD i default) ((fs.take i).foldl (bE w) g)) (w:=w) (t:=(aR (fs.getD i default) w.vars).1) h1 h2 (show((fs.take i).foldl (bE w) g).conds.length+1≤L by omega)) Z Z Z Z Z Z (B0:=24000) Z Z (aq ?_))
 refine jf [12,0,1,2,3,8] Z (jn (ak (js Z (ji Z (js Z (jf [8,12,0,1,2,3] Z (jn ?_)))))))
 refine⟨i+1,((am [500,501,503,24006] (e':=[(0,_),(1,_),(2,_),(3,_),(8,_)]) Z Z ⟨Z,Z,Z,Z,Z,ap⟩ Z).trans (aa 24006 902 Z Z)).trans (Ent.to ⟨Z,Z,Z,Z,Z,ap⟩ (by rw[sg (by omega)];rfl)),by omega,by omega⟩
 refine bg (af ?_)
 obtain rfl:i=fs.length:=by have:=cu z12;omega
 rw[List.take_length]
 refine rC [_,_,_,_,_,_,_,_,_,_,_,_,_,_,_,_,_,_,_,_,_,_,_,_,_,_,_,_,_,_,_] [pn [] 0 4,pn [] 0 3,pn [1] 0 3,pn [1,2] 0 3,pn [1,2,3] 0 3,pn [] 0 3,pn [5] 0 3,pn [5,6] 0 3,pn [5,6,7] 0 3,pn [] 0 3,aF,ag [10],ag [10,11],ag [10,11,12],pe [10,11,12,13] 0,pn [] 0 1,pn [15] 0 1,pn [15,16] 0 1,pn [15,16,17] 0 1,pe [10,11,12,13,14,15,16,17,18] 1,pn [] 0 2,pn [20] 0 2,pn [20,21] 0 2,pn [20,21,22] 0 2,pe [10,11,12,13,14,15,16,17,18,19,20,21,22,23] 2,pn [5,6,7,8,9,10,11,12,13,14,15,16,17,18,19,20,21,22,23,24] 3 3,pn [5,6,7,8,9,10,11,12,13,14,15,16,17,18,19,20,21,22,23,24,25] 3 3,pe [1,2,3,4,5,6,7,8,9,10,11,12,13,14,15,16,17,18,19,20,21,22,23,24,25,26] 3,pn [0,1,2,3,4,5,6,7,8,9,10,11,12,13,14,15,16,17,18,19,20,21,22,23,24,25,26,27] 4 4,pn [0,1,2,3,4,5,6,7,8,9,10,11,12,13,14,15,16,17,18,19,20,21,22,23,24,25,26,27,28] 4 4,pe [0,1,2,3,4,5,6,7,8,9,10,11,12,13,14,15,16,17,18,19,20,21,22,23,24,25,26,27,28,29] 4] [14,19,24,27,30] 26 50 (.row false 5 [Pth.cells (⟨frm,to,w.facts,w.vars,w.ev⟩:Pth)]) [_,_,_,_] [_,_] [[],[],[],[501],[]] (ai (kf Z Z Z (kf Z Z Z (kf Z Z Z (kf Z Z Z (kg Z Z Z))))) (ai (kf Z Z Z (kf Z Z Z (kf Z Z Z (kg Z Z Z)))) (ai (kf Z Z Z (kf Z Z Z (kf Z Z Z (kg Z Z Z)))) (ai (kf Z Z Z (kf Z Z Z (kf Z Z Z (kg Z Z Z)))) (ai (kf Z Z Z (kf Z Z Z (kf Z Z Z (kg Z Z Z)))) (ai (kf Z Z Z (kf Z Z Z (kf Z Z Z (kg Z Z Z)))) (ai (kf Z Z Z (kf Z Z Z (kf Z Z Z (kg Z Z Z)))) (ai (kf Z Z Z (kf Z Z Z (kf Z Z Z (kg Z Z Z)))) (ai (kf Z Z Z (kf Z Z Z (kf Z Z Z (kg Z Z Z)))) (ai (kf Z Z Z (kf Z Z Z (kf Z Z Z (kg Z Z Z)))) (kf Z Z Z (kf Z Z Z (kf Z Z Z (kf Z Z Z (ai (ai (aB (bR O (B0:=39000) Z Z Z Z (Dh (ts:=w.facts) h1 h2) (ac Z) Z Z Z Z Z) (bR O (B0:=39000) Z Z Z Z (Dh (ts:=w.facts) h1 h2) (ac Z) Z Z Z Z Z)) Z) (ai (kf Z Z Z (kg Z Z Z)) (ai (kf Z Z Z (kg Z Z Z)) (ai (kf Z Z Z (kg Z Z Z)) (ai (kf Z Z Z (kg Z Z Z)) (ai (ai (aB (bR O (B0:=44000) Z Z Z Z (Dh (ts:=w.vars) h1 h2) (ac Z) Z Z Z Z Z) (bR O (B0:=44000) Z Z Z Z (Dh (ts:=w.vars) h1 h2) (ac Z) Z Z Z Z Z)) Z) (ai (kf Z Z Z (kf Z Z Z (kg Z Z Z))) (ai (kf Z Z Z (kf Z Z Z (kg Z Z Z))) (ai (kf Z Z Z (kf Z Z Z (kg Z Z Z))) (ai (kf Z Z Z (kf Z Z Z (kg Z Z Z))) (ai (ai (aB (bR O (B0:=49000) Z Z Z Z (uf (xs:=w.ev) h1 h2) (ac Z) Z Z Z Z Z) (bR O (B0:=49000) Z Z Z Z (uf (xs:=w.ev) h1 h2) (ac Z) Z Z Z Z Z)) Z) (kf Z Z Z (ai (ai (aI (cQ O Z Z Z Z Z Z Z Z Z Z Z Z Z Z)) Z) (ai (ai (aB trivial (cp (own:=false) (xs:=(fs.foldl (bE w) g).paths.map Pth.cells) (ys:=[Pth.cells (⟨frm,to,w.facts,w.vars,w.ev⟩:Pth)]) (zs:=(((fs.foldl (bE w) g).paths++[(⟨frm,to,w.facts,w.vars,w.ev⟩:Pth)])).map Pth.cells) (n:=((fs.foldl (bE w) g).paths++[(⟨frm,to,w.facts,w.vars,w.ev⟩:Pth)]).length) O Z Z Z Z Z Z Z Z Z Z Z Z Z Z Z Z (.row Z (bQ _).symm) (.whole Z Z (.inr ⟨Z,Z⟩)) (by simp) Z (by simp;omega) (by simp;omega) (by simp) (by simp) Z)) Z) (ai (ai (aB trivial (V Z)) Z) (ai (ai (aB trivial (V Z)) Z) (ai (ai (aB trivial (aI (eS Z Z Z))) Z) trivial))))))))))))))))))))))))))))))) ?_
 refine jw [12,0,1,2,3,8] Z (b0 ?_)
 refine ak (az Z (ab Z (jf [59,54,12,0,1,2,3,8] Z (aA 6 Z Z Z (fun hx=>ax hx Z (ax hx Z (ax hx Z (ax hx Z (dD hx (eF O Z Z (by simp only[cG,dL];omega)) Z (ax hx Z (AN.nil))))))) Z Z (av ((aG O Z Z Z Z Z).cast (v':=eB ((fs.foldl (bE w) g).bad||decide (200<(fs.foldl (bE w) g).paths.length+1))) (congrArg eB (by rw[GF];exact congrArg ((fs.foldl (bE w) g).bad|| ·) (decide_eq_decide.2 (by simp;omega))))) Z (ab Z (jf [68,66,12,0,1,2,3,8] Z (jo Z (aq ?_)))))))))
 refine jf [12,0,1,2,3,8] Z (jn ?_)
 show _∧_
 refine⟨.inr Z,_,(aa 51 505 Z Z).trans (aa 902 506 Z Z),_,Z,Z,Z⟩
structure Fl where
  stmt:Int
  next:Int
  other:Int
  deriving Inhabited
abbrev Fl.cells(f:Fl):List D:=[.int .i64 f.stmt,.int .i64 f.next,.int .i64 f.other]
abbrev dS(fs:List Fl):D:=.slc 3 (fs.map Fl.cells)
def br(b:List Sm):Nat→Nat
  | 0=>0
  | k+1=>br b k+if(b.getD k default).kind=8 then 1 else 0
theorem gS{b:List Sm}: ∀{k:Nat},br b k≤k
 | 0=>da _
 | k+1=>by
  have:=gS (b:=b) (k:=k)
  rw[br];split<;>omega
inductive Pl(b:List Sm)(fl:List Fl):Int→List Fr→Prop
  | nil:Pl b fl (-1) []
  | lp {i:Nat} {k:Nat} {r:List Fr} (hi:i<fl.length) (hs:(fl.getD i default).stmt=(k:Nat)) (hk:k<b.length) (hb:(b.getD k default).kind=8):Pl b fl (i:Nat) (.lp (br b k)::r)
  | leaf {i k:Nat} {r:List Fr} (hi:i<fl.length) (hs:(fl.getD i default).stmt=(k:Nat)) (hk:k<b.length) (hb:bC (b.getD k default).kind=0) (h:Pl b fl (fl.getD i default).next r):Pl b fl (i:Nat) (.st (.node (b.getD k default) (k:Nat) [])::r)
  | seq {i:Int} {k:Nat} {x y:Tr} {r:List Fr} (hb:(b.getD k default).kind=1) (h:Pl b fl i (.st x:: .st y::r)):Pl b fl i (.st (.node (b.getD k default) (k:Nat) [x,y])::r)
  | cond {i k:Nat} {x y:Tr} {r:List Fr} (hi:i<fl.length) (hs:(fl.getD i default).stmt=(k:Nat)) (hk:k<b.length) (hb:(b.getD k default).kind=7) (h1:Pl b fl (fl.getD i default).next (.st x::r)) (h2:Pl b fl (fl.getD i default).other (.st y::r)):Pl b fl (i:Nat) (.st (.node (b.getD k default) (k:Nat) [x,y])::r)
  | loop {i k:Nat} {x:Tr} {r:List Fr} (hi:i<fl.length) (hs:(fl.getD i default).stmt=(k:Nat)) (hk:k<b.length) (hb:(b.getD k default).kind=8):Pl b fl (i:Nat) (.st (.node (b.getD k default) (k:Nat) [x])::r)

variable{pre post:List Tm}{b:List Sm}
theorem IA(hk:k≤b.length)(hb:b.length≤1000):MQ h1 h2 131 [ptr [fC pre,kI b,fC post],eI (k:Nat)] [] (Plain (eI (br b k:Nat))):=by
 refine aL ?_ Z
 refine jB 24 h1 h2 Tryz.func131 Z fun O hF=>?_
 refine ae (js Z (ba (js Z (jn (af (ae (js Z (jn (ao (aw (X:=Nat) (fun i=>⟨[(0,ptr [fC pre,kI b,fC post]),(1,eI (k:Nat)),(5,eI (br b i:Nat)),(6,eI i)],[]⟩) (fun i=>i≤k) (fun i=>k-i) 0 (Ent.env ⟨Z,Z,Z,Z,ap⟩) ?_ (fun i hi=>?_)))))))))))
 exact cT _
 refine af (ae (aH Z (jn (ah Z (fun z9=>?_) (fun z9=>?_)))))
 try simp only[bG]at z9
 refine aj (af (ao (ae (az Z (js Z ?_)))))
 have hn:=gS (b:=b) (k:=i)
 refine av (bf O Z Z Z Z Z Z Z Z (dO (by omega))) Z (aH Z (jn (ah Z (fun z20=>?_) (fun z20=>?_))))
 try simp only[bG]at z20
 refine ak (js Z (ji Z (js Z (jn (ak (js Z (ji Z (js Z (jn ?_)))))))))
 have hn:=gS (b:=b) (k:=i)
 refine⟨i+1,Ent.env ⟨Z,Z,by rw[br,if_pos z20];rfl,Z,ap⟩,by omega,by omega⟩
 try simp only[bG]at z20
 refine aj (ak (js Z (ji Z (js Z (jn ?_)))))
 refine⟨i+1,Ent.env ⟨Z,Z,by rw[br,if_neg z20];rfl,Z,ap⟩,by omega,by omega⟩
 try simp only[bG]at z9
 refine bg (ae (ab Z (jr ?_)))
 refine aJ Z ?_
 obtain rfl:i=k:=by omega
 rfl
abbrev pP(pre:List Tm)(b:List Sm)(post:List Tm):D:=.ptr [fC pre,kI b,fC post] 0
abbrev gH(p fl:D)(frm:Int)(g:Gs):List (Nat×B):=[(0,gR p fl frm g 1 2),(1,ck g.paths),(2,cn g.conds)]
abbrev kM(p fl:D)(frm:Int)(g:Gs):List (Nat×B):=[(0,gR p fl frm g 5 6),(5,ck g.paths),(6,cn g.conds)]
theorem WOk.ctx{m:Nat}{w:Pw}(h:WOk m w):CtxOk w.vars:=⟨h.ok,by have:=h.vars;omega⟩
theorem GP{α β:Type}[Inhabited α]{l:List α}{f:α→β}{n j:Nat}(h:n<l.length)(hj:j=n):(l.map f)[j]? = some (f (l.getD n default)):=by subst hj;simp[h]
theorem GJ{α β:Type}{l:List α}{f:α→β}{n j:Nat}{v:α}{ds:β}(hj:j=n)(hd:ds=f v):(l.map f).set j ds=(l.set n v).map f:=by subst hj;subst hd;rw[List.map_set]
variable{fl:List Fl}{first:Bool}
theorem yW{at_:Int}(hb:g.bad=true):MQ h1 h2 83 [.c (.pt 0 0 0),eI at_,hA w,eB first] (gH (pP pre b post) (dS fl) frm g) (bb (.tup []) (kM (pP pre b post) (dS fl) frm g)):=by
 refine MC.shift 500 Z (MC.keep [500,505,506] (bs:=[gR (pP pre b post) (dS fl) frm g 505 506,ck g.paths,cn g.conds]) Z Z (jH 206 [500,501,502] h1 h2 Tryz.func83 Z fun O hF=>?_))
 refine b0 ?_
 refine ae (jx Z (aq ?_))
 refine jn (af (ae (az Z (jn (ah Z (fun z19=>?_) (fun z19=>?_))))))
 refine ea ?_
 refine⟨.inl Z,_,(aa 501 505 Z Z).trans (aa 502 506 Z Z),_,Z,Z,Z⟩
 exact absurd z19 (by rw[hb];decide)
theorem yV(hb:g.bad=false)(hw:CtxOk w.vars)(hv:w.vars.length=4)(hf:TsOk post)(hg:g.conds.length+post.length≤L)(hp:g.paths.length+1≤L):MQ h1 h2 83 [.c (.pt 0 0 0),eI (-1),hA w,eB first] (gH (pP pre b post) (dS fl) frm g) (bb (.tup []) (kM (pP pre b post) (dS fl) frm (dP frm w (-1) post g))):=by
 refine MC.shift 500 Z (MC.keep [500,505,506] (bs:=[gR (pP pre b post) (dS fl) frm (dP frm w (-1) post g) 505 506,ck (dP frm w (-1) post g).paths,cn (dP frm w (-1) post g).conds]) Z Z (jH 206 [500,501,502] h1 h2 Tryz.func83 Z fun O hF=>?_))
 refine b0 ?_
 refine ae (jx Z (aq ?_))
 refine jn (af (ae (az Z (jn (ah Z (fun z19=>?_) (fun z19=>?_))))))
 exact absurd z19 (by rw[hb];decide)
 refine aj (af (ae (ab Z (jn (ah Z (fun z21=>?_) (fun z21=>?_))))))
 refine ae (az Z (az Z (au O [500,501,502,6] (bin:=[gR (pP pre b post) (dS fl) frm g 1 2,ck g.paths,cn g.conds,hB w]) Z Z Z Z (DR (p:=(pP pre b post)) (fl:=(dS fl)) (frm:=frm) (g:=g) (w:=w) (to:= -1) (fs:=post) h1 h2 hw hv hf hg hp) Z Z Z Z Z Z (B0:=31000) Z Z (aq ?_))))
 refine jr ?_
 refine⟨.inl Z,_,(aa 31005 505 Z Z).trans (aa 31006 506 Z Z),_,Z,Z,Z⟩
 exact absurd z21 (by decide)
variable{i:Nat}{nx ot:Int}
theorem rk{s:Sm}(hb:g.bad=false)(hi:i<fl.length)(he:fl.getD i default=⟨(k:Nat),nx,ot⟩)(hk:k<b.length)(hbs:b.getD k default=s)(hk8:s.kind=8)(hb1:b.length≤1000)(hw:CtxOk w.vars)(hv:w.vars.length=4)(hf:TsOk s.facts)(hg:g.conds.length+s.facts.length≤L)(hp:g.paths.length+1≤L):MQ h1 h2 83 [.c (.pt 0 0 0),eI (i:Nat),hA w,eB false] (gH (pP pre b post) (dS fl) frm g) (bb (.tup []) (kM (pP pre b post) (dS fl) frm (dP frm w (br b k:Nat) s.facts g))):=by
 refine MC.shift 500 Z (MC.keep [500,505,506] (bs:=[gR (pP pre b post) (dS fl) frm (dP frm w (br b k:Nat) s.facts g) 505 506,ck (dP frm w (br b k:Nat) s.facts g).paths,cn (dP frm w (br b k:Nat) s.facts g).conds]) Z Z (jH 206 [500,501,502] h1 h2 Tryz.func83 Z fun O hF=>?_))
 refine b0 ?_
 refine ae (jx Z (aq ?_))
 refine jn (af (ae (az Z (jn (ah Z (fun z19=>?_) (fun z19=>?_))))))
 exact absurd z19 (by rw[hb];decide)
 refine aj (af (ae (ab Z (jn (ah Z (fun z21=>?_) (fun z21=>?_))))))
 exact absurd (bK z21) (by omega)
 refine aj (ae (az Z (js Z (av ((bf O Z Z Z Z Z Z Z Z (dO hi)).cast (v':=ptr (Fl.cells ⟨(k:Nat),nx,ot⟩)) (by rw[he])) Z (js Z (jl Z (aq ?_)))))))
 refine jo Z (aq ?_)
 refine jn (af (fZ [_,_,_,_,_,_,_,_,_,_,_] [aF,ag [0],ag [0,1],ag [0,1,2],ag (rg 0 4),ag (rg 0 5),ag (rg 0 6),aF,ag [7],ag (rg 0 9),ag (rg 0 10)] [] [_] (cw Z (cw Z (kc Z (ai ((bf O Z Z Z Z Z Z Z Z (dO hk)).cast (v':=ptr (Sm.cells s)) (by rw[hbs])) (kc Z trivial))))) ?_))
 refine jw [9,8,37,6,0,1,2,3] Z (b0 ?_)
 refine af (ae (az Z (jn (ao (ae (ab Z (jn (ah Z (fun z52=>?_) (fun z52=>?_)))))))))
 exact absurd (bK z52) (by omega)
 refine ae (ab Z (jn (ah Z (fun z71=>?_) (fun z71=>?_))))
 exact absurd (bK z71) (by omega)
 refine ae (ab Z (jn (ah Z (fun z110=>?_) (fun z110=>?_))))
 exact absurd (bK z110) (by omega)
 refine ae (ab Z (jn (ah Z (fun z117=>?_) (fun z117=>?_))))
 exact absurd (bK z117) (by omega)
 refine ae (ab Z (jn (ah Z (fun z129=>?_) (fun z129=>?_))))
 exact absurd (bK z129) (by omega)
 refine af (ae (ab Z (jn (ah Z (fun z142=>?_) (fun z142=>?_)))))
 exact absurd (bK z142) (by omega)
 refine ak (ab Z (jn (ah Z (fun z142=>?_) (fun z142=>?_))))
 refine af (ae (az Z (ab Z (aA 2 Z Z Z (fun hx=>ax hx Z (ax hx Z (AN.nil))) Z Z (av (ay O Z Z Z Z Z) Z (jn (ah Z (fun z153=>?_) (fun z153=>?_))))))))
 refine af (jw [144,53,51,9,8,37,6,0,1,2] Z (kJ [_,_,_,_,_,_,_,_,_,_,_,_,_] [pn [] 0 1,aF,ag [1],ag [1,2],ag [1,2,3],aF,ag [5],pe (rg 1 6) 0,pn [] 0 1,pn [8] 0 1,pn [8,9] 0 1,pn [8,9,10] 0 1,pe (rg 0 12) 1] [7,12] [_,_,_] [[],[501,502]] (ai (ka Z Z (kw Z Z)) (ka Z Z (ka Z Z (ka Z Z (ka Z Z (ka Z Z (ka Z Z (ai (ai (aI (bv O (B0:=162000) Z Z Z Z (IA (pre:=pre) (post:=post) (b:=b) (k:=k) h1 h2 (by omega) hb1) (ac Z) Z Z Z Z Z)) Z) (ai (ka Z Z (kw Z Z)) (ai (ka Z Z (kw Z Z)) (ai (ka Z Z (kw Z Z)) (ai (ka Z Z (kw Z Z)) (ai (ai (cF O [500,501,502,6] [501,502] (bin:=[gR (pP pre b post) (dS fl) frm g 1 2,ck g.paths,cn g.conds,hB w]) Z Z Z Z (DR (p:=(pP pre b post)) (fl:=(dS fl)) (frm:=frm) (g:=g) (w:=w) (to:=(br b k:Nat)) (fs:=s.facts) h1 h2 hw hv hf hg hp) Z Z Z Z Z (B0:=167000) Z Z Z Z Z Z Z) Z) trivial))))))))))))) ?_))
 refine jw [144,53,51,9,8,37,6,0,1,2] Z (b0 ?_)
 refine ea ?_
 refine⟨.inl Z,_,(aa 167005 505 Z Z).trans (aa 167006 506 Z Z),_,Z,Z,Z⟩
 exact absurd z153 (by rw[hk8];decide)
 exact absurd (cu z142) (by omega)
theorem ur{la:dM}{E:Pe}{frm:Int}{n:Nat}{r:List Fr}{w u:Pw}{g:Gs}(h:u.long=w.long):(fi la E frm n r w (g.flag w.long)).flag u.long=fi la E frm n r w (g.flag w.long):=by
 rw[h]
 cases hl:w.long with
 | false=>simp[Gs.flag]
 | true=>rw[de (by simp[Gs.flag])];simp[Gs.flag]
variable{g4:Gs}
theorem BG{s:Sm}(hb:g.bad=false)(hi:i<fl.length)(he:fl.getD i default=⟨(k:Nat),nx,ot⟩)(hk:k<b.length)(hbs:b.getD k default=s)(hkk:s.kind=7)(hw:CtxOk w.vars)(hv:w.vars.length=4)(hs:s.sum.ok=true∧s.sum.xs.length≤4)(hl:w.facts.length≤1000){g3:Gs}(ih1:MQ h1 h2 83 [.c (.pt 0 0 0),eI nx,hA (w.fact (aR s.sum w.vars).1),eB false] (gH (pP pre b post) (dS fl) frm (((bk w s.sum g).flag (!(aX (aR s.sum w.vars).1).2)).flag (w.fact (aR s.sum w.vars).1).long)) (bb (.tup []) (kM (pP pre b post) (dS fl) frm g3)))(ih2:MQ h1 h2 83 [.c (.pt 0 0 0),eI ot,hA (w.fact (aX (aR s.sum w.vars).1).1),eB false] (gH (pP pre b post) (dS fl) frm (g3.flag (w.fact (aX (aR s.sum w.vars).1).1).long)) (bb (.tup []) (kM (pP pre b post) (dS fl) frm g4))):MQ h1 h2 83 [.c (.pt 0 0 0),eI (i:Nat),hA w,eB false] (gH (pP pre b post) (dS fl) frm g) (bb (.tup []) (kM (pP pre b post) (dS fl) frm g4)):=by
 refine MC.shift 500 Z (MC.keep [500,505,506] (bs:=[gR (pP pre b post) (dS fl) frm g4 505 506,ck g4.paths,cn g4.conds]) Z Z (jH 206 [500,501,502] h1 h2 Tryz.func83 Z fun O hF=>?_))
 refine b0 ?_
 refine ae (jx Z (aq ?_))
 refine jn (af (ae (az Z (jf [19,6,0,1,2,3] Z (jn (ah Z (fun z19=>?_) (fun z19=>?_)))))))
 exact absurd z19 (by rw[hb];decide)
 refine aj (af (ae (ab Z (jf [21,6,0,1,2,3] Z (jn (ah Z (fun z21=>?_) (fun z21=>?_)))))))
 exact absurd (bK z21) (by omega)
 refine aj (ae (az Z (js Z (av ((bf O Z Z Z Z Z Z Z Z (dO hi)).cast (v':=ptr (Fl.cells ⟨(k:Nat),nx,ot⟩)) (by rw[he])) Z (js Z (jf [37,6,0,1,2,3] Z (jl Z (aq ?_))))))))
 refine jo Z (aq ?_)
 refine jn (af (fZ [_,_,_,_,_,_,_,_,_,_,_] [aF,ag [0],ag [0,1],ag [0,1,2],ag (rg 0 4),ag (rg 0 5),ag (rg 0 6),aF,ag [7],ag (rg 0 9),ag (rg 0 10)] [] [_] (cw Z (cw Z (kc Z (ai ((bf O Z Z Z Z Z Z Z Z (dO hk)).cast (v':=ptr (Sm.cells s)) (by rw[hbs])) (kc Z trivial))))) ?_))
 refine jw [9,8,37,6,0,1,2,3] Z (b0 ?_)
 refine af (ae (az Z (jf [51,9,8,37,6,0,1,2,3] Z (jn (ao (ae (ab Z (jn (ah Z (fun z52=>?_) (fun z52=>?_))))))))))
 exact absurd (bK z52) (by omega)
 refine ae (ab Z (jf [71,53,51,9,8,37,6,0,1,2,3] Z (jn (ah Z (fun z71=>?_) (fun z71=>?_)))))
 exact absurd (bK z71) (by omega)
 refine ae (ab Z (jf [110,53,51,9,8,37,6,0,1,2,3] Z (jn (ah Z (fun z110=>?_) (fun z110=>?_)))))
 exact absurd (bK z110) (by omega)
 refine ae (ab Z (jf [117,53,51,9,8,37,6,0,1,2,3] Z (jn (ah Z (fun z117=>?_) (fun z117=>?_)))))
 exact absurd (bK z117) (by omega)
 refine ae (ab Z (jf [129,53,51,9,8,37,6,0,1,2,3] Z (jn (ah Z (fun z129=>?_) (fun z129=>?_)))))
 exact absurd (bK z129) (by omega)
 refine af (ae (ab Z (jf [142,53,51,9,8,37,6,0,1,2,3] Z (jn (ah Z (fun z142=>?_) (fun z142=>?_))))))
 refine aj (ah Z (fun z142=>?_) (fun z142=>?_))
 refine af (ae (az Z (ab Z (jf [150,53,51,9,8,37,6,0,1,2,3] Z (aA 2 Z Z Z (fun hx=>ax hx Z (ax hx Z (AN.nil))) Z Z (av (ay O Z Z Z Z Z) Z (jf [153,53,51,9,8,37,6,0,1,2] Z (jn (ah Z (fun z153=>?_) (fun z153=>?_))))))))))
 exact absurd z153 (by rw[hkk];decide)
 refine aj (ae (az Z (jf [170,167,53,51,9,8,37,6,0,1,2] Z (au O [500,501,502,6] (bin:=[gR (pP pre b post) (dS fl) frm g 1 2,ck g.paths,cn g.conds,hB w]) Z Z Z Z (rR (p:=(pP pre b post)) (fl:=(dS fl)) (frm:=frm) (g:=g) (w:=w) (t:=s.sum) (ds:=Sm.cells s) (j:=3) h1 h2 Z hw hs.1 (by omega)) Z Z Z Z Z Z (B0:=172000) Z Z (aq ?_)))))
 refine jf [171,53,51,9,8,37,6,0,1,2] Z (jl Z (aq ?_))
 refine jo Z (aq ?_)
 refine ba (ar (Ent.freeze 13 (e':=[(13,_),(0,_),(6,_),(8,_)]) Z (.cons Z (.c (.box (cs:=Tm.cells (aR s.sum w.vars).1) Z (aE Z))) (fe [0,6,8] Z)) (aZ Z (.skip (aZ Z (bh Z (bh Z (aZ Z .nil))))))) ?_)
 refine an O Z Z Z Z (zD (t:=(aR s.sum w.vars).1) h1 h2 (Small.of fo)) (ac Z) Z Z Z Z (B0:=174000) Z Z (aH Z (jf [175,174,13,0,6,8] Z (jl Z (aq ?_))))
 refine jo Z (aq ?_)
 refine js Z (jf [15,14,13,0,6,8] Z (ba (az Z (ab Z (jf [181,176,15,14,13,0,6,8] Z (aA 2 Z Z Z (fun hx=>ax hx Z (ax hx Z (AN.nil))) Z Z (av ((aG O Z Z Z Z Z).cast (v':=eB ((bk w s.sum g).bad|| !(aX (aR s.sum w.vars).1).2)) (congrArg eB GF)) Z (ab Z (jf [186,184,14,13,0,6,8] Z (jo Z (aq ?_)))))))))))
 refine jf [14,13,0,6,8] Z (jn (af (kJ [_,_,_,_,_,_,_] [pn [] 0 1,pn [] 0 1,pn [1] 0 1,aF,aF,pe [3,4] 0,pe (rg 0 6) 1] [5,6] [_,_,_] [[],[501,502]] (ai (ka Z Z (kw Z Z)) (ai (ka Z Z (kw Z Z)) (ai (ka Z Z (kw Z Z)) (ka Z Z (ka Z Z (ai (ai (aI (ct O [500,501,502,6] (bin:=[gR (pP pre b post) (dS fl) frm ((bk w s.sum g).flag (!(aX (aR s.sum w.vars).1).2)) 1 2,ck ((bk w s.sum g).flag (!(aX (aR s.sum w.vars).1).2)).paths,cn ((bk w s.sum g).flag (!(aX (aR s.sum w.vars).1).2)).conds,hB w]) Z Z Z Z (ug (p:=(pP pre b post)) (fl:=(dS fl)) (frm:=frm) (g:=((bk w s.sum g).flag (!(aX (aR s.sum w.vars).1).2))) (w:=w) (t:=(aR s.sum w.vars).1) h1 h2 hl) Z Z Z Z Z (B0:=193000) Z Z Z Z Z Z)) Z) (ai (ai (cF O [500,501,502] [501,502] (bin:=[gR (pP pre b post) (dS fl) frm (((bk w s.sum g).flag (!(aX (aR s.sum w.vars).1).2)).flag (w.fact (aR s.sum w.vars).1).long) 1 2,ck (((bk w s.sum g).flag (!(aX (aR s.sum w.vars).1).2)).flag (w.fact (aR s.sum w.vars).1).long).paths,cn (((bk w s.sum g).flag (!(aX (aR s.sum w.vars).1).2)).flag (w.fact (aR s.sum w.vars).1).long).conds]) Z Z Z Z (ih1) Z Z Z Z Z (B0:=194000) Z Z Z Z Z Z Z) Z) trivial))))))) ?_)))
 refine jw [14,13,0,6,8] Z (b0 ?_)
 refine af (kJ [_,_,_,_,_,_,_] [pn [] 0 1,pn [] 0 1,pn [1] 0 1,aF,aF,pe [3,4] 0,pe (rg 0 6) 1] [5,6] [_,_,_] [[],[194005,194006]] (ai (ka Z Z (kw Z Z)) (ai (ka Z Z (kw Z Z)) (ai (ka Z Z (kw Z Z)) (ka Z Z (ka Z Z (ai (ai (aI (ct O [500,194005,194006,6] (bin:=[gR (pP pre b post) (dS fl) frm g3 1 2,ck g3.paths,cn g3.conds,hB w]) Z Z Z Z (ug (p:=(pP pre b post)) (fl:=(dS fl)) (frm:=frm) (g:=g3) (w:=w) (t:=(aX (aR s.sum w.vars).1).1) h1 h2 hl) Z Z Z Z Z (B0:=200000) Z Z Z Z Z Z)) Z) (ai (ai (cF O [500,194005,194006] [194005,194006] (bin:=[gR (pP pre b post) (dS fl) frm (g3.flag (w.fact (aX (aR s.sum w.vars).1).1).long) 1 2,ck (g3.flag (w.fact (aX (aR s.sum w.vars).1).1).long).paths,cn (g3.flag (w.fact (aX (aR s.sum w.vars).1).1).long).conds]) Z Z Z Z (ih2) Z Z Z Z Z (B0:=201000) Z Z Z Z Z Z Z) Z) trivial))))))) ?_)
 refine jw [14,13,0,6,8] Z (b0 ?_)
 refine ea ?_
 refine⟨.inl Z,_,(aa 201005 505 Z Z).trans (aa 201006 506 Z Z),_,Z,Z,Z⟩
 exact absurd (cu z142) (by omega)
 exact absurd (cu z142) (by omega)
theorem vt{s:Sm}(hb:g.bad=false)(hi:i<fl.length)(he:fl.getD i default=⟨(k:Nat),nx,ot⟩)(hk:k<b.length)(hbs:b.getD k default=s)(hkk:s.kind=8)(hw:CtxOk w.vars)(hv:w.vars.length=4)(hs:s.sum.ok=true∧s.sum.xs.length≤4)(hl:w.facts.length≤1000){g3:Gs}(ih1:MQ h1 h2 83 [.c (.pt 0 0 0),eI nx,hA (w.fact (aR s.sum w.vars).1),eB false] (gH (pP pre b post) (dS fl) frm (((bk w s.sum g).flag (!(aX (aR s.sum w.vars).1).2)).flag (w.fact (aR s.sum w.vars).1).long)) (bb (.tup []) (kM (pP pre b post) (dS fl) frm g3)))(ih2:MQ h1 h2 83 [.c (.pt 0 0 0),eI ot,hA (w.fact (aX (aR s.sum w.vars).1).1),eB false] (gH (pP pre b post) (dS fl) frm (g3.flag (w.fact (aX (aR s.sum w.vars).1).1).long)) (bb (.tup []) (kM (pP pre b post) (dS fl) frm g4))):MQ h1 h2 83 [.c (.pt 0 0 0),eI (i:Nat),hA w,eB true] (gH (pP pre b post) (dS fl) frm g) (bb (.tup []) (kM (pP pre b post) (dS fl) frm g4)):=by
 refine MC.shift 500 Z (MC.keep [500,505,506] (bs:=[gR (pP pre b post) (dS fl) frm g4 505 506,ck g4.paths,cn g4.conds]) Z Z (jH 206 [500,501,502] h1 h2 Tryz.func83 Z fun O hF=>?_))
 refine b0 ?_
 refine ae (jx Z (aq ?_))
 refine jn (af (ae (az Z (jf [19,6,0,1,2,3] Z (jn (ah Z (fun z19=>?_) (fun z19=>?_)))))))
 exact absurd z19 (by rw[hb];decide)
 refine aj (af (ae (ab Z (jf [21,6,0,1,2,3] Z (jn (ah Z (fun z21=>?_) (fun z21=>?_)))))))
 exact absurd (bK z21) (by omega)
 refine aj (ae (az Z (js Z (av ((bf O Z Z Z Z Z Z Z Z (dO hi)).cast (v':=ptr (Fl.cells ⟨(k:Nat),nx,ot⟩)) (by rw[he])) Z (js Z (jf [37,6,0,1,2,3] Z (jl Z (aq ?_))))))))
 refine jo Z (aq ?_)
 refine jn (af (fZ [_,_,_,_,_,_,_,_,_,_,_] [aF,ag [0],ag [0,1],ag [0,1,2],ag (rg 0 4),ag (rg 0 5),ag (rg 0 6),aF,ag [7],ag (rg 0 9),ag (rg 0 10)] [] [_] (cw Z (cw Z (kc Z (ai ((bf O Z Z Z Z Z Z Z Z (dO hk)).cast (v':=ptr (Sm.cells s)) (by rw[hbs])) (kc Z trivial))))) ?_))
 refine jw [9,8,37,6,0,1,2,3] Z (b0 ?_)
 refine af (ae (az Z (jf [51,9,8,37,6,0,1,2,3] Z (jn (ao (ae (ab Z (jn (ah Z (fun z52=>?_) (fun z52=>?_))))))))))
 exact absurd (bK z52) (by omega)
 refine ae (ab Z (jf [71,53,51,9,8,37,6,0,1,2,3] Z (jn (ah Z (fun z71=>?_) (fun z71=>?_)))))
 exact absurd (bK z71) (by omega)
 refine ae (ab Z (jf [110,53,51,9,8,37,6,0,1,2,3] Z (jn (ah Z (fun z110=>?_) (fun z110=>?_)))))
 exact absurd (bK z110) (by omega)
 refine ae (ab Z (jf [117,53,51,9,8,37,6,0,1,2,3] Z (jn (ah Z (fun z117=>?_) (fun z117=>?_)))))
 exact absurd (bK z117) (by omega)
 refine ae (ab Z (jf [129,53,51,9,8,37,6,0,1,2,3] Z (jn (ah Z (fun z129=>?_) (fun z129=>?_)))))
 exact absurd (bK z129) (by omega)
 refine af (ae (ab Z (jf [142,53,51,9,8,37,6,0,1,2,3] Z (jn (ah Z (fun z142=>?_) (fun z142=>?_))))))
 exact absurd (bK z142) (by omega)
 refine ak (ab Z (jn (ah Z (fun z142=>?_) (fun z142=>?_))))
 refine af (ae (az Z (ab Z (jf [150,144,53,51,9,8,37,6,0,1,2,3] Z (aA 2 Z Z Z (fun hx=>ax hx Z (ax hx Z (AN.nil))) Z Z (av (ay O Z Z Z Z Z) Z (jf [153,144,53,51,9,8,37,6,0,1,2] Z (jn (ah Z (fun z153=>?_) (fun z153=>?_))))))))))
 exact absurd z153 (by rw[hkk];decide)
 refine aj (ae (az Z (jf [170,167,144,53,51,9,8,37,6,0,1,2] Z (au O [500,501,502,6] (bin:=[gR (pP pre b post) (dS fl) frm g 1 2,ck g.paths,cn g.conds,hB w]) Z Z Z Z (rR (p:=(pP pre b post)) (fl:=(dS fl)) (frm:=frm) (g:=g) (w:=w) (t:=s.sum) (ds:=Sm.cells s) (j:=3) h1 h2 Z hw hs.1 (by omega)) Z Z Z Z Z Z (B0:=172000) Z Z (aq ?_)))))
 refine jf [171,144,53,51,9,8,37,6,0,1,2] Z (jl Z (aq ?_))
 refine jo Z (aq ?_)
 refine ba (ar (Ent.freeze 13 (e':=[(13,_),(0,_),(6,_),(8,_)]) Z (.cons Z (.c (.box (cs:=Tm.cells (aR s.sum w.vars).1) Z (aE Z))) (fe [0,6,8] Z)) (aZ Z (.skip (aZ Z (bh Z (bh Z (aZ Z .nil))))))) ?_)
 refine an O Z Z Z Z (zD (t:=(aR s.sum w.vars).1) h1 h2 (Small.of fo)) (ac Z) Z Z Z Z (B0:=174000) Z Z (aH Z (jf [175,174,13,0,6,8] Z (jl Z (aq ?_))))
 refine jo Z (aq ?_)
 refine js Z (jf [15,14,13,0,6,8] Z (ba (az Z (ab Z (jf [181,176,15,14,13,0,6,8] Z (aA 2 Z Z Z (fun hx=>ax hx Z (ax hx Z (AN.nil))) Z Z (av ((aG O Z Z Z Z Z).cast (v':=eB ((bk w s.sum g).bad|| !(aX (aR s.sum w.vars).1).2)) (congrArg eB GF)) Z (ab Z (jf [186,184,14,13,0,6,8] Z (jo Z (aq ?_)))))))))))
 refine jf [14,13,0,6,8] Z (jn (af (kJ [_,_,_,_,_,_,_] [pn [] 0 1,pn [] 0 1,pn [1] 0 1,aF,aF,pe [3,4] 0,pe (rg 0 6) 1] [5,6] [_,_,_] [[],[501,502]] (ai (ka Z Z (kw Z Z)) (ai (ka Z Z (kw Z Z)) (ai (ka Z Z (kw Z Z)) (ka Z Z (ka Z Z (ai (ai (aI (ct O [500,501,502,6] (bin:=[gR (pP pre b post) (dS fl) frm ((bk w s.sum g).flag (!(aX (aR s.sum w.vars).1).2)) 1 2,ck ((bk w s.sum g).flag (!(aX (aR s.sum w.vars).1).2)).paths,cn ((bk w s.sum g).flag (!(aX (aR s.sum w.vars).1).2)).conds,hB w]) Z Z Z Z (ug (p:=(pP pre b post)) (fl:=(dS fl)) (frm:=frm) (g:=((bk w s.sum g).flag (!(aX (aR s.sum w.vars).1).2))) (w:=w) (t:=(aR s.sum w.vars).1) h1 h2 hl) Z Z Z Z Z (B0:=193000) Z Z Z Z Z Z)) Z) (ai (ai (cF O [500,501,502] [501,502] (bin:=[gR (pP pre b post) (dS fl) frm (((bk w s.sum g).flag (!(aX (aR s.sum w.vars).1).2)).flag (w.fact (aR s.sum w.vars).1).long) 1 2,ck (((bk w s.sum g).flag (!(aX (aR s.sum w.vars).1).2)).flag (w.fact (aR s.sum w.vars).1).long).paths,cn (((bk w s.sum g).flag (!(aX (aR s.sum w.vars).1).2)).flag (w.fact (aR s.sum w.vars).1).long).conds]) Z Z Z Z (ih1) Z Z Z Z Z (B0:=194000) Z Z Z Z Z Z Z) Z) trivial))))))) ?_)))
 refine jw [14,13,0,6,8] Z (b0 ?_)
 refine af (kJ [_,_,_,_,_,_,_] [pn [] 0 1,pn [] 0 1,pn [1] 0 1,aF,aF,pe [3,4] 0,pe (rg 0 6) 1] [5,6] [_,_,_] [[],[194005,194006]] (ai (ka Z Z (kw Z Z)) (ai (ka Z Z (kw Z Z)) (ai (ka Z Z (kw Z Z)) (ka Z Z (ka Z Z (ai (ai (aI (ct O [500,194005,194006,6] (bin:=[gR (pP pre b post) (dS fl) frm g3 1 2,ck g3.paths,cn g3.conds,hB w]) Z Z Z Z (ug (p:=(pP pre b post)) (fl:=(dS fl)) (frm:=frm) (g:=g3) (w:=w) (t:=(aX (aR s.sum w.vars).1).1) h1 h2 hl) Z Z Z Z Z (B0:=200000) Z Z Z Z Z Z)) Z) (ai (ai (cF O [500,194005,194006] [194005,194006] (bin:=[gR (pP pre b post) (dS fl) frm (g3.flag (w.fact (aX (aR s.sum w.vars).1).1).long) 1 2,ck (g3.flag (w.fact (aX (aR s.sum w.vars).1).1).long).paths,cn (g3.flag (w.fact (aX (aR s.sum w.vars).1).1).long).conds]) Z Z Z Z (ih2) Z Z Z Z Z (B0:=201000) Z Z Z Z Z Z Z) Z) trivial))))))) ?_)
 refine jw [14,13,0,6,8] Z (b0 ?_)
 refine ea ?_
 refine⟨.inl Z,_,(aa 201005 505 Z Z).trans (aa 201006 506 Z Z),_,Z,Z,Z⟩
 exact absurd (cu z142) (by omega)
theorem wO{s:Sm}(hb:g.bad=false)(hi:i<fl.length)(he:fl.getD i default=⟨(k:Nat),nx,ot⟩)(hk:k<b.length)(hbs:b.getD k default=s)(hv:w.vars.length=4)(hw:CtxOk w.vars)(hsv:s.kind=2∨s.kind=3→0≤s.var∧s.var≤3)(hs:s.sum.ok=true∧s.sum.xs.length≤4)(hx:s.index.ok=true∧s.index.xs.length≤4)(hl:w.facts.length≤1000)(hle:w.ev.length≤1000)(hsy:w.sym≤10)(hg:g.conds.length+2≤L)(hkl:s.kind≠7∧s.kind≠8)(hs3:s.kind=3→w.sym<10)(ih:MQ h1 h2 83 [.c (.pt 0 0 0),eI nx,hA (cd bH s w g).1,eB false] (gH (pP pre b post) (dS fl) frm (cd bH s w g).2) (bb (.tup []) (kM (pP pre b post) (dS fl) frm g4))):MQ h1 h2 83 [.c (.pt 0 0 0),eI (i:Nat),hA w,eB first] (gH (pP pre b post) (dS fl) frm g) (bb (.tup []) (kM (pP pre b post) (dS fl) frm g4)):=by
 refine MC.shift 500 Z (MC.keep [500,505,506] (bs:=[gR (pP pre b post) (dS fl) frm g4 505 506,ck g4.paths,cn g4.conds]) Z Z (jH 206 [500,501,502] h1 h2 Tryz.func83 Z fun O hF=>?_))
 refine b0 ?_
 refine ae (jx Z (aq ?_))
 refine jn (af (ae (az Z (jn (ah Z (fun z19=>?_) (fun z19=>?_))))))
 exact absurd z19 (by rw[hb];decide)
 refine aj (af (ae (ab Z (jn (ah Z (fun z21=>?_) (fun z21=>?_))))))
 exact absurd (bK z21) (by omega)
 refine aj (ae (az Z (js Z (av ((bf O Z Z Z Z Z Z Z Z (dO hi)).cast (v':=ptr (Fl.cells ⟨(k:Nat),nx,ot⟩)) (by rw[he])) Z (js Z (jl Z (aq ?_)))))))
 refine jo Z (aq ?_)
 refine jn (af (fZ [_,_,_,_,_,_,_,_,_,_,_] [aF,ag [0],ag [0,1],ag [0,1,2],ag (rg 0 4),ag (rg 0 5),ag (rg 0 6),aF,ag [7],ag (rg 0 9),ag (rg 0 10)] [] [_] (cw Z (cw Z (kc Z (ai ((bf O Z Z Z Z Z Z Z Z (dO hk)).cast (v':=ptr (Sm.cells s)) (by rw[hbs])) (kc Z trivial))))) ?_))
 refine jw [9,8,37,6,0,1,2,3] Z (b0 ?_)
 refine af (ae (az Z (jn ?_)))
 obtain⟨d,ed⟩: ∃d,d=cd bH s w g:=⟨_,rfl⟩
 rw[←ed]at ih
 refine nb ⟨[(0,.c (.pt 500 0 0)),(6,.c (.pt 6 0 0)),(8,.c (.pt 8 0 0))],[(6,hB d.1),(8,.box [.d (.int .i64 (k:Nat)),.d (.int .i64 nx),.d (.int .i64 ot)]),(500,gR (pP pre b post) (dS fl) frm d.2 901 902),(901,ck d.2.paths),(902,cn d.2.conds)]⟩ ?_ ?_
 refine ao (ae (ab Z (jn (ah Z (fun z52=>?_) (fun z52=>?_)))))
 refine ae (az Z ?_)
 have hsv2:=hsv (.inl (bK z52))
 refine au O [500,501,502,6] (bin:=[gR (pP pre b post) (dS fl) frm g 1 2,ck g.paths,cn g.conds,hB w]) Z Z Z Z (rR (p:=(pP pre b post)) (fl:=(dS fl)) (frm:=frm) (g:=g) (w:=w) (t:=s.sum) (ds:=Sm.cells s) (j:=3) h1 h2 Z hw hs.1 (by omega)) Z Z Z Z Z Z (B0:=59000) Z Z (aq ?_)
 refine jl Z (aq ?_)
 refine jo Z (aq ?_)
 refine ba (ab Z (iM O (B0:=62000) Z Z Z Z (sW (ts:=w.vars) h1 h2) (ac Z) Z Z Z Z Z (aq ?_)))
 refine js Z (jo Z (aq ?_))
 refine jn (fZ [_,_,_,_,_,_,_,_,_] [aF,ag [0],aF,ag [2],ag [2,3],ag [2,3,4],aF,ag (rg 0 7),pe (rg 0 8) 0] [8] [_,_] (cw Z (kc Z (kc Z (kc Z (ai (vI Z Z) (ai (cR (ex:=Tm.cells (w.vars.getD s.var.toNat default)) (xs':=(w.vars.set s.var.toNat (aR s.sum w.vars).1).map Tm.cells) O Z Z Z Z Z Z Z Z Z Z Z Z Z Z Z (GP (by omega) (by omega)) (GJ (v:=(aR s.sum w.vars).1) (by omega) Z) Z) trivial)))))) ?_)
 rw[ed,cd,if_pos (bK z52)]
 exact⟨Z,((((am [6,8,500,501,502,62000] (e':=[(0,_),(6,_),(8,_)]) Z Z ⟨Z,Z,Z,ap⟩ Z).trans (Ent.freeze 62000 (e':=[(0,_),(6,_),(8,_)]) Z (fe [0,6,8] Z) (.cons Z (.box (.cons (.row Z (by simp[hv])) (fk Z))) (aZ Z (aZ Z (bh Z (bh Z (.skip .nil)))))))).trans (aa 501 901 Z Z)).trans (aa 502 902 Z Z)).trans (Ent.to ⟨Z,Z,Z,ap⟩ Z)⟩
 refine ae (ab Z (jn (ah Z (fun z71=>?_) (fun z71=>?_))))
 refine ae (az Z ?_)
 have hsv2:=hsv (.inr (bK z71))
 have hsy3:=hs3 (bK z71)
 refine au O [500,501,502,6] (bin:=[gR (pP pre b post) (dS fl) frm g 1 2,ck g.paths,cn g.conds,hB w]) Z Z Z Z (zZ (p:=(pP pre b post)) (fl:=(dS fl)) (frm:=frm) (g:=g) (w:=w) (t:=s.index) (ds:=Sm.cells s) (j:=5) h1 h2 Z hw hx.1 (by omega) hg) Z Z Z Z Z Z (B0:=78000) Z Z (aq ?_)
 refine jn (af (ae (aH Z (jn (ah Z (fun z80=>?_) (fun z80=>?_))))))
 exact absurd (bK z80) (by have:=hs3 (bK z71);omega)
 refine aj (ae (ab Z (ji Z (aU (gn O Z Z Z Z Z Z Z Z Z (by first|omega|(simp at *;omega)) (by first|omega|(simp at *;omega)) (by first|omega|(simp at *;omega)) (by first|omega|(dsimp only;omega)|(simp only[bG]at *;omega)) (by first|omega|(simp at *;omega)) Z Z Z) Z (aq ?_)))))
 refine js Z (jl Z (aq ?_))
 refine jo Z (aq ?_)
 refine ba (az Z (dv Z Z (aU (ca (ex:=[.int .i64 0]) (xs':=((List.replicate w.sym 0++[1]:List Int)).map (fun n=>[D.int .i64 n])) O Z Z Z Z Z Z Z Z Z Z Z Z Z Z pC pA) Z (aq ?_))))
 refine ba (ar (Ent.freeze 87 (e':=[(0,_),(6,_),(8,_),(9,_),(11,_)]) Z (fe [0,6,8,9,11] Z) (aZ Z (.cons Z (.box (dw Z (.cons (.row Z (by simp)) .nil))) (.skip (aZ Z (bh Z (aZ Z (bh Z .nil)))))))) ?_)
 refine ab Z (iM O (B0:=97000) Z Z Z Z (sW (ts:=w.vars) h1 h2) (ac Z) Z Z Z Z Z (aq ?_))
 refine js Z (jo Z (aq ?_))
 refine jn (af (fZ [_,_,_,_,_,_,_,_,_] [aF,ag [0],aF,ag [2],ag [2,3],ag [2,3,4],aF,ag (rg 0 7),pe (rg 0 8) 0] [8] [_,_] (cw Z (kc Z (kc Z (kc Z (ai (vI Z Z) (ai (cR (ex:=Tm.cells (w.vars.getD s.var.toNat default)) (xs':=(w.vars.set s.var.toNat (iV w.sym)).map Tm.cells) O Z Z Z Z Z Z Z Z Z Z Z Z Z Z Z (GP (by omega) (by omega)) (GJ (v:=(iV w.sym)) (by omega) Z) Z) trivial)))))) ?_))
 refine jw [0,6,8,9,11] Z (b0 ?_)
 refine ak (ab Z (ji Z (js Z (jo Z (aq ?_)))))
 refine jn ?_
 rw[ed,cd,if_neg (cu z52),if_pos (bK z71),if_neg (by omega)]
 exact⟨Z,((((am [6,8,500,501,78006,97000] (e':=[(0,_),(6,_),(8,_)]) Z Z ⟨Z,Z,Z,ap⟩ Z).trans (Ent.freeze 97000 (e':=[(0,_),(6,_),(8,_)]) Z (fe [0,6,8] Z) (.cons Z (.box (.cons (.row Z (by simp[hv])) (fk Z))) (aZ Z (aZ Z (bh Z (bh Z (.skip .nil)))))))).trans (aa 501 901 Z Z)).trans (aa 78006 902 Z Z)).trans (Ent.to ⟨Z,Z,Z,ap⟩ Z)⟩
 refine ae (ab Z (jn (ah Z (fun z110=>?_) (fun z110=>?_))))
 refine ak (az Z (au O [500,501,502,6] (bin:=[gR (pP pre b post) (dS fl) frm g 1 2,ck g.paths,cn g.conds,hB w]) Z Z Z Z (zZ (p:=(pP pre b post)) (fl:=(dS fl)) (frm:=frm) (g:=g) (w:=w) (t:=s.index) (ds:=Sm.cells s) (j:=5) h1 h2 Z hw hx.1 (by omega) hg) Z Z Z Z Z Z (B0:=117000) Z Z (aq ?_)))
 refine jn ?_
 rw[ed,cd,if_neg (cu z52),if_neg (cu z71),if_pos (bK z110)]
 exact⟨Z,(((am [6,8,500,501,117006] (e':=[(0,_),(6,_),(8,_)]) Z Z ⟨Z,Z,Z,ap⟩ Z).trans (aa 501 901 Z Z)).trans (aa 117006 902 Z Z)).trans (Ent.to ⟨Z,Z,Z,ap⟩ Z)⟩
 refine ae (ab Z (jn (ah Z (fun z117=>?_) (fun z117=>?_))))
 refine jw [53,51,9,8,37,6,0,1,2,3] Z (rC [_,_,_,_,_,_,_,_,_,_,_] [aF,ag [0],pe [0,1] 0,pn [] 0 1,pn [3] 0 1,pn [3,4] 0 1,pn [3,4,5] 0 1,pn [3,4,5,6] 0 1,pe [0,1,2,3,4,5,6,7] 1,pn [0,1,2,3,4,5,6,7,8] 2 2,pe [0,1,2,3,4,5,6,7,8,9] 2] [2,8,10] 7 126 (.row false 1 [[.int .i64 s.event]]) [_,_] [_,_] [[],[122000],[]] (kf Z Z Z (kf Z Z Z (ai (ai (aB (aI (dA O (B0:=122000) Z Z Z Z (Cc (xs:=w.ev) h1 h2) (ac Z) Z Z Z Z Z)) (aI (dA O (B0:=122000) Z Z Z Z (Cc (xs:=w.ev) h1 h2) (ac Z) Z Z Z Z Z))) Z) (ai (kf Z Z Z (kg Z Z Z)) (ai (kf Z Z Z (kg Z Z Z)) (ai (kf Z Z Z (kg Z Z Z)) (ai (kf Z Z Z (kg Z Z Z)) (ai (ai (ai (aI (cQ O Z Z Z Z Z Z Z Z Z Z Z Z Z Z)) Z) (ai (aI (cQ O Z Z Z Z Z Z Z Z Z Z Z Z Z Z)) Z)) (ai (ai (aB trivial (cp (own:=true) (xs:=w.ev.map (fun n=>[D.int .i64 n])) (ys:=[[.int .i64 s.event]]) (zs:=(w.ev++[s.event]).map (fun n=>[D.int .i64 n])) (n:=(w.ev++[s.event]).length) O Z Z Z Z Z Z Z Z Z Z Z Z Z Z Z Z (.row Z (bQ _).symm) (.whole Z Z (.inl (by simp[Scal,D.scalar]))) (by simp) Z (by simp;omega) (by simp;omega) (by simp) (by simp) Z)) Z) (ai (ai (aB trivial (V Z)) Z) (ai (ai (aB trivial (aI (eS Z Z Z))) Z) trivial))))))))))) ?_)
 rw[ed,cd,if_neg (cu z52),if_neg (cu z71),if_neg (cu z110),if_pos (bK z117)]
 exact⟨Z,((((am [6,8,500,501,502,127] (e':=[(0,_),(6,_),(8,_)]) Z Z ⟨Z,Z,Z,ap⟩ Z).trans (Ent.freeze 127 (e':=[(0,_),(6,_),(8,_)]) Z (fe [0,6,8] Z) (.cons Z (.box (dw Z (dw Z (dw Z (.cons (.row Z (by simp)) .nil))))) (aZ Z (aZ Z (bh Z (bh Z (.skip .nil)))))))).trans (aa 501 901 Z Z)).trans (aa 502 902 Z Z)).trans (Ent.to ⟨Z,Z,Z,ap⟩ Z)⟩
 refine ae (ab Z (jn (ah Z (fun z129=>?_) (fun z129=>?_))))
 refine ae (az Z (au O [500,501,502,6] (bin:=[gR (pP pre b post) (dS fl) frm g 1 2,ck g.paths,cn g.conds,hB w]) Z Z Z Z (rR (p:=(pP pre b post)) (fl:=(dS fl)) (frm:=frm) (g:=g) (w:=w) (t:=s.sum) (ds:=Sm.cells s) (j:=3) h1 h2 Z hw hs.1 (by omega)) Z Z Z Z Z Z (B0:=136000) Z Z (aq ?_)))
 refine jl Z (aq ?_)
 refine jo Z (aq ?_)
 refine ba (ab Z (au O [500,501,502,6] (bin:=[gR (pP pre b post) (dS fl) frm (bk w s.sum g) 1 2,ck (bk w s.sum g).paths,cn (bk w s.sum g).conds,hB w]) Z Z Z Z (xq (p:=(pP pre b post)) (fl:=(dS fl)) (frm:=frm) (g:=(bk w s.sum g)) (w:=w) (t:=(aR s.sum w.vars).1) h1 h2 (by simp only[bk,Gs.flag,Gs.goal,cG,dL];omega)) Z Z Z Z Z Z (B0:=139000) Z Z (aq ?_)))
 refine jn (ak (ab Z (au O [500,501,139006,6] (bin:=[gR (pP pre b post) (dS fl) frm ((bk w s.sum g).goal w (aR s.sum w.vars).1) 1 2,ck ((bk w s.sum g).goal w (aR s.sum w.vars).1).paths,cn ((bk w s.sum g).goal w (aR s.sum w.vars).1).conds,hB w]) Z Z Z Z (ug (p:=(pP pre b post)) (fl:=(dS fl)) (frm:=frm) (g:=((bk w s.sum g).goal w (aR s.sum w.vars).1)) (w:=w) (t:=(aR s.sum w.vars).1) h1 h2 hl) Z Z Z Z Z Z (B0:=142000) Z Z (aq ?_))))
 refine jo Z (aq ?_)
 refine jn ?_
 rw[ed,cd,if_neg (cu z52),if_neg (cu z71),if_neg (cu z110),if_neg (cu z117),if_pos (bK z129)]
 exact⟨Z,(((am [6,8,500,501,139006] (e':=[(0,_),(6,_),(8,_)]) Z Z ⟨Z,Z,Z,ap⟩ Z).trans (aa 501 901 Z Z)).trans (aa 139006 902 Z Z)).trans (Ent.to ⟨Z,Z,Z,ap⟩ Z)⟩
 refine af (ae (ab Z (jn (ah Z (fun z142=>?_) (fun z142=>?_)))))
 exact absurd (bK z142) (by omega)
 refine ak (ab Z (jn (ah Z (fun z142=>?_) (fun z142=>?_))))
 exact absurd (bK z142) (by omega)
 refine aj ?_
 rw[ed,cd,if_neg (cu z52),if_neg (cu z71),if_neg (cu z110),if_neg (cu z117),if_neg (cu z129)]
 exact⟨Z,(((am [6,8,500,501,502] (e':=[(0,_),(6,_),(8,_)]) Z Z ⟨Z,Z,Z,ap⟩ Z).trans (aa 501 901 Z Z)).trans (aa 502 902 Z Z)).trans (Ent.to ⟨Z,Z,Z,ap⟩ Z)⟩
 refine ak (az Z (au O [500,901,902] (bin:=[gR (pP pre b post) (dS fl) frm d.2 1 2,ck d.2.paths,cn d.2.conds]) Z Z Z Z (ih) Z Z Z Z Z Z (B0:=206000) Z Z (aq ?_)))
 refine jn ?_
 show _∧_
 refine⟨.inr Z,_,(aa 206005 505 Z Z).trans (aa 206006 506 Z Z),_,Z,Z,Z⟩
theorem wP{s:Sm}(hb:g.bad=false)(hi:i<fl.length)(he:fl.getD i default=⟨(k:Nat),nx,ot⟩)(hk:k<b.length)(hbs:b.getD k default=s)(hk3:s.kind=3)(hv:w.vars.length=4)(hw:CtxOk w.vars)(hx:s.index.ok=true∧s.index.xs.length≤4)(hg:g.conds.length+2≤L)(hsy:w.sym=10):MQ h1 h2 83 [.c (.pt 0 0 0),eI (i:Nat),hA w,eB first] (gH (pP pre b post) (dS fl) frm g) (bb (.tup []) (kM (pP pre b post) (dS fl) frm (⟨(cy bH w s.index g).paths,(cy bH w s.index g).conds,true⟩:Gs))):=by
 refine MC.shift 500 Z (MC.keep [500,505,506] (bs:=[gR (pP pre b post) (dS fl) frm (⟨(cy bH w s.index g).paths,(cy bH w s.index g).conds,true⟩:Gs) 505 506,ck (⟨(cy bH w s.index g).paths,(cy bH w s.index g).conds,true⟩:Gs).paths,cn (⟨(cy bH w s.index g).paths,(cy bH w s.index g).conds,true⟩:Gs).conds]) Z Z (jH 206 [500,501,502] h1 h2 Tryz.func83 Z fun O hF=>?_))
 refine b0 ?_
 refine ae (jx Z (aq ?_))
 refine jn (af (ae (az Z (jn (ah Z (fun z19=>?_) (fun z19=>?_))))))
 exact absurd z19 (by rw[hb];decide)
 refine aj (af (ae (ab Z (jn (ah Z (fun z21=>?_) (fun z21=>?_))))))
 exact absurd (bK z21) (by omega)
 refine aj (ae (az Z (js Z (av ((bf O Z Z Z Z Z Z Z Z (dO hi)).cast (v':=ptr (Fl.cells ⟨(k:Nat),nx,ot⟩)) (by rw[he])) Z (js Z (jl Z (aq ?_)))))))
 refine jo Z (aq ?_)
 refine jn (af (fZ [_,_,_,_,_,_,_,_,_,_,_] [aF,ag [0],ag [0,1],ag [0,1,2],ag (rg 0 4),ag (rg 0 5),ag (rg 0 6),aF,ag [7],ag (rg 0 9),ag (rg 0 10)] [] [_] (cw Z (cw Z (kc Z (ai ((bf O Z Z Z Z Z Z Z Z (dO hk)).cast (v':=ptr (Sm.cells s)) (by rw[hbs])) (kc Z trivial))))) ?_))
 refine jw [9,8,37,6,0,1,2,3] Z (b0 ?_)
 refine af (ae (az Z (jn (ao (ae (ab Z (jn (ah Z (fun z52=>?_) (fun z52=>?_)))))))))
 exact absurd (bK z52) (by omega)
 refine ae (ab Z (jn (ah Z (fun z71=>?_) (fun z71=>?_))))
 refine ae (az Z (au O [500,501,502,6] (bin:=[gR (pP pre b post) (dS fl) frm g 1 2,ck g.paths,cn g.conds,hB w]) Z Z Z Z (zZ (p:=(pP pre b post)) (fl:=(dS fl)) (frm:=frm) (g:=g) (w:=w) (t:=s.index) (ds:=Sm.cells s) (j:=5) h1 h2 Z hw hx.1 (by omega) hg) Z Z Z Z Z Z (B0:=78000) Z Z (aq ?_)))
 refine jn (af (ae (aH Z (jn (ah Z (fun z80=>?_) (fun z80=>?_))))))
 refine ae (aH Z (jo Z (aq ?_)))
 refine jr ?_
 refine⟨.inl Z,_,(aa 501 505 Z Z).trans (aa 78006 506 Z Z),_,Z,Z,Z⟩
 exact absurd (cu z80) (by omega)
 exact absurd (cu z71) (by omega)
theorem l8{g:Gs}:g.flag true=⟨g.paths,g.conds,true⟩:=by simp[Gs.flag]
theorem iL{g:Gs}:g.flag false=g:=by simp[Gs.flag]
theorem fh: ∀{t:Tr},1≤t.nodes
 | .node _ _ _=>by simp[Tr.nodes]
structure EOk(E:Pe)(b:List Sm):Prop where
  post:TsOk E.post∧E.post.length≤6
  st: ∀k,k<b.length→bz (b.getD k default)=true
  lf: ∀k,k<b.length→(b.getD k default).kind=8→E.lf (br b k)=(b.getD k default).facts
  num: ∀k:Nat,k<b.length→(b.getD k default).kind=8→E.num (k:Nat)=br b k
theorem tn{t:Tm}(h:t.term=true):t.ok=true∧t.xs.length≤4:=by
 unfold Tm.term at h
 simp only[bS,decide_eq_true_eq]at h;exact⟨h.1,by omega⟩
theorem nh{ts:List Tm}(h:terms ts 6=true):TsOk ts∧ts.length≤6:=by
 unfold terms at h
 simp only[bS,decide_eq_true_eq,List.all_eq_true]at h
 exact⟨fun t ht=>tn (h.1 t ht),by omega⟩
theorem ja{s:Sm}(h:bz s=true):TsOk s.facts∧s.facts.length≤6:=by
 refine nh ?_
 unfold bz rJ at h
 cases h1:s.sum.term<;>cases h2:s.index.term<;>cases h3:terms s.facts 6<;>simp[h1,h2,h3]at h ⊢
theorem GOk.end{frm:Int}{w:Pw}{to:Int}{fs:List Tm}{n m:Nat}{g:Gs}(h:GOk n g)(hb:g.bad=false)(hf:fs.length≤6):GOk (n+rD m) (dP frm w to fs g):=
  (EU h hb).le (by have:=wj (m:=m);omega)
theorem iu{E:Pe}{b:List Sm}{fl:List Fl}(hE:EOk E b){la:dM}{frm:Int}: ∀{n:Nat} {r:List Fr} {w:Pw} {g:Gs} {c:Nat} {i:Int},Pl b fl i r→GOk c g→GOk (c+rD (aP r)) (fi la E frm n r w g)
 | 0,r,w,g,c,i,hp,hg=>hg.le (Nat.le_add_right _ _)
 | n + 1,r,w,g,c,i,hp,hg=>by
  cases hb:g.bad with
  | true=>rw[de hb];exact hg.le (Nat.le_add_right _ _)
  | false=>
   cases hp with
   | nil=>rw[gm hb];exact hg.end hb hE.post.2
   | lp hi hs hk h8=>rw[jv hb,hE.lf _ hk h8];exact hg.end hb (ja (hE.st _ hk)).2
   | @leaf i k r hi hs hk h0 h=>
    rw[fA hb]
    refine(iu hE (n:=n) h (tC hg)).le ?_
    have:=qP (m:=aP r)
    simp only[aP,Fr.nodes,Tr.nodes,Trs.nodes,Nat.add_zero]
    rw[Nat.add_comm 1];omega
   | @seq i k x y r h1 h=>
    rw[gl hb h1]
    refine(iu hE (n:=n) h hg).le ?_
    have:=cP (m:=aP (.st x:: .st y::r)) (n:=aP (.st (.node (b.getD k default) (k:Nat) [x,y])::r)) (by simp only[aP,Fr.nodes,Tr.nodes,Trs.nodes];omega)
    omega
   | @cond i k x y r hi hs hk h7 h1 h2=>
    rw[jy hb (by omega)]
    have hx:=fh (t:=x);have hy:=fh (t:=y)
    refine(iu hE (n:=n) h2 (iu hE (n:=n) h1 hg.flag.flag.flag)).le ?_
    have e:=tL (m:=aP (.st (.node (b.getD k default) (k:Nat) [x,y])::r)-2)
    rw[show aP (.st (.node (b.getD k default) (k:Nat) [x,y])::r)-2+2=aP (.st (.node (b.getD k default) (k:Nat) [x,y])::r) by simp only[aP,Fr.nodes,Tr.nodes,Trs.nodes];omega]at e
    have e1:=cP (m:=aP (.st x::r)) (n:=aP (.st (.node (b.getD k default) (k:Nat) [x,y])::r)-2) (by simp only[aP,Fr.nodes,Tr.nodes,Trs.nodes];omega)
    have e2:=cP (m:=aP (.st y::r)) (n:=aP (.st (.node (b.getD k default) (k:Nat) [x,y])::r)-2) (by simp only[aP,Fr.nodes,Tr.nodes,Trs.nodes];omega)
    omega
   | loop hi hs hk h8=>rw[ju hb];exact hg.end hb (ja (hE.st _ hk)).2
theorem je{k:Int}(h:bC k=0):k≠1∧k≠7∧k≠8:=by
 refine⟨?_,?_,?_⟩<;>(rintro rfl;revert h;decide)
theorem n6{fl:List Fl}{i k:Nat}(hs:(fl.getD i default).stmt=(k:Nat)):fl.getD i default=⟨(k:Nat),(fl.getD i default).next,(fl.getD i default).other⟩:=by rw[←hs]
theorem lH{s:Sm}(h:bz s=true):(s.sum.ok=true∧s.sum.xs.length≤4)∧(s.index.ok=true∧s.index.xs.length≤4):=⟨tn (dg h).1,tn (dg h).2⟩
theorem vU{s:Sm}(h:bz s=true)(hk:s.kind=2∨s.kind=3):0≤s.var∧s.var≤3:=qn h (by unfold pX;rcases hk with h|h<;>rw[h]<;>decide)
theorem tz{w:Pw}{t u:Tm}:(w.fact t).long=(w.fact u).long:=by simp[Pw.long,Pw.fact]
theorem qc{L:Nat}(h1:4096≤L)(h2:L≤1073741824){pre:List Tm}{b:List Sm}{fl:List Fl}{frm:Int}{E:Pe}(hE:EOk E b)(hbl:b.length≤1000): ∀{n:Nat} {r:List Fr} {w:Pw} {g:Gs} {c:Nat} {i:Int},Pl b fl i r→aP r<n→WOk n w→GOk c g→c+rD (aP r)≤L→
  MC Tryz.prog L 83 [.c (.pt 0 0 0),eI i,hA w,eB false] (gH (pP pre b E.post) (dS fl) frm g) (bb (.tup []) (kM (pP pre b E.post) (dS fl) frm (fi bH E frm n r w g)))
 | 0,r,w,g,c,i,hp,hn,hw,hg,hL=>absurd hn (Nat.not_lt_zero _)
 | n + 1,r,w,g,c,i,hp,hn,hw,hg,hL=>by
  have hge:=wj (m:=aP r)
  have hgc:=hg.conds
  have hgp:=hg.paths
  cases hb:g.bad with
  | true=>rw[de hb];exact yW h1 h2 hb
  | false=>
   cases hp with
   | nil=>rw[gm hb];exact yV h1 h2 hb hw.ctx hw.vars hE.post.1 (by have:=hE.post.2;omega) (by omega)
   | @lp i k r hi hs hk h8=>
    rw[jv hb,hE.lf _ hk h8]
    have hf:=ja (hE.st _ hk)
    exact rk h1 h2 hb hi (n6 hs) hk Z h8 hbl hw.ctx hw.vars hf.1 (by omega) (by omega)
   | @leaf i k r hi hs hk h0 h=>
    rw[fA hb]
    have hst:=hE.st _ hk
    have hne:=je h0
    have htm:=lH hst
    have hbd:=qP (m:=aP r)
    simp only[aP,Fr.nodes,Tr.nodes,Trs.nodes,Nat.add_zero,Nat.add_comm 1]at hL hn
    have hfa:=hw.facts;have hev:=hw.ev;have hsy:=hw.sym
    by_cases hfull:(b.getD k default).kind=3∧w.sym=10
    have e:(cd bH (b.getD k default) w g).2=⟨(cy bH w (b.getD k default).index g).paths,(cy bH w (b.getD k default).index g).conds,true⟩:=by
     unfold cd
     rw[if_neg (by omega),if_pos hfull.1,if_pos hfull.2,l8]
    rw[de (by rw[e]),e]
    exact wP h1 h2 hb hi (n6 hs) hk Z hfull.1 hw.vars hw.ctx htm.2 (by omega) hfull.2
    exact wO h1 h2 hb hi (n6 hs) hk Z hw.vars hw.ctx (vU hst) htm.1 htm.2 (by omega) (by omega) hsy (by omega) ⟨hne.2.1,hne.2.2⟩ (fun e=>by
     have: ¬w.sym=10:=fun e2=>hfull ⟨e,e2⟩
     omega) (qc h1 h2 hE hbl h (by omega) hw.leaf (tC hg) (by omega))
   | @seq i k x y r hk h=>
    rw[gl hb hk]
    refine qc h1 h2 hE hbl h (by simp only[aP,Fr.nodes,Tr.nodes,Trs.nodes]at hn ⊢;omega) (hw.le (Nat.le_succ n)) hg ?_
    have:=cP (m:=aP (.st x:: .st y::r)) (n:=aP (.st (.node (b.getD k default) (k:Nat) [x,y])::r)) (by simp only[aP,Fr.nodes,Tr.nodes,Trs.nodes];omega)
    omega
   | @cond i k x y r hi hs hk h7 p1 p2=>
    have htm:=lH (hE.st _ hk)
    have hx:=fh (t:=x);have hy:=fh (t:=y)
    have hfa:=hw.facts
    have e:=tL (m:=aP (.st (.node (b.getD k default) (k:Nat) [x,y])::r)-2)
    rw[show aP (.st (.node (b.getD k default) (k:Nat) [x,y])::r)-2+2=aP (.st (.node (b.getD k default) (k:Nat) [x,y])::r) by simp only[aP,Fr.nodes,Tr.nodes,Trs.nodes];omega]at e
    have e1:=cP (m:=aP (.st x::r)) (n:=aP (.st (.node (b.getD k default) (k:Nat) [x,y])::r)-2) (by simp only[aP,Fr.nodes,Tr.nodes,Trs.nodes];omega)
    have e2:=cP (m:=aP (.st y::r)) (n:=aP (.st (.node (b.getD k default) (k:Nat) [x,y])::r)-2) (by simp only[aP,Fr.nodes,Tr.nodes,Trs.nodes];omega)
    rw[jy hb (by omega),dT]
    have hg2:GOk c (((bk w (b.getD k default).sum g).flag (!(aX (aR (b.getD k default).sum w.vars).1).2)).flag (w.fact (aR (b.getD k default).sum w.vars).1).long):=hg.flag.flag.flag
    have hg3:=iu hE (la:=bH) (frm:=frm) (n:=n) (w:=w.fact (aR (b.getD k default).sum w.vars).1) p1 hg2
    have hfe:=ur (la:=bH) (E:=E) (frm:=frm) (n:=n) (r:=.st x::r) (w:=w.fact (aR (b.getD k default).sum w.vars).1) (u:=w.fact (aX (aR (b.getD k default).sum w.vars).1).1) (g:=(bk w (b.getD k default).sum g).flag (!(aX (aR (b.getD k default).sum w.vars).1).2)) tz
    refine BG h1 h2 hb hi (n6 hs) hk Z h7 hw.ctx hw.vars htm.1 (by omega) (g3:=fi bH E frm n (.st x::r) (w.fact (aR (b.getD k default).sum w.vars).1) (((bk w (b.getD k default).sum g).flag (!(aX (aR (b.getD k default).sum w.vars).1).2)).flag (w.fact (aR (b.getD k default).sum w.vars).1).long)) ?_ ?_
    exact qc h1 h2 hE hbl p1 (by simp only[aP,Fr.nodes,Tr.nodes,Trs.nodes]at hn ⊢;omega) hw.fact hg2 (by omega)
    rw[hfe]
    exact qc h1 h2 hE hbl p2 (by simp only[aP,Fr.nodes,Tr.nodes,Trs.nodes]at hn ⊢;omega) hw.fact hg3 (by omega)
   | @loop i k x r hi hs hk h8=>
    rw[ju hb,hE.num _ hk h8]
    have hf:=ja (hE.st _ hk)
    exact rk h1 h2 hb hi (n6 hs) hk Z h8 hbl hw.ctx hw.vars hf.1 (by omega) (by omega)
theorem FP{E:Pe}(hE:EOk E b)(hbl:b.length≤1000){n:Nat}{r1 r2:List Fr}{c:Nat}(hb:g.bad=false)(hi:i<fl.length)(hs:(fl.getD i default).stmt=(k:Nat))(hk:k<b.length)(h8:(b.getD k default).kind=8)
  (p1:Pl b fl (fl.getD i default).next r1) (p2:Pl b fl (fl.getD i default).other r2) (hn1:aP r1<n) (hn2:aP r2<n) (hw:WOk (n+1) w) (hg:GOk c g) (hL:c+rD (aP r1)+rD (aP r2)≤L) :
  MQ h1 h2 83 [.c (.pt 0 0 0),eI (i:Nat),hA w,eB true] (gH (pP pre b E.post) (dS fl) frm g) (bb (.tup []) (kM (pP pre b E.post) (dS fl) frm (dT (fi bH E frm n r1) (fi bH E frm n r2) w (aR (b.getD k default).sum w.vars).1 (bk w (b.getD k default).sum g)))):=by
 have htm:=lH (hE.st _ hk)
 have hfa:=hw.facts
 rw[dT]
 have hg2:GOk c (((bk w (b.getD k default).sum g).flag (!(aX (aR (b.getD k default).sum w.vars).1).2)).flag (w.fact (aR (b.getD k default).sum w.vars).1).long):=hg.flag.flag.flag
 have hg3:=iu hE (la:=bH) (frm:=frm) (n:=n) (w:=w.fact (aR (b.getD k default).sum w.vars).1) p1 hg2
 have hfe:=ur (la:=bH) (E:=E) (frm:=frm) (n:=n) (r:=r1) (w:=w.fact (aR (b.getD k default).sum w.vars).1) (u:=w.fact (aX (aR (b.getD k default).sum w.vars).1).1) (g:=(bk w (b.getD k default).sum g).flag (!(aX (aR (b.getD k default).sum w.vars).1).2)) tz
 refine vt h1 h2 hb hi (n6 hs) hk Z h8 hw.ctx hw.vars htm.1 (by omega) (g3:=fi bH E frm n r1 (w.fact (aR (b.getD k default).sum w.vars).1) (((bk w (b.getD k default).sum g).flag (!(aX (aR (b.getD k default).sum w.vars).1).2)).flag (w.fact (aR (b.getD k default).sum w.vars).1).long)) ?_ ?_
 exact qc h1 h2 hE hbl p1 hn1 hw.fact hg2 (by omega)
 rw[hfe]
 exact qc h1 h2 hE hbl p2 hn2 hw.fact hg3 (by omega)
end Go.Al
