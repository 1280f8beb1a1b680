/- Contracts of the program's functions for terms; the types of the arguments. Paths, in plain Lean; terms with symbols replaced. The reference follows a path. -/
import Derived.Test.YtgaahipcjhjlbaaGreatD
import Derived.Test.YtgaahipcjhjlbaaGreatC
import Derived.Test.YtgaahipcjhjlbaaGreatRows
set_option linter.unusedVariables false
set_option linter.unusedSimpArgs false
set_option maxRecDepth 10000
set_option maxHeartbeats 4000000
open Go.Proofs
namespace Go.Al
variable{L:Nat}(h1:4096≤L)(h2:L≤1073741824)
theorem Ah{c:Int}{xs:List Int}(h:(lY c xs).2=true):(lY c xs).1.ok=true:=by
 unfold lY at h ⊢
 split at h
 rename_i h1;rw[if_pos h1];exact h1
 cases h
theorem lz{t:Tm}(h:(aL t).2=true):(aL t).1.ok=true:=Ah h
theorem lI{t:Tm}(h:(bX t).2=true):(bX t).1.ok=true:=by
 unfold bX at h ⊢
 split at h
 cases h
 rename_i h1;rw[if_neg h1];exact Ah h
theorem xm{t:Tm}(h:t.zero=true):t.ok=true:=by
 simp only[Tm.zero,bC,decide_eq_true_eq]at h
 have h3:t.xs=[]:=List.eq_nil_of_length_eq_zero (by omega)
 simp[Tm.ok,num,h.1,h3]
theorem kO{p:List Nd}(h:tT p=true):1≤p.length∧p.length≤60∧(∀n∈p,gN n=true)∧endP p 0=p.length:=by
 simp only[tT,bC,decide_eq_true_eq,List.all_eq_true]at h
 exact⟨by omega,by omega,h.2.1,h.2.2⟩
theorem CE{p:List Nd}(h:tT p=true){i:Nat}(hi:i<p.length):gN (p.getD i default)=true:=by
 rw[aw hi];exact(kO h).2.2.1 _ (List.getElem_mem hi)
theorem mY{n:Nd}(h:gN n=true):n.term.ok=true:=by
 unfold gN at h
 split at h
 simp only[bC]at h;exact xm h.1.2
 split at h
 simp only[bC]at h;exact h.1.2
 split at h
 simp only[bC]at h;exact xm h.1.2
 cases h
theorem uA{n:Nd}(h:gN n=true):0≤n.fact:=by
 unfold gN at h
 split at h
 simp only[bC,decide_eq_true_eq]at h;omega
 split at h
 simp only[bC,decide_eq_true_eq]at h;omega
 split at h
 simp only[bC,eW,decide_eq_true_eq]at h;omega
 cases h
theorem CD{n:Nd}(h:gN n=true):n.mul.all co=true:=by
 unfold gN at h
 split at h
 simp only[bC,yc]at h;exact h.2.1
 split at h
 simp only[bC,decide_eq_true_eq]at h
 rw[List.eq_nil_of_length_eq_zero (by omega:n.mul.length=0)];rfl
 split at h
 simp only[bC,decide_eq_true_eq]at h
 rw[List.eq_nil_of_length_eq_zero (by omega:n.mul.length=0)];rfl
 cases h
theorem qi{n:Nd}(h:gN n=true):n.kind=1∨n.kind=2∨n.kind=3:=by
 unfold gN at h
 split at h
 exact .inl ‹_›
 split at h
 exact .inr (.inl ‹_›)
 split at h
 exact .inr (.inr ‹_›)
 cases h
theorem wz{p:List Nd}{k:Nat}(hk:k<p.length)(h:(p.getD k default).kind=1):endP p k=k+1:=by
 have h1:=kS (l:=p) (n:=1) (by decide) hk
 rw[h,show dl 1= -1 from Z,show(1:Int)+ -1=0 from Z,uT (Int.le_refl 0)]at h1
 unfold endP;rw[h1];rfl
theorem vJ{p:List Nd}(h:tT p=true){k:Nat}(h0:0<k)(hk:k<p.length): ∃a:Nat,(rj p k k).1=(a:Int)∧a<k:=by
 obtain⟨_,_,_,hend⟩:=kO h
 have key: ∀i,0<i→∃a:Nat,(rj p k i).1=(a:Int)∧a<i:=by
  intro i hi
  induction i with
  | zero=>omega
  | succ i ih=>
   unfold rj
   split
   rename_i hc
   by_cases h1:0<i
   obtain⟨a,h2,h3⟩:=ih h1
   exact⟨a,h2,by omega⟩
   obtain rfl:i=0:=by omega
   rcases hc with hc|hc
   have:=wz (by omega) hc
   omega
   omega
   exact⟨i,Z,by omega⟩
 exact key k h0
structure CS where
  all:List (List Tm)
  has:List Bool
  right:List Bool
  flaw:Int
def mH(p:List Nd)(k:Nat)(z:CS):Bool:=if k=0 then true else z.right.getD (rj p k k).1.toNat default
def ya(p:List Nd)(c0:List Tm)(k:Nat)(z:CS):List Tm:=if k=0 then c0 else if mH p k z=true then kK (p.getD (rj p k k).1.toNat default) (z.all.getD (rj p k k).1.toNat default) (rj p k k).2 else[]
def nO(p:List Nd)(c0:List Tm)(k:Nat)(z:CS):Bool:=mH p k z&&i6 (p.getD k default) (ya p c0 k z)
def kJ(p:List Nd)(c0:List Tm)(k:Nat)(z:CS):CS:=⟨z.all++[ya p c0 k z],z.has++[mH p k z],z.right++[nO p c0 k z],if(mH p k z&& !nO p c0 k z)&&decide (z.flaw<0)then(k:Int)else z.flaw⟩
def ct(p:List Nd)(c0:List Tm):Nat→CS
  | 0=>⟨[],[],[],-1⟩
  | k+1=>kJ p c0 k (ct p c0 k)
structure CSok(p:List Nd)(k:Nat)(z:CS):Prop where
  all:z.all.length=k
  has:z.has.length=k
  right:z.right.length=k
  flaw: -1≤z.flaw∧z.flaw<k
  ctx: ∀j,j<k→z.has.getD j default=true→CtxOk (z.all.getD j default)
  good: ∀j,j<k→z.right.getD j default=true→z.has.getD j default=true∧i6 (p.getD j default) (z.all.getD j default)=true
theorem fm{α:Type}[Inhabited α]{l:List α}{a:α}{j:Nat}:(l++[a]).getD j default=if j=l.length then a else l.getD j default:=by
 simp only[List.getD_eq_getElem?_getD]
 by_cases h:j<l.length
 rw[List.getElem?_append_left h,if_neg (by omega)]
 by_cases e:j=l.length
 subst e;simp
 rw[if_neg e,List.getElem?_eq_none (by simp;omega),List.getElem?_eq_none (by omega)]
theorem BA{n:Nd}{ctx:List Tm}{first:Bool}(hn:gN n=true)(hc:CtxOk ctx)(hk:n.kind≠1)(hr:i6 n ctx=true):CtxOk (kK n ctx first)∧(n.kind=3→0≤n.fact∧n.fact<ctx.length):=by
 unfold i6 at hr
 rw[if_neg hk]at hr
 split at hr
 cases hr
 rename_i h20
 have key: ∀t:Tm,t.ok=true→CtxOk (ctx++[t]):=fun t ht=>⟨fun u hu=>by
  rcases List.mem_append.1 hu with hu|hu
  · exact hc.ok u hu
  · simp at hu;subst hu;exact ht,by simp;omega⟩
 unfold kK
 split at hr
 rename_i h2
 rw[if_neg (by omega)]
 refine⟨?_,fun h=>absurd (h2.symm.trans h) (by decide)⟩
 split
 exact key _ (mY hn)
 exact key _ (lz hr)
 rename_i h2
 have h3:n.kind=3:=by rcases qi hn with h|h|h<;>first|exact h|contradiction
 rw[if_pos h3]
 split at hr
 cases hr
 rename_i h4
 exact⟨key _ (lI hr),fun _=>⟨uA hn,by omega⟩⟩
theorem uy{p:List Nd}{k:Nat}: ∀{i a:Nat},(rj p k i).1=(a:Int)→(p.getD a default).kind≠1∧(k:Int)<endP p a∧a<i
 | 0,a,h=>by have h:(-1:Int)=a:=h;omega
 | i+1,a,h=>by
  unfold rj at h
  split at h
  have:=uy h;exact⟨this.1,this.2.1,by omega⟩
  rename_i hc
  have h:(i:Int)=a:=h
  obtain rfl:i=a:=by omega
  exact⟨fun e=>hc (.inl e),by have:=fun e=>hc (.inr e);omega,by omega⟩
theorem ER{p:List Nd}{c0:List Tm}{k:Nat}{z:CS}(hp:tT p=true)(h0:CtxOk c0)(hk:k<p.length)(hz:CSok p k z)(hf:mH p k z=true):CtxOk (ya p c0 k z):=by
 unfold ya
 split
 exact h0
 rename_i hk0
 try rw[if_pos hf]
 obtain⟨a,ha,hak⟩:=vJ hp (by omega) hk
 have hf':=hf
 unfold mH at hf'
 rw[if_neg hk0,ha,Int.toNat_natCast]at hf'
 obtain⟨h1,h2⟩:=hz.good a hak hf'
 rw[ha,Int.toNat_natCast]
 exact(BA (CE hp (by omega)) (hz.ctx a hak h1) (uy ha).1 h2).1
theorem CSok.step{p:List Nd}{c0:List Tm}{k:Nat}{z:CS}(hp:tT p=true)(h0:CtxOk c0)(hk:k<p.length)(hz:CSok p k z):CSok p (k+1) (kJ p c0 k z):=by
 refine⟨by simp[kJ,hz.all],by simp[kJ,hz.has],by simp[kJ,hz.right],?_,fun j hj h=>?_,fun j hj h=>?_⟩
 have:=hz.flaw
 unfold kJ
 dsimp only
 split<;>omega
 simp only[kJ,fm,hz.has,hz.all]at h ⊢
 by_cases e:j=k
 rw[if_pos e]at h ⊢;exact ER hp h0 hk hz h
 rw[if_neg e]at h ⊢;exact hz.ctx j (by omega) h
 simp only[kJ,fm,hz.has,hz.all,hz.right]at h ⊢
 by_cases e:j=k
 rw[if_pos e]at h
 rw[if_pos e,if_pos e,e]
 unfold nO at h
 simpa using h
 rw[if_neg e]at h
 rw[if_neg e,if_neg e]
 exact hz.good j (by omega) h
theorem qC{p:List Nd}{c0:List Tm}(hp:tT p=true)(h0:CtxOk c0): ∀{k:Nat},k≤p.length→CSok p k (ct p c0 k)
 | 0,_=>⟨rfl,rfl,rfl,⟨Int.le_refl _,by show(-1:Int)<((0:Nat):Int);decide⟩,fun j hj=>absurd hj (Nat.not_lt_zero j),fun j hj=>absurd hj (Nat.not_lt_zero j)⟩
 | k+1,hk=>(qC hp h0 (k:=k) (by omega)).step hp h0 (by omega)
structure Con where
  all:List (List Tm)
  has:List Bool
  flaw:Int
  ok:Bool
def BX(s:Sq)(p:List Nd):Con:=if(aL s.goal).2=true then⟨(ct p (mh s).1 p.length).all,(ct p (mh s).1 p.length).has,(ct p (mh s).1 p.length).flaw,true⟩else⟨[],[],0,false⟩
theorem fj{s:Sq}(h:dF s=true):(∀t∈s.facts,t.ok=true)∧s.facts.length≤13∧s.goal.ok=true:=by
 simp only[dF,fA,bC,decide_eq_true_eq,List.all_eq_true]at h
 exact⟨h.1.1,by omega,h.2⟩
theorem xT{s:Sq}(h:dF s=true):CtxOk (mh s).1:=by
 obtain⟨h1,h2,h3⟩:=fj h
 unfold mh
 split
 rename_i ho
 refine⟨fun u hu=>?_,by simp;omega⟩
 rcases List.mem_append.1 hu with hu|hu
 exact h1 u hu
 simp at hu;subst hu;exact lz ho
 exact⟨fun u hu=>by simp at hu,by simp⟩
theorem vZ{s:Sq}:(mh s).2=(aL s.goal).2:=by unfold mh;split<;>simp_all
theorem nt{b:Bool}(h:(!b)=true):b=false:=by cases b<;>simp_all
theorem nf{b:Bool}(h:(!b)=false):b=true:=by cases b<;>simp_all
theorem g2{a b:Bool}:(bif !a then true else !b)= !(a&&b):=by cases a<;>cases b<;>rfl
def pN(s:Sq)(p:List Nd):Bool:=(dF s&&tT p)&&((BX s p).ok&&decide ((BX s p).flaw<0))
theorem vx{α β:Type}[Inhabited α]{l:List α}{f:α→β}{n:Nat}(h:n<l.length):(l.map f)[0+n]? = some (f (l.getD n default)):=by rw[Nat.zero_add];simp[h]
theorem Ka{a b:Bool}(h:(bif a then b else false)=true):a=true∧b=true:=by cases a<;>cases b<;>simp_all
theorem IR{a b:Bool}(h:(bif a then b else false)=false): ¬(a=true∧b=true):=by cases a<;>cases b<;>simp_all
abbrev sqs(ss:List Sq):D:=.slc 3 (ss.map Sq.cells)
abbrev mG(ss:List Sq):A:=.c (.d (sqs ss))
abbrev C7(p:List Nd):List D:=[D1 p]
abbrev JD(ps:List (List Nd)):D:=.slc 1 (ps.map C7)
abbrev pU(ps:List (List Nd)):A:=.c (.d (JD ps))
def lx(ss:List Sq)(ps:List (List Nd)):Bool:=decide (ps.length=ss.length)&&(List.range ss.length).all fun j=>pN (ss.getD j default) (ps.getD j default)
theorem rV{ss:List Sq}{ps:List (List Nd)}(h:ps.length=ss.length)(ha: ∀j,j<ss.length→pN (ss.getD j default) (ps.getD j default)=true):lx ss ps=true:=by
 unfold lx
 rw[decide_eq_true h,Bool.true_and,List.all_eq_true]
 intro j hj
 exact ha j (List.mem_range.1 hj)
theorem wn{ss:List Sq}{ps:List (List Nd)}{j:Nat}(hj:j<ss.length)(h:pN (ss.getD j default) (ps.getD j default)=false):lx ss ps=false:=by
 unfold lx
 rw[show((List.range ss.length).all fun j=>pN (ss.getD j default) (ps.getD j default))=false from List.all_eq_false.2 ⟨j,List.mem_range.2 hj,by rw[h];decide⟩,Bool.and_false]
abbrev gV(ts:List Tm)(ms:List Int):Tm:=⟨bm Tm.c ts ms,bv (bE ts ms)⟩
abbrev dP(t:Tm):Tm:=⟨bm Tm.c [t] [-1]-1,bv (bE [t] [-1])⟩
def dH(ctx:List Tm)(ms:List Int):Bool:=decide (ms.length=ctx.length)&&(decide ((bv (bE ctx ms)).length=0)&&decide (bm Tm.c ctx ms<0))
def gp(s:Sq):List Tm×Bool:=if(dF s&&(dP s.goal).ok)=true then(s.facts++[dP s.goal],true)else([],false)
variable{ts:List Tm}
theorem Ed{n:Int}:MQ h1 h2 94 [bM ts,eI n] [] (Plain (eB (fA ts n))):=by
 refine aB ?_ Z
 refine jB 21 h1 h2 Tryz.func94 Z fun O hF=>?_
 have hl:ts.length≤L:=by simpa[As.fact,A.fact,M.fact,D.fact,Ds.fact]using hF.1.1
 refine ac (js Z (jn (ae (ac (js Z (cW Z (jb Z (jn (zc Z (fun z10=>?_) (fun z10=>?_))))))))))
 try simp only[bo]at z10
 refine ac (js Z (jr ?_))
 refine eR Z ?_
 rw[fA,decide_eq_false (show¬(ts.length:Int)≤n by omega),Bool.and_false]
 try simp only[bo]at z10
 refine af (ae (ac (js Z (cW Z (js Z (jn (ak (ap (X:=Nat) (fun i=>⟨[(1,eI n),(11,bM ts),(12,eI ts.length),(13,eI i)],[]⟩) (fun i=>i≤ts.length∧∀j (h:j<ts.length),j<i→Tm.ok ts[j]=true) (fun i=>ts.length-i) 0 (Ent.to ⟨Z,Z,Z,Z,tv⟩ Z) ?_ (fun i hi=>?_)))))))))
 exact⟨cG _,fun j h hj=>absurd hj (Nat.not_lt_zero j)⟩
 refine ac (js Z (jn (ae (zc Z (fun z14=>?_) (fun z14=>?_)))))
 try simp only[bo]at z14
 refine af (ae (ak (ac (jh Z Z (js Z (jl Z (jo Z (aN (js Z (lo Z (mF (t:=ts.getD i default) h1 h2) 19000 Z (js Z (jn (zc Z (fun z19=>?_) (fun z19=>?_))))))))))))))
 try simp only[bo]at z19
 refine ac (js Z (jr ?_))
 refine eR Z ?_
 rw[aw (by omega)]at z19
 rw[fA,iS i (by omega) z19,Bool.false_and]
 try simp only[bo]at z19
 refine af (ag (ji Z (js Z (jn ?_))))
 refine⟨i+1,(ah [] (e':=[(1,_),(11,_),(12,_),(13,_)]) Z Z ⟨Z,Z,Z,Z,tv⟩ Z),⟨by omega,fun j h hj=>?_⟩,by omega⟩
 by_cases e:j=i
 subst e;rw[aw h]at z19;exact z19
 exact hi.2 j h (by omega)
 try simp only[bo]at z14
 refine aR (ac (js Z (jr ?_)))
 refine eR Z ?_
 rw[fA,jY (fun j hj=>hi.2 j hj (by omega)),decide_eq_true (show(ts.length:Int)≤n by omega),Bool.true_and]
variable{s:Sq}
theorem B3:MQ h1 h2 61 [BJ s] [] (Plain (eB (dF s))):=by
 refine aB ?_ Z
 refine jB 11 h1 h2 Tryz.func61 Z fun O hF=>?_
 refine ac (jx Z (js Z (aN (jb Z (lo Z (Ed h1 h2) 6000 Z (js Z (ar 3 Z Z Z (fun hx=>nz hx Z (nz hx Z (bj O hx Z Z Z Z (mF h1 h2) (ab Z) Z Z Z Z Z Z Z (B0:=10000) Z (AN.nil)))) Z Z (st (aq O Z Z Z Z Z) Z (js Z (jr ?_))))))))))
 refine eR Z ?_
 rw[Bool.cond_false_right];rfl
variable{t:Tm}
theorem JO:MQ h1 h2 179 [cR t] [] (Plain (cR ⟨t.c,bv t.xs⟩)):=by
 refine MC.data (jB 26 h1 h2 Tryz.func179 Z fun O hF=>?_)
 have hl:t.xs.length≤L:=by simpa[As.fact,A.fact,M.fact,Ms.fact,D.fact,Ds.fact]using hF.1.2.1.1
 refine ac (jx Z (jl Z (aN (jb Z (cW Z (js Z (jn (ae (ak (ap (X:=Nat) (fun n=>⟨[(1,.c (.pt 1 0 0)),(2,.c (.pt 2 0 0)),(3,eI n)],[(1,.box [.d (.int .i64 t.c),.d (cK t.xs)]),(2,.box [.d (.int .i64 0),.d .nils])]⟩) (fun n=>n≤t.xs.length∧bv (t.xs.take n)=bv t.xs) (fun n=>n) t.xs.length (Ent.env ⟨Z,Z,Z,tv⟩) ?_ (fun n hi=>?_)))))))))))
 exact⟨cQ _,by rw[List.take_length]⟩
 refine ae (ac (jc Z (ar 7 Z Z Z (fun hx=>nz hx Z (nz hx Z (nz hx Z (ny hx (vF Z) Z (ny hx (vD Z) Z (nz hx Z (nz hx Z (AN.nil)))))))) Z Z (st (aq O Z Z Z Z Z) Z (jn (zc Z (fun z17=>?_) (fun z17=>?_)))))))
 refine af (ak (ag (js Z (ji Z (js Z (jn ?_))))))
 rw[Bool.cond_false_right,bC,decide_eq_true_eq,decide_eq_true_eq]at z17
 obtain⟨k,hk⟩: ∃k,n=k+1:=⟨n-1,by omega⟩
 subst hk
 have hk2:((k+1:Nat):Int)-1=k:=by omega
 rw[hk2]at z17
 refine⟨k,Ent.to ⟨Z,Z,by rw[hk2];rfl,tv⟩ Z,⟨by omega,?_⟩,Nat.lt_succ_self k⟩
 rw[←hi.2,nV (by omega) (by simpa using z17.2)]
 refine aR (ac (jc Z ?_))
 have hd:bv (t.xs.take n)=t.xs.take n:=lG hi.1 (by
  rw[Bool.cond_false_right]at z17
  rcases Nat.eq_zero_or_pos n with h0|h0
  ·
   exact .inl h0
  ·
   refine .inr (fun h9=>?_)
   have e1:((n:Int)-1).toNat=n-1:=by omega
   rw[e1,h9]at z17;simp at z17;omega)
 have ht:=hi.2
 rw[hd]at ht
 refine st ((dV O Z Z ⟨by omega,by simp;omega⟩).cast (v':=bO (bv t.xs)) (by rw[←ht];simp[List.map_take])) Z (js Z (jo Z (aN (js Z (jo Z (jr ?_))))))
 refine eR Z ?_
 exact .v (.agg (ax Z))
theorem nj{f:Tm→Int}: ∀{ts:List Tm} {ms:List Int},ts.length≤ms.length→bm f (ts.take ts.length) (ms.take ts.length)=bm f ts ms
 | [],ms,_=>by cases ms<;>simp[bm]
 | t::ts,[],h=>by simp at h
 | t::ts,m::ms,h=>by
  have:=nj (f:=f) (ts:=ts) (ms:=ms) (by simpa using h)
  simp only[dW,List.take_succ_cons,bm]at this ⊢
  rw[this]
theorem sm{ts:List Tm}{ms:List Int}(h:ts.length≤ms.length):bE (ts.take ts.length) (ms.take ts.length)=bE ts ms:=by
 unfold bE
 apply List.map_congr_left
 intro k _
 exact nj h
variable{ms:List Int}
theorem B1(hc:CtxOk ts)(hm:ms.all num=true)(hle:ts.length≤ms.length):MQ h1 h2 157 [bM ts,bO ms] [] (Plain (cR (gV ts ms))):=by
 refine MC.data (jB 55 h1 h2 Tryz.func157 Z fun O hF=>?_)
 have hl:ms.length≤L:=by simpa[As.fact,A.fact,M.fact,D.fact,Ds.fact]using hF.2.1.1
 have hlc:=hc.len
 refine ac (jl Z (aN (hp (f6 O Z Z Z Z Z Z Z Z Z (by first|omega|(simp at *;omega)) (by first|omega|(simp at *;omega)) (by first|omega|(simp at *;omega)) (by first|omega|(dsimp only;omega)|(simp only[bo]at *;omega)) (by first|omega|(simp at *;omega)) Z Z Z) Z (js Z (jl Z (jo Z (jn (ae (ac (js Z (cW Z (js Z (jn (ak (ap (X:=Nat) (fun i=>⟨[(1,bO ms),(4,.c (.pt 4 0 0)),(5,.c (.pt 5 0 0)),(12,bM ts),(13,eI ts.length),(14,eI i)],[(4,.box [.d (.int .i64 0),.d .nils]),(5,.box [.d (.int .i64 (bm Tm.c (ts.take i) (ms.take i))),.rs 10 0 10]),(10,aE (bE (ts.take i) (ms.take i)))]⟩) (fun i=>i≤ts.length) (fun i=>ts.length-i) 0 (Ent.to ⟨Z,Z,Z,Z,Z,Z,tv⟩ Z) ?_ (fun i hi=>?_))))))))))))))))
 exact cG _
 refine ac (js Z (jn (ae (zc Z (fun z15=>?_) (fun z15=>?_)))))
 try simp only[bo]at z15
 refine af (ae (ak (ac (js Z (jh Z Z (js Z (jl Z (js Z (jo Z (jn (ae ?_)))))))))))
 have hi0:=hi
 have hts:=Small.of (hc.get (show i<ts.length by omega))
 have hd1:=j1 (f:=Tm.c) (ts:=ts) (ms:=ms) (fun t ht=>(Small.of (hc.ok t ht)).c) hm hi (by omega)
 have hd2:=gL (f:=Tm.c) (ts:=ts) (ms:=ms) (i:=i) (by omega) (by omega)
 have hmi:num (ms.getD i default)=true:=by rw[aw (by omega)];exact List.all_eq_true.1 hm _ (List.getElem_mem _)
 have hmu:=ff hmi hts.c
 refine fJ [_,_,_,_,_,_,_,_,_,_,_,_] [p0,pz [0],p0,p0,pz [2,3],pz [2,3,4],p0,pz [6],pz (rg 2 6),pz (rg 0 9),pz (rg 0 10),pe (rg 0 11) 0] [11] [_,_] (k4 Z (ai (vN Z) (kc Z (kc Z (kc Z (ai (vF Z) (ai (vF Z) (kc Z (ai (eS Z Z Z) trivial))))))))) ?_
 refine jw [6,7,18,15,1,4,5,12,13,14] Z (bJ ?_)
 refine ac (jb Z (cW Z (js Z (jn (ak (ap (X:=Nat) (fun j=>⟨[(1,bO ms),(4,.c (.pt 4 0 0)),(5,.c (.pt 5 0 0)),(12,bM ts),(13,eI ts.length),(14,eI i),(6,eI i),(31,bO (ts.getD i default).xs),(32,eI (ts.getD i default).xs.length),(33,eI j)],[(4,.box [.d (.int .i64 0),.d .nils]),(5,.box [.d (.int .i64 (bm Tm.c (ts.take i) (ms.take i)+ms.getD i default*(ts.getD i default).c)),.rs 10 0 10]),(10,aE (fv ts ms i j))]⟩) (fun j=>j≤(ts.getD i default).xs.length) (fun j=>(ts.getD i default).xs.length-j) 0 (((ah [4,5,10] (e':=[(1,_),(4,_),(5,_),(12,_),(13,_),(14,_),(6,_),(31,_),(32,_),(33,_)]) Z Z ⟨Z,Z,Z,Z,Z,Z,Z,Z,Z,Z,tv⟩ Z)).trans (Ent.to ⟨Z,Z,Z,Z,Z,Z,Z,Z,Z,Z,tv⟩ (by rw[n4];rfl))) ?_ (fun j hi=>?_)))))))
 exact cG _
 refine ac (js Z (jn (ae (zc Z (fun z34=>?_) (fun z34=>?_)))))
 try simp only[bo]at z34
 refine af (ae (ak (ac (js Z (jh Z Z (jc Z (jn ?_)))))))
 have hjl:j<10:=by have:=pW (hc.get (show i<ts.length by omega));omega
 have hpj:=mX (ts:=ts) (ms:=ms) (i:=i) hjl
 have hps:=n5 (ts:=ts) (ms:=ms) (i:=i) hjl
 have hpl:=ea (ts:=ts) (ms:=ms) (i:=i) (j:=j)
 have hd3:=j1 (f:=jU j) (ts:=ts) (ms:=ms) (fun t ht=>(Small.of (hc.ok t ht)).get j) hm hi0 (by omega)
 have hmx:=ff hmi (hts.get j)
 rw[show(ts.getD i default).xs.getD j 0=(ts.getD i default).xs.getD j default from Z]at hmx
 refine fJ [_,_,_,_,_,_,_,_,_,_,_,_,_,_] [p0,pz [0],p0,pz [0,1,2],pz (rg 0 4),p0,p0,pz [5,6],pz [5,6,7],p0,pz (rg 5 5),pz (rg 0 11),pz (rg 0 12),pe (rg 0 13) 0] [13] [_,_] (kc Z (kc Z (kc Z (ai (vI Z Z) (ai (bc O (ex:=[.int .i64 ((fv ts ms i j).getD j default)]) Z Z Z Z (vx (by omega)) Z) (kc Z (kc Z (ai (vN Z) (kc Z (kc Z (ai (vF Z) (ai (vF Z) (ai (vI Z Z) (ai (cE (ex:=[.int .i64 ((fv ts ms i j).getD j default)]) (xs':=(fv ts ms i (j+1)).map (fun n=>[D.int .i64 n])) O Z Z Z Z Z Z Z Z Z Z Z Z Z Z Z (vx (by omega)) (by rw[←hps,List.map_set];simp only[Int.toNat_natCast,Nat.zero_add];rfl) Z) trivial)))))))))))))) ?_
 refine jw [34,1,4,5,12,13,14,6,31,32,33] Z (bJ ?_)
 refine ag (ji Z (js Z (jn ?_)))
 refine⟨j+1,Ent.to ⟨Z,Z,Z,Z,Z,Z,Z,Z,Z,Z,tv⟩ Z,by omega,by omega⟩
 try simp only[bo]at z34
 refine aR (ag (ji Z (js Z (jn ?_))))
 refine⟨i+1,((ah [4,5,10] (e':=[(1,_),(4,_),(5,_),(12,_),(13,_),(14,_)]) Z Z ⟨Z,Z,Z,Z,Z,Z,tv⟩ Z)).trans (Ent.to ⟨Z,Z,Z,Z,Z,Z,tv⟩ ?_),by omega,by omega⟩
 rw[hd2,←qf (j:=j) (by omega) (by omega) (by omega)];rfl
 try simp only[bo]at z15
 refine aR (ac ?_)
 obtain rfl:i=ts.length:=by omega
 have hcl:=kl (ts:=ts.take ts.length) (ms:=ms.take ts.length)
 refine an (Ent.freeze 10 (e':=[(5,_),(4,_)]) Z (fe [5,4] Z) (cb Z (.cons Z (.box (ck Z (.cons (.row Z (by rw[bA,hcl])) .nil))) (.skip .nil)))) ?_
 refine js Z (aj O Z Z Z Z (JO (t:=⟨bm Tm.c (ts.take ts.length) (ms.take ts.length),bE (ts.take ts.length) (ms.take ts.length)⟩) h1 h2) (ab Z) Z Z Z Z (B0:=55000) Z Z (jo Z (jr ?_)))
 refine eR Z ?_
 have e1:bm Tm.c (ts.take ts.length) (ms.take ts.length)=bm Tm.c ts ms:=nj hle
 have e2:bE (ts.take ts.length) (ms.take ts.length)=bE ts ms:=sm hle
 rw[e1,e2]
 exact .v (.agg (ax Z))
theorem JG{t:Tm}(h:t.ok=true):CtxOk [t]:=⟨fun u hu=>by simp at hu;subst hu;exact h,by simp⟩
theorem JF{t:Tm}(h:Small t): -1000000≤bm Tm.c [t] [-1]∧bm Tm.c [t] [-1]≤1000000:=by
 have:=IZ.1 h.c
 show -1000000≤ -1*t.c+0∧ -1*t.c+0≤1000000
 omega
theorem zt(ht:t.ok=true):MQ h1 h2 138 [cR t] [] (Plain (cR (dP t))):=by
 refine MC.data (jB 13 h1 h2 Tryz.func138 Z fun O hF=>?_)
 have hd1:=JF (Small.of ht)
 refine ac (jx Z (jl Z (aN (js Z (hp (aZ O Z Z Z Z Z Z Z Z Z Z Z) Z (hp (bz O Z Z Z) Z (an (Ent.freeze 5 (e':=[(6,_),(5,_),(2,_)]) Z (.cons Z (.keep Z) (.cons Z (.c (.row Z Z)) (fe [2] Z))) (cb Z (cb Z (.skip (cw Z .nil))))) ?_)))))))
 refine an (Ent.freeze 6 (e':=[(6,_),(5,_),(2,_)]) Z (.cons Z (.c (.row Z Z)) (fe [5,2] Z)) (cb Z (cb Z (.skip .nil)))) ?_
 refine aj O Z Z Z Z (B1 (ts:=[t]) (ms:=[-1]) h1 h2 (JG ht) (by decide) (cQ 1)) (ab Z) Z Z Z Z (B0:=8000) Z Z (jl Z (jo Z (aN (jb Z (ji Z (js Z (jo Z (aN (js Z (jo Z (jr ?_)))))))))))
 refine eR Z ?_
 exact .v (.agg (ax Z))
theorem B7:MQ h1 h2 98 [BJ s] [] (Plain (GX (gp s))):=by
 refine MC.data (jB 23 h1 h2 Tryz.func98 Z fun O hF=>?_)
 refine ac (jx Z (jb Z (jn (ae (ac (js Z (lo Z (B3 (s:=s) h1 h2) 6000 Z (jb Z (ar 5 Z Z Z (fun hx=>nz hx Z (nz hx Z (sD O hx Z Z Z Z (zt (t:=s.goal) h1 h2 (fj (by simpa using hx)).2.2) (ab Z) (B0:=11000) Z Z Z Z Z Z Z Z (bj O hx Z Z Z Z (mF (t:=dP s.goal) h1 h2) (ab Z) Z Z Z Z Z Z Z (B0:=12000) Z (nz hx Z (AN.nil)))))) Z Z (st (ay O Z Z Z Z Z) Z (jn (zc Z (fun z13=>?_) (fun z13=>?_)))))))))))))
 refine ac (jb Z (jr ?_))
 refine eR Z ?_
 have hg:(dF s&&(dP s.goal).ok)=false:=by have h9:=z13;rw[g2]at h9;exact nt h9
 rw[show gp s=([],false)from if_neg (by rw[hg];decide)]
 exact .tup (.cons (.c .nils) (.cons (.c .d) .nil))
 refine af (ae (jw [1,0] Z ?_))
 have hg:(dF s&&(dP s.goal).ok)=true:=by have h9:=z13;rw[g2]at h9;exact nf h9
 have hsq:=(bC _ _ ▸ hg).1
 obtain⟨hs1,hs2,hs3⟩:=fj hsq
 refine kx [_,_,_,_,_,_,_,_,_,_,_] [p0,pz [0],pe [0,1] 0,pn [] 0 1,pn [3] 0 1,pe (rg 0 5) 1,pe (rg 0 6) 2,pe (rg 0 7) 3,pe (rg 0 8) 4,pn (rg 0 9) 5 5,pn (rg 0 10) 5 5] [2,5,6,7,8] [_,_,_,_,_,_] [[],[],[],[],[17000]] (ka Z Z (ka Z Z (ai (ai (az (dO O (B0:=17000) Z Z Z Z (JJ (ts:=s.facts) h1 h2) (ab Z) Z Z Z Z)) Z) (ai (ka Z Z (kw Z Z)) (ai (ka Z Z (kw Z Z)) (ai (ai (az (bB O (B0:=20000) Z Z Z Z (zt (t:=s.goal) h1 h2 hs3) (ab Z) Z Z Z Z Z)) Z) (ai (ai (az (bB O (B0:=21000) Z Z Z Z (B5 (t:=dP s.goal) h1 h2) (ab Z) Z Z Z Z Z)) Z) (ai (ai (az (cD O Z Z Z Z Z Z Z Z Z Z Z Z Z Z)) Z) (ai (ai (bW (own:=false) (xs:=s.facts.map Tm.cells) (ys:=[Tm.cells (dP s.goal)]) (zs:=(s.facts++[dP s.goal]).map Tm.cells) (n:=(s.facts++[dP s.goal]).length) O Z Z Z Z Z Z Z Z Z Z Z Z Z Z Z Z (.row Z (bA _).symm) (.whole Z Z (.inr ⟨Z,Z⟩)) (by simp) Z (by simp;omega) (by simp;omega) (by simp) (by simp) Z) Z) (ka Z Z (ka Z Z trivial))))))))))) ?_
 refine jw [3,2,1,0] Z (bJ ?_)
 refine dJ ?_
 refine eR Z ?_
 rw[show gp s=(s.facts++[dP s.goal],true)from if_pos hg]
 exact .tup (.cons (.c (.whole Z (bA _).symm)) (.cons (.c .d) .nil))
theorem yg{n:Int}:MQ h1 h2 109 [eI n] [] (Plain (eI n)):=by
 refine aB ?_ Z
 refine jB 4 h1 h2 Tryz.func109 Z fun O hF=>?_
 refine ac (js Z (aN (jb Z (jr ?_))))
 refine eR Z ?_
 first|rfl|skip
theorem c90{k:Int}{n:Nat}(hn:n≤1073741824):MQ h1 h2 155 [eI k,eI n] [] (Plain (eB (eW 0 ((n:Int)-1) k))):=by
 refine aB ?_ Z
 refine jB 10 h1 h2 Tryz.func155 Z fun O hF=>?_
 refine ac (js Z (aN (jb Z (lo Z (yg (n:=n) h1 h2) 8000 Z ?_))))
 first|refine ji Z ?_|refine db Z Z ?_
 refine lo Z (pQ h1 h2) 10000 Z (js Z (jr ?_))
 refine eR Z ?_
 first|rfl|skip
theorem JU{ctx:List Tm}(hc:CtxOk ctx)(hm:ms.all num=true):MQ h1 h2 153 [bM ctx,bO ms] [] (Plain (eB (dH ctx ms))):=by
 refine aB ?_ Z
 refine jB 23 h1 h2 Tryz.func153 Z fun O hF=>?_
 refine ac (js Z (jn (ae (ac (js Z ?_)))))
 first|refine cW Z ?_|refine js Z ?_|refine db Z Z ?_
 refine js Z ?_
 first|refine cW Z ?_|refine js Z ?_|refine db Z Z ?_
 refine js Z (jn (zc Z (fun z10=>?_) (fun z10=>?_)))
 try simp only[bo]at z10
 refine ac (js Z (jr ?_))
 refine eR Z ?_
 rw[dH,decide_eq_false (by omega),Bool.false_and]
 try simp only[bo]at z10
 refine af (ac (jb Z (aj O Z Z Z Z (B1 (ts:=ctx) (ms:=ms) h1 h2 hc hm (by omega)) (ab Z) Z Z Z Z (B0:=14000) Z Z (jl Z (jo Z (aN (jb Z ?_)))))))
 first|refine cW Z ?_|refine js Z ?_|refine db Z Z ?_
 refine jb Z (ar 3 Z Z Z (fun hx=>nz hx Z (nz hx Z (nz hx Z (AN.nil)))) Z Z ?_)
 first|refine st (aq O Z Z Z Z Z) Z ?_|refine st (ay O Z Z Z Z Z) Z ?_|refine st (Val.pickB O Z Z Z Z Z) Z ?_
 refine js Z (jr ?_)
 refine eR Z ?_
 rw[dH,decide_eq_true (show ms.length=ctx.length by omega),Bool.true_and,Bool.cond_false_right,show decide (((gV ctx ms).xs.length:Int)=0)=decide ((bv (bE ctx ms)).length=0)from decide_eq_decide.2 (by show((bv (bE ctx ms)).length:Int)=0↔_;omega)]
variable{r:List Tm}
theorem Ec{c:Tm}(hl:(c::r).length≤1000):MQ h1 h2 110 [bM (c::r)] [] (Rows (.c (.rs 0 0 (c::r).length)) [aD (c::r)]):=by
 refine cq (jB 8 h1 h2 Tryz.func110 Z fun O hF=>?_)
 refine ac (js Z (jn (ae (ac (jb Z (jn (zc Z (fun z4=>?_) (fun z4=>?_))))))))
 exact nf z4
 refine af (ac (hp (bz O Z Z Z) Z (js Z (an (c9 5 Z) (hp (ko (own:=false) (zs:=(c::r).map Tm.cells) (n:=(c::r).length) O Z (.row Z Z) (.slc (.inl Z)) (by simp) Z (by simp at hl ⊢;omega) (by simp at hl ⊢;omega) Z (by simp)) Z (js Z (jr ?_)))))))
 refine⟨.inl Z,_,bK,_,Z,[7],by decide,Z,Z,Z⟩
theorem B2{c:Tm}(hl:(c::r).length≤1000):MQ h1 h2 154 [bM (c::r),cR t] [] (Plain (bM (c::r++[t]))):=by
 refine MC.data (jB 10 h1 h2 Tryz.func154 Z fun O hF=>?_)
 refine ac (jx Z (js Z (jn (ae (jw [3,0,1] Z (rk [_,_,_,_,_,_] [p0,pe [0] 0,pn [] 0 1,pn [2] 0 1,pe [0,1,2,3] 1,pn [0,1,2,3,4] 2 2] [1,4] 3 8 (.row false 2 [Tm.cells t]) [_,_] [_] [[],[7000]] (kf Z Z Z (ai (ai (au (az (dO O (B0:=7000) Z Z Z Z (Ec (c:=c) (r:=r) h1 h2 hl) (ab Z) Z Z Z Z)) (az (dO O (B0:=7000) Z Z Z Z (Ec (c:=c) (r:=r) h1 h2 hl) (ab Z) Z Z Z Z))) Z) (ai (kf Z Z Z (kg Z Z Z)) (ai (ai (ai (az (cD O Z Z Z Z Z Z Z Z Z Z Z Z Z Z)) Z) (ai (az (cD O Z Z Z Z Z Z Z Z Z Z Z Z Z Z)) Z)) (ai (ai (au trivial (bW (own:=false) (xs:=(c::r).map Tm.cells) (ys:=[Tm.cells t]) (zs:=(c::r++[t]).map Tm.cells) (n:=(c::r++[t]).length) O Z Z Z Z Z Z Z Z Z Z Z Z Z Z Z Z (.row Z (bA _).symm) (.whole Z Z (.inr ⟨Z,Z⟩)) (by simp) Z (by simp at hl ⊢;omega) (by simp at hl ⊢;omega) (by simp) (by simp) Z)) Z) (ai (ai (au trivial (V Z)) Z) trivial)))))) ?_))))))
 refine jw [4,1] Z (bJ ?_)
 refine dJ ?_
 refine eR Z ?_
 exact .v (.c (.whole Z (bA _).symm))
theorem JN{x:Int}(hx: -1000000≤x∧x≤1000000):MQ h1 h2 170 [eI x] [] (Plain (eI x.natAbs)):=by
 refine aB ?_ Z
 refine jB 7 h1 h2 Tryz.func170 Z fun O hF=>?_
 refine ac (js Z (aN (jb Z (ji Z (jb Z (jr ?_))))))
 refine eR Z ?_
 exact congrArg eI (show(if 0-x>x then 0-x else x)=(x.natAbs:Int) by split<;>omega)
def tV(c g:Int):Int:=if c.tmod g<0 then c.tdiv g-1 else c.tdiv g
abbrev Kd(t:Tm):Tm:=⟨tV t.c (bk t.xs),t.xs.map fun x=>x.tdiv (bk t.xs)⟩
def fO(t:Tm):Tm×Bool:=if bk t.xs<2 then(⟨0,[]⟩,false)else(Kd t,true)
def gz(n:Nd):Int:=if gN n=true then(if n.kind=1 then 0 else if n.kind=2 then 2 else 1)else -1
theorem BZ{xs:List Int}(ht:xs.all num=true):MQ h1 h2 146 [bO xs] [] (Plain (eI (bk xs))):=by
 refine aB ?_ Z
 refine jB 26 h1 h2 Tryz.func146 Z fun O hF=>?_
 have hl:xs.length≤L:=by simpa[As.fact,A.fact,M.fact,D.fact,Ds.fact]using hF.1.1
 refine ac (js Z (aN (js Z (jn (ae (ac (js Z (cW Z (js Z (jn (ak (ap (X:=Nat) (fun i=>⟨[(3,eI (bk (xs.take i))),(8,bO xs),(9,eI xs.length),(10,eI i)],[]⟩) (fun i=>i≤xs.length) (fun i=>xs.length-i) 0 (Ent.env ⟨Z,Z,Z,Z,tv⟩) ?_ (fun i hi=>?_)))))))))))))
 exact cG _
 refine ac (js Z (jn (ae (zc Z (fun z11=>?_) (fun z11=>?_)))))
 try simp only[bo]at z11
 refine af (ae (ak (ac ?_)))
 have hi0:=hi
 have hx:=IZ.1 (List.all_eq_true.1 ht _ (List.getElem_mem (show i<xs.length by omega)))
 rw[←aw (by omega)]at hx
 have hgs:=lP (xs:=xs) (i:=i) (by omega)
 have hgl:=pC ht hi
 refine st (aQ O Z Z Z Z Z Z Z Z (dx (by omega))) Z (jb Z (aN (jb Z (lo Z (JN (x:=xs.getD i default) h1 h2 hx) 17000 Z (jb Z (jn (ae (ak (ap (X:=Nat×Nat) (fun z=>⟨[(8,bO xs),(9,eI xs.length),(10,eI i),(6,eI z.1),(7,eI z.2)],[]⟩) (fun z=>Nat.gcd z.1 z.2=Nat.gcd (bk (xs.take i)) (xs.getD i default).natAbs∧z.1≤1000000∧z.2≤1000000) (fun z=>z.2) (bk (xs.take i),(xs.getD i default).natAbs) (Ent.env ⟨Z,Z,Z,Z,Z,tv⟩) ?_ (fun z hi=>?_))))))))))
 exact⟨Z,hgl,by show(xs.getD i default).natAbs≤1000000;omega⟩
 have hz:=iM (a:=z.1) (b:=z.2) (by omega)
 refine ae (ac (jb Z (jn (zc Z (fun z18=>?_) (fun z18=>?_)))))
 try simp only[bo]at z18
 refine af (ak (ov O _ [_,_,_,_,_,_] [p0,p0,p0,pz [1,2],pz [0,1],pz (rg 0 5)] [] [[],[],[6],[6],[],[6]] [_] Z Z (by decide) (by decide) (by kernel_rfl) (kc Z (kc Z (kc Z (ai (jP O Z Z Z Z (by omega) (by omega) (by omega)) (kc Z (kc Z trivial)))))) ?_))
 have hm:z.1%z.2<z.2:=Nat.mod_lt _ (by omega)
 refine⟨(z.2,z.1%z.2),Ent.env ⟨Z,Z,Z,Z,Z,tv⟩,⟨?_,hi.2.2,by show z.1%z.2≤1000000;omega⟩,hm⟩
 show Nat.gcd z.2 (z.1%z.2)=_
 rw[←hi.1,Nat.gcd_comm z.2,←Nat.gcd_rec,Nat.gcd_comm]
 try simp only[bo]at z18
 refine aR (ag (jb Z (jn (ag (ji Z (js Z (jn ?_)))))))
 have hz0:z.2=0:=by omega
 have hz1:z.1=bk (xs.take (i+1)):=by rw[hgs,←hi.1,hz0,Nat.gcd_zero_right]
 rw[hz1]
 exact⟨i+1,Ent.env ⟨Z,Z,Z,Z,tv⟩,by omega,by omega⟩
 try simp only[bo]at z11
 refine aR (ac (jb Z (jr ?_)))
 refine eR Z ?_
 obtain rfl:i=xs.length:=by omega
 rw[List.take_length]
theorem JP{a b:Int}(ha: -1000000≤a∧a≤1000000)(hb:b≠0):MQ h1 h2 178 [eI a,eI b] [] (Plain (eI (tV a b))):=by
 refine aB ?_ Z
 refine jB 16 h1 h2 Tryz.func178 Z fun O hF=>?_
 have hq:=ej (b:=b) ha
 have hr:=iM (b:=b) ha
 refine ac (js Z (aN (jb Z (st (vQ Z Z Z Z) Z (js Z (jn (ae (ac (jb Z (st (vR Z Z Z Z) Z (js Z (jn (zc Z (fun z12=>?_) (fun z12=>?_))))))))))))))
 try simp only[bo]at z12
 refine ag (js Z (ji Z (js Z (aN (jb Z (jr ?_))))))
 refine eR Z ?_
 rw[tV,if_pos z12]
 try simp only[bo]at z12
 refine af (ac (jb Z (jr ?_)))
 refine eR Z ?_
 rw[tV,if_neg (by omega)]
theorem rD:MQ h1 h2 140 [cR t] [] (Rows (.agg [.d (.int .i64 t.c),.rs 0 0 t.xs.length]) [aE t.xs]):=by
 refine cq (jB 9 h1 h2 Tryz.func140 Z fun O hF=>?_)
 refine ac (jx Z (jl Z (jn (ae (fJ [_,_,_,_,_,_,_] [pn [] 0 1,pn [0] 0 1,p0,pz [2],pe [2,3] 0,pn (rg 0 5) 1 1,pe (rg 0 6) 1] [4,6] [_,_,_] (ai (kc Z (V Z)) (ai (kc Z (V Z)) (kc Z (kc Z (ai (dg O (B0:=8000) Z Z Z Z (vz (xs:=t.xs) h1 h2) (ab Z) Z Z Z Z Z) (kc Z (ai (eS Z Z Z) trivial))))))) ?_)))))
 refine dJ ?_
 refine⟨.inl Z,_,bK,_,Z,[8000],by decide,Z,Z,Z⟩
def oy(xs:List Int)(g:Int)(i:Nat):List Int:=(xs.take i).map (fun x=>x.tdiv g)++xs.drop i
theorem kL{xs g}:oy xs g 0=xs:=by simp[oy]
theorem lA{xs:List Int}{g:Int}:oy xs g xs.length=xs.map fun x=>x.tdiv g:=by simp[oy]
theorem mr{xs g i}:(oy xs g i).length=xs.length:=by simp[oy];omega
theorem fZ{xs:List Int}{g:Int}{i:Nat}(h:i<xs.length):((oy xs g i).map fun n=>[D.int .i64 n])[i]? = some [.int .i64 (xs.getD i default)]:=by
 rw[List.getElem?_map,oy,List.getElem?_append_right (by simp;omega),bA,List.length_take,Nat.min_eq_left (Nat.le_of_lt h),Nat.sub_self,List.getElem?_drop,Nat.add_zero,List.getElem?_eq_getElem h,aw h]
 rfl
theorem jA{xs:List Int}{g:Int}{i:Nat}(h:i<xs.length):(oy xs g i).set i ((xs.getD i default).tdiv g)=oy xs g (i+1):=by
 have hl:((xs.take i).map fun x=>x.tdiv g).length=i:=by simp;omega
 rw[oy,List.set_append_right _ _ (by omega),hl,Nat.sub_self,oy,List.take_succ_eq_append_getElem h,List.drop_eq_getElem_cons h,List.set_cons_zero,aw h,List.map_append,gm]
 rfl
theorem G5(ht:Small t):MQ h1 h2 156 [cR t] [] (Plain (iG (fO t))):=by
 refine MC.data (jB 36 h1 h2 Tryz.func156 Z fun O hF=>?_)
 have hl:t.xs.length≤L:=by simpa[As.fact,A.fact,M.fact,Ms.fact,D.fact,Ds.fact]using hF.1.2.1.1
 have z0:=IZ.1 ht.c
 refine ac (jx Z (am ?_))
 refine jl Z (am ?_)
 refine js Z (aN (jb Z (lo Z (BZ (xs:=t.xs) h1 h2 ht.xs) 10000 Z (js Z (jn (ae (ac (jb Z (jn (zc Z (fun z11=>?_) (fun z11=>?_)))))))))))
 try simp only[bo]at z11
 refine ac (js Z (jo Z (am ?_)))
 refine js Z (jr ?_)
 refine eR Z ?_
 rw[show fO t=(⟨0,[]⟩,false)from if_pos (by omega)]
 exact .tup (.cons (.agg (.cons .d (.cons .nils .nil))) (.cons (.c .d) .nil))
 try simp only[bo]at z11
 refine af (ac ?_)
 obtain⟨g,hg⟩: ∃g:Int,g=(bk t.xs:Int):=⟨_,rfl⟩
 rw[←hg]
 rw[←hg]at z11
 refine js Z (bS O (B0:=15000) Z Z Z Z (rD (t:=t) h1 h2) (ab Z) Z Z Z Z Z Z (am ?_))
 refine jl Z (am ?_)
 refine jo Z (am ?_)
 refine aN (jc Z (lo Z (JP (a:=t.c) (b:=g) h1 h2 z0 (by omega)) 19000 Z (js Z (jo Z (am ?_)))))
 refine jn (ae (ac (jb Z (db Z Z (js Z (jn (ak (ap (X:=Nat) (fun i=>⟨[(2,.c (.pt 2 0 0)),(4,eI g),(5,.c (.pt 5 0 0)),(22,eI t.xs.length),(23,eI i)],[(2,.box [.d (.int .i64 0),.d .nils]),(5,.box [.d (.int .i64 (tV t.c g)),.rs 15000 0 t.xs.length]),(15000,aE (oy t.xs g i))]⟩) (fun i=>i≤t.xs.length) (fun i=>t.xs.length-i) 0 (((ah [2,5,15000] (e':=[(2,_),(4,_),(5,_),(22,_),(23,_)]) Z Z ⟨Z,Z,Z,Z,Z,tv⟩ Z)).trans (Ent.to ⟨Z,Z,Z,Z,Z,tv⟩ (by rw[kL];rfl))) ?_ (fun i hi=>?_)))))))))
 exact cG _
 refine ac (js Z (jn (ae (zc Z (fun z24=>?_) (fun z24=>?_)))))
 try simp only[bo]at z24
 refine af (ae (ak (ac (jb Z (jn (ag ?_))))))
 have hx:=ej (b:=g) (IZ.1 (List.all_eq_true.1 ht.xs _ (List.getElem_mem (show i<t.xs.length by omega))))
 rw[←aw (by omega)]at hx
 have hkl:=mr (xs:=t.xs) (g:=g) (i:=i)
 refine jc Z (db Z Z (st (bc O (ex:=[.int .i64 (t.xs.getD i default)]) Z Z Z Z (by rw[Nat.zero_add];exact fZ (by omega)) Z) Z (js Z (st (vQ Z Z Z Z) Z (db Z Z (hp (bL (ex:=[.int .i64 (t.xs.getD i default)]) (xs':=(oy t.xs g (i+1)).map (fun n=>[D.int .i64 n])) O Z Z Z Z Z Z Z Z Z Z Z Z Z Z (by rw[Nat.zero_add];exact fZ (by omega)) (by rw[←jA (by omega),List.map_set,Nat.zero_add];rfl)) Z (am ?_)))))))
 refine jn (ag (ji Z (js Z (jn ?_))))
 refine⟨i+1,Ent.to ⟨Z,Z,Z,Z,Z,tv⟩ Z,by omega,by omega⟩
 try simp only[bo]at z24
 refine aR (ac (js Z (jo Z (am ?_))))
 refine js Z (jr ?_)
 refine eR Z ?_
 obtain rfl:i=t.xs.length:=by omega
 rw[show fO t=(⟨tV t.c g,t.xs.map fun x=>x.tdiv g⟩,true) by rw[hg];exact if_neg (by omega)]
 have hkl:=mr (xs:=t.xs) (g:=g) (i:=t.xs.length)
 exact .tup (.cons (.agg (.cons .d (.cons (.whole (by rw[←lA];rfl) (by simp)) .nil))) (.cons (.c .d) .nil))
theorem Kh{n:Nd}(h:n.kind=1):gN n=((decide (n.fact=0)&&n.term.zero)&&yc n.mul):=by rw[gN,if_pos h]
theorem Kg{n:Nd}(h:n.kind=2):gN n=((decide (n.fact=0)&&n.term.ok)&&decide ((n.mul.length:Int)=0)):=by rw[gN,if_neg (by omega),if_pos h]
theorem Kf{n:Nd}(h:n.kind=3):gN n=((eW 0 19 n.fact&&n.term.zero)&&decide ((n.mul.length:Int)=0)):=by rw[gN,if_neg (by omega),if_neg (by omega),if_pos h]
theorem jM{n:Nd}(h:gN n=false):gz n= -1:=by rw[gz,if_neg (by rw[h];decide)]
theorem fG{n:Nd}(h:gN n=true):gz n=if n.kind=1 then 0 else if n.kind=2 then 2 else 1:=by rw[gz,if_pos h]
theorem Kp{a b c d:Bool}:(bif bif bif a then b else false then c else false then d else false)=((a&&b)&&(d&&c)):=by cases a<;>cases b<;>cases c<;>cases d<;>rfl
theorem Ko{a b c:Bool}:(bif bif a then b else false then c else false)=((a&&c)&&b):=by cases a<;>cases b<;>cases c<;>rfl
theorem Kn{a b c:Bool}:(bif bif a then b else false then c else false)=((a&&b)&&c):=by cases a<;>cases b<;>cases c<;>rfl
def iJ(f:Nat→Option (Nat×Int)):Nat→Nat→Int→Option (Nat×Int)
  | 0,k,d=>some (k,d)
  | q + 1,k,d=>match f k with
    | none=>none
    | some (k',b)=>iJ f q k' (if b>d then b else d)
def f9 : Nat→List Nd→Nat→Option (Nat×Int)
  | 0,_,_=>none
  | n + 1,p,k=>if p.length≤k then none else if gz (p.getD k default)<0 then none else
      (iJ (f9 n p) (gz (p.getD k default)).toNat (k+1) 0).map fun r=>(r.1,r.2+1)
theorem dY{f:Nat→Option (Nat×Int)}{q k k':Nat}{d b:Int}(h:f k=some (k',b)):iJ f (q+1) k d=iJ f q k' (if b>d then b else d):=by rw[iJ,h]
theorem ik{f:Nat→Option (Nat×Int)}{q k:Nat}{d:Int}(h:f k=none):iJ f (q+1) k d=none:=by rw[iJ,h]
theorem uG{f:Nat→Option (Nat×Int)}{N:Nat}(hf: ∀k b k',f k=some (k',b)→k<k'∧k'≤N∧0≤b∧b≤(k':Int)-k): ∀{q k:Nat} {d d':Int} {k' s:Nat},iJ f q k d=some (k',d')→k≤N→s≤k→0≤d→d≤(k:Int)-s→k≤k'∧k'≤N∧0≤d'∧d'≤(k':Int)-s
 | 0,k,d,d',k',s,h,hk,hs,h0,h1=>by simp only[iJ,dL,Prod.mk.injEq]at h;omega
 | q + 1,k,d,d',k',s,h,hk,hs,h0,h1=>by
  cases hx:f k with
  | none=>rw[ik hx]at h;cases h
  | some x=>
   obtain⟨k1,b⟩:=x
   rw[dY hx]at h
   have h3:=hf k b k1 hx
   have h4:=uG hf h h3.2.1 (s:=s) (by omega) (by split<;>omega) (by split<;>omega)
   omega
theorem xW: ∀{n:Nat} {p:List Nd} {k k':Nat} {d:Int},f9 n p k=some (k',d)→k<k'∧k'≤p.length∧0≤d∧d≤(k':Int)-k
 | 0,_,_,_,_,h=>by cases h
 | n+1,p,k,k',d,h=>by
  unfold f9 at h
  split at h
  cases h
  split at h
  cases h
  simp only[Option.map_eq_some_iff]at h
  obtain⟨⟨k2,d2⟩,h1,h2⟩:=h
  simp only[Prod.mk.injEq]at h2
  have:=uG (N:=p.length) (fun k b k' h=>xW h) h1 (by omega) (cQ _) (Int.le_refl 0) (by omega)
  omega
abbrev eN(r:Option (Nat×Int)):Int:=match r with|some (k,_)=>k|none=>0
abbrev eD(r:Option (Nat×Int)):Int:=match r with|some (_,d)=>d|none=>0
abbrev eO(r:Option (Nat×Int)):Bool:=match r with|some _=>true|none=>false
abbrev D6(r:Option (Nat×Int)):A:=.tup [eI (eN r),eI (eD r),eB (eO r)]
theorem xN{r:Option (Nat×Int)}(h:eO r=true): ∃k d,r=some (k,d):=by
 cases r with
 | none=>cases h
 | some x=>exact⟨x.1,x.2,Z⟩
theorem Bu{r:Option (Nat×Int)}(h:eO r=false):r=none:=by
 cases r with
 | none=>rfl
 | some x=>cases h
theorem Bg(n:Nd):gz n≤2:=by unfold gz;split<;>(try split)<;>(try split)<;>decide
def vt(p:List Nd):Bool:=decide ((p.length:Int)≤60)&&(eO (f9 (p.length+1) p 0)&&decide (eN (f9 (p.length+1) p 0)=p.length))
variable{n:Nd}
theorem JQ:MQ h1 h2 177 [aNd n] [] (Plain (eI (gz n))):=by
 refine aB ?_ Z
 refine jB 59 h1 h2 Tryz.func177 Z fun O hF=>?_
 have hl:n.mul.length≤L:=by simpa[As.fact,A.fact,M.fact,Ms.fact,D.fact,Ds.fact]using hF.1.2.2.2.2.1.1
 refine ac (jx Z (js Z (jn (ae (fJ [_,_,_,_,_,_,_,_,_,_,_,_,_] [pn [] 0 1,pn [0] 0 1,pn [0,1] 0 1,p0,pz [3],pe [3,4] 0,pn [] 0 1,pn [6] 0 1,pn [6,7] 0 1,pn [6,7,8] 0 1,pn (rg 0 6) 1 1,pn (rg 0 6++[10]) 1 1,pn (rg 0 12) 1 1] [5] [_,_] (ai (kc Z (V Z)) (ai (kc Z (V Z)) (ai (kc Z (V Z)) (kc Z (kc Z (ai (bg O (B0:=13000) Z Z Z Z (Eb h1 h2) (ab Z) Z Z Z Z Z) (ai (kc Z (V Z)) (ai (kc Z (V Z)) (ai (ai (bP O Z Z Z Z Z Z Z Z) (bP O Z Z Z Z Z Z Z Z)) (ai (kc Z (V Z)) (kc Z (kc Z (kc Z trivial))))))))))))) ?_)))))
 refine jw [5,4,3,2,1,0] Z (bJ ?_)
 refine ac (js Z (jn (ae (ac (jb Z (jn (ak (ac (jb Z (jn (zc Z (fun z19=>?_) (fun z19=>?_))))))))))))
 refine ac (jb Z (jf [22,20,18,17,6,5,4,3,2,1,0] Z (ar 1 Z Z Z (fun hx=>nz hx Z (AN.nil)) Z Z ?_)))
 first|refine st (aq O Z Z Z Z Z) Z ?_|refine st (ay O Z Z Z Z Z) Z ?_|refine st (Val.pickB O Z Z Z Z Z) Z ?_
 refine js Z (jf [25,20,18,17,6,5,4,3,2,1,0] Z (ar 4 Z Z Z (fun hx=>nz hx Z (nz hx Z (ny hx (bP O Z Z Z Z Z Z Z Z) Z (nz hx Z (AN.nil))))) Z Z ?_))
 first|refine st (aq O Z Z Z Z Z) Z ?_|refine st (ay O Z Z Z Z Z) Z ?_|refine st (Val.pickB O Z Z Z Z Z) Z ?_
 refine js Z (jf [31,20,18,17,6,5,4,3,2,1,0] Z (ar 3 Z Z Z (fun hx=>nz hx Z (nz hx Z (bj O hx Z Z Z Z (vA h1 h2) (ab Z) Z Z Z Z Z Z Z (B0:=35000) Z (AN.nil)))) Z Z ?_))
 first|refine st (aq O Z Z Z Z Z) Z ?_|refine st (ay O Z Z Z Z Z) Z ?_|refine st (Val.pickB O Z Z Z Z Z) Z ?_
 refine jf [35,20,18,17,6,5,4,3,2,1,0] Z (jn (zc Z (fun z35=>?_) (fun z35=>?_)))
 refine ag (js Z (jn (ac (jb Z (jf [2,20,18,17,5,4,3,1,0] Z (jr ?_))))))
 refine eR Z ?_
 have hb:gN n=true:=by rw[Kh (bt z19)];have h9:=z35;rw[Kp]at h9;exact h9
 rw[fG hb,if_pos (bt z19)]
 refine af (ac (jb Z (jf [2,20,18,17,5,4,3,1,0] Z (jr ?_))))
 refine eR Z ?_
 have hb:gN n=false:=by rw[Kh (bt z19)];have h9:=z35;rw[Kp]at h9;exact h9
 rw[jM hb]
 refine ac (jb Z (jf [36,20,18,17,6,5,4,3,2,1,0] Z (jn (zc Z (fun z36=>?_) (fun z36=>?_)))))
 refine ac (jb Z (jf [39,20,18,17,6,5,4,3,2,1,0] Z (ar 1 Z Z Z (fun hx=>nz hx Z (AN.nil)) Z Z ?_)))
 first|refine st (aq O Z Z Z Z Z) Z ?_|refine st (ay O Z Z Z Z Z) Z ?_|refine st (Val.pickB O Z Z Z Z Z) Z ?_
 refine js Z (jf [42,20,18,17,6,5,4,3,2,1,0] Z (ar 3 Z Z Z (fun hx=>nz hx Z (nz hx Z (bj O hx Z Z Z Z (mF h1 h2) (ab Z) Z Z Z Z Z Z Z (B0:=46000) Z (AN.nil)))) Z Z ?_))
 first|refine st (aq O Z Z Z Z Z) Z ?_|refine st (ay O Z Z Z Z Z) Z ?_|refine st (Val.pickB O Z Z Z Z Z) Z ?_
 refine jf [46,20,18,17,6,5,4,3,2,1,0] Z (jn (zc Z (fun z46=>?_) (fun z46=>?_)))
 refine ag (js Z (jn (ac (jb Z (jf [2,20,18,17,5,4,3,1,0] Z (jr ?_))))))
 refine eR Z ?_
 have hb:gN n=true:=by rw[Kg (bt z36)];have h9:=z46;rw[Ko]at h9;exact h9
 rw[fG hb,if_neg (b9 z19),if_pos (bt z36)]
 refine af (ac (jb Z (jf [2,20,18,17,5,4,3,1,0] Z (jr ?_))))
 refine eR Z ?_
 have hb:gN n=false:=by rw[Kg (bt z36)];have h9:=z46;rw[Ko]at h9;exact h9
 rw[jM hb]
 refine ac (jb Z (jf [47,20,18,17,6,5,4,3,2,1,0] Z (jn (zc Z (fun z47=>?_) (fun z47=>?_)))))
 refine ac (jb Z (jf [50,20,18,17,6,5,4,3,2,1,0] Z (lo Z (pQ h1 h2) 52000 Z (js Z (jf [52,20,18,17,6,5,4,3,2,1,0] Z (ar 1 Z Z Z (fun hx=>nz hx Z (AN.nil)) Z Z ?_))))))
 first|refine st (aq O Z Z Z Z Z) Z ?_|refine st (ay O Z Z Z Z Z) Z ?_|refine st (Val.pickB O Z Z Z Z Z) Z ?_
 refine js Z (jf [55,20,18,17,6,5,4,3,2,1,0] Z (ar 1 Z Z Z (fun hx=>nz hx Z (AN.nil)) Z Z ?_))
 first|refine st (aq O Z Z Z Z Z) Z ?_|refine st (ay O Z Z Z Z Z) Z ?_|refine st (Val.pickB O Z Z Z Z Z) Z ?_
 refine jf [57,20,18,17,6,5,4,3,2,1,0] Z (jn (zc Z (fun z57=>?_) (fun z57=>?_)))
 refine ag (js Z (jn (ac (jb Z (jf [2,20,18,17,5,4,3,1,0] Z (jr ?_))))))
 refine eR Z ?_
 have hb:gN n=true:=by rw[Kf (bt z47)];have h9:=z57;rw[Kn]at h9;exact h9
 rw[fG hb,if_neg (b9 z19),if_neg (b9 z36)]
 refine af (ac (jb Z (jf [2,20,18,17,5,4,3,1,0] Z (jr ?_))))
 refine eR Z ?_
 have hb:gN n=false:=by rw[Kf (bt z47)];have h9:=z57;rw[Kn]at h9;exact h9
 rw[jM hb]
 refine af (ac (jb Z (jf [2,20,18,17,5,4,3,1,0] Z (jr ?_))))
 refine eR Z ?_
 rw[jM (by rw[gN,if_neg (b9 z19),if_neg (b9 z36),if_neg (b9 z47)])]
variable{p:List Nd}{k:Nat}
theorem H7{n:Nat}(hk:k≤p.length)(hn:p.length<n+1+k)(ih: ∀k',k'≤p.length→p.length<n+k'→MQ h1 h2 152 [nN p,eI k'] [] (Plain (D6 (f9 n p k')))):MQ h1 h2 152 [nN p,eI k] [] (Plain (D6 (f9 (n+1) p k))):=by
 refine jB 45 h1 h2 Tryz.func152 Z fun O hF=>?_
 have hl:p.length≤L:=by simpa[As.fact,A.fact,M.fact,D.fact,Ds.fact]using hF.1.1
 refine ac (jc Z (jn (ae (ac (jb Z ?_)))))
 first|refine cW Z ?_|refine js Z ?_|refine db Z Z ?_
 refine js Z (jn (zc Z (fun z15=>?_) (fun z15=>?_)))
 try simp only[bo]at z15
 refine ac (jc Z (jr ?_))
 refine⟨.inl Z,_,bK,_,Z,?_,Z⟩
 rw[show f9 (n+1) p k=none from if_pos (by omega)]
 try simp only[bo]at z15
 refine af (ac (jb Z ?_))
 first|refine jh Z Z ?_|refine nC Z Z ?_|refine db Z Z ?_
 refine js Z (lo Z (JQ (n:=p.getD k default) h1 h2) 21000 Z (js Z (jn (ae (ac (jb Z (jn (zc Z (fun z22=>?_) (fun z22=>?_)))))))))
 try simp only[bo]at z22
 refine ac (jc Z (jr ?_))
 refine⟨.inl Z,_,bK,_,Z,?_,Z⟩
 rw[show f9 (n+1) p k=none by unfold f9;rw[if_neg (by omega)];exact if_pos z22]
 try simp only[bo]at z22
 refine af (ac (js Z ?_))
 first|refine ji Z ?_|refine db Z Z ?_
 refine js Z (aN (js Z (jn (ae (ak (ap (X:=Nat×Nat×Int) (fun x=>⟨[(0,nN p),(1,eI x.2.1),(7,eI x.1),(8,eI x.2.2)],[]⟩) (fun x=>x.2.1≤p.length∧k<x.2.1∧iJ (f9 n p) (gz (p.getD k default)).toNat (k+1) 0=iJ (f9 n p) x.1 x.2.1 x.2.2∧x.1≤2∧0≤x.2.2∧x.2.2≤(x.2.1:Int)-(k+1:Nat)) (fun x=>x.1) ((gz (p.getD k default)).toNat,k+1,0) (Ent.to ⟨Z,Z,congrArg (fun z=>some (eI z)) (Int.toNat_of_nonneg z22).symm,Z,tv⟩ Z) ?_ (fun x hi=>?_)))))))
 exact⟨(show k+1≤p.length by omega),Nat.lt_succ_self k,Z,by have:=Bg (p.getD k default);show(gz (p.getD k default)).toNat≤2;omega,Int.le_refl 0,by show(0:Int)≤((k+1:Nat):Int)-(k+1:Nat);omega⟩
 refine ae (ac (jb Z (jn (zc Z (fun z26=>?_) (fun z26=>?_)))))
 try simp only[bo]at z26
 refine af (ae (ak (ac (jb Z (aj O Z Z Z Z (ih x.2.1 hi.1 (by omega)) (ab Z) Z Z Z Z (B0:=33000) Z Z (jd Z (jc Z (jn (ae (ac (jb Z (jn (zc Z (fun z37=>?_) (fun z37=>?_))))))))))))))
 try simp only[bo]at z37
 refine ac (jc Z (jr ?_))
 refine⟨.inl Z,_,bK,_,Z,?_,Z⟩
 have e0:=Bu z37
 rw [show f9 (n+1) p k=none by
  unfold f9
  rw[if_neg (by omega),if_neg (by omega),hi.2.2.1]
  obtain⟨q,hq⟩: ∃q,x.1=q+1:=⟨x.1-1,by omega⟩
  rw[hq,ik e0];rfl]
 try simp only[bo]at z37
 refine af (ac ?_)
 obtain⟨k1,d1,hr⟩:=xN z37
 rw[hr]
 refine jd Z (jn (ag (jb Z (jn (ag (js Z ?_))))))
 first|refine ji Z ?_|refine db Z Z ?_
 refine js Z (jn ?_)
 have hle:=xW hr
 refine⟨(x.1-1,k1,if d1>x.2.2 then d1 else x.2.2),Ent.to ⟨Z,Z,?_,Z,tv⟩ Z,⟨hle.2.1,by show k<k1;omega,?_,by show x.1-1≤2;omega,by show 0≤(if d1>x.2.2 then d1 else x.2.2);split<;>omega,by show(if d1>x.2.2 then d1 else x.2.2)≤(k1:Int)-(k+1:Nat);split<;>omega⟩,?_⟩
 exact congrArg (fun z=>some (eI z)) (by show(x.1:Int)-1=(x.1-1:Nat);omega)
 rw[hi.2.2.1]
 obtain⟨q,hq⟩: ∃q,x.1=q+1:=⟨x.1-1,by omega⟩
 rw[hq,dY hr];rfl
 show x.1-1<x.1;omega
 try simp only[bo]at z26
 refine aR (ac (jb Z ?_))
 first|refine ji Z ?_|refine db Z Z ?_
 refine jc Z (jr ?_)
 refine⟨.inl Z,_,bK,_,Z,?_,Z⟩
 have hx:x.1=0:=by omega
 rw [show f9 (n+1) p k=some (x.2.1,x.2.2+1) by
  unfold f9
  rw[if_neg (by omega),if_neg (by omega),hi.2.2.1,hx];rfl]
theorem zr{L:Nat}(h1:4096≤L)(h2:L≤1073741824){p:List Nd}: ∀{n k:Nat},k≤p.length→p.length<n+k→MC Tryz.prog L 152 [nN p,eI k] [] (Plain (D6 (f9 n p k)))
 | 0,k,hk,hn=>by omega
 | n+1,k,hk,hn=>H7 h1 h2 hk hn (fun k' hk' hn'=>zr h1 h2 hk' hn')
theorem G9:MQ h1 h2 107 [nN p] [] (Plain (eB (vt p))):=by
 refine aB ?_ Z
 refine jB 22 h1 h2 Tryz.func107 Z fun O hF=>?_
 have hl:p.length≤L:=by simpa[As.fact,A.fact,M.fact,D.fact,Ds.fact]using hF.1.1
 refine ac (js Z (jn (ae (ac (js Z ?_)))))
 first|refine cW Z ?_|refine js Z ?_|refine db Z Z ?_
 refine js Z (jn (zc Z (fun z8=>?_) (fun z8=>?_)))
 try simp only[bo]at z8
 refine ac (js Z (jr ?_))
 refine eR Z ?_
 rw[vt,decide_eq_false (show¬(p.length:Int)≤60 by omega),Bool.false_and]
 try simp only[bo]at z8
 refine af (ac (js Z (bq [(10,_),(2,_),(0,_)] [] ⟨Z,Z,Z,tv⟩ Z (aj O Z Z Z Z (zr (p:=p) (n:=p.length+1) (k:=0) h1 h2 (cG _) (by omega)) (ab Z) Z Z Z Z (B0:=12000) Z Z (jd Z (jc Z (aN (jb Z (bq [(16,_),(3,_),(2,_),(0,_)] [] ⟨Z,Z,Z,Z,tv⟩ Z (ar 4 Z Z Z (fun hx=>nz hx Z (nz hx Z (ny hx (bP O Z Z Z Z Z Z Z Z) Z (nz hx Z (AN.nil))))) Z Z ?_))))))))))
 first|refine st (aq O Z Z Z Z Z) Z ?_|refine st (ay O Z Z Z Z Z) Z ?_|refine st (Val.pickB O Z Z Z Z Z) Z ?_
 refine js Z (jr ?_)
 refine eR Z ?_
 rw[vt,decide_eq_true (show(p.length:Int)≤60 by omega),Bool.true_and,Bool.cond_false_right]
theorem md: ∀{xs:List Int} {g:Nat},(xs.foldl (fun g x=>Nat.gcd g x.natAbs) g ∣ g)∧∀x∈xs,xs.foldl (fun g x=>Nat.gcd g x.natAbs) g ∣ x.natAbs
 | [],g=>⟨Nat.dvd_refl _,fun x hx=>by cases hx⟩
 | y::r,g=>by
  have ih:=md (xs:=r) (g:=Nat.gcd g y.natAbs)
  refine⟨Nat.dvd_trans ih.1 (Nat.gcd_dvd_left _ _),fun x hx=>?_⟩
  rcases List.mem_cons.1 hx with rfl|hx
  exact Nat.dvd_trans ih.1 (Nat.gcd_dvd_right _ _)
  exact ih.2 x hx
theorem ie{xs:List Int}{x:Int}(hx:x∈xs):bk xs ∣ x.natAbs:=(md (g:=0)).2 x hx
theorem Co{x:Int}{g:Nat}(h:g ∣ x.natAbs)(hx:x≠0)(hg:2≤g):x.tdiv g≠0:=by
 intro h0
 have h1:(x.tdiv g).natAbs=x.natAbs/g:=by rw[Int.natAbs_tdiv];rfl
 rw[h0]at h1
 obtain⟨q,hq⟩:=h
 rw[hq,Nat.mul_div_cancel_left _ (by omega)]at h1
 have:q=0:=by simpa using h1.symm
 rw[this]at hq
 omega
theorem rN{xs:List Int}(h:xs=[]∨xs.getD (xs.length-1) default≠0):bv xs=xs:=by
 have:=lG (xs:=xs) (n:=xs.length) (cQ _) (h.imp (fun e=>by rw[e];rfl) id)
 rwa[List.take_length]at this
theorem EA{t:Tm}:t.ok=true↔num t.c=true∧t.xs.all num=true∧t.xs.length≤10∧(t.xs=[]∨t.xs.getD (t.xs.length-1) default≠0):=by
 unfold Tm.ok
 have hz:((t.xs.length:Int)-1).toNat=t.xs.length-1:=by omega
 rw[hz]
 cases h1:num t.c<;>cases h2:t.xs.all num<;>simp
 by_cases h3:t.xs.length≤10
 have h4: ¬(10:Int)<t.xs.length:=by omega
 by_cases h5:t.xs=[]
 simp[h5]
 have h6:0<t.xs.length:=List.length_pos_iff.2 h5
 simp[h3,h5]
 intro _;omega
 have h4:(10:Int)<t.xs.length:=by omega
 simp[h3,h4]
theorem EB{c:Int}{xs:List Int}(h:(Tm.mk c xs).ok=true):lY c xs=(⟨c,xs⟩,true):=by
 have h1:=EA.1 h
 have h2:bv xs=xs:=rN h1.2.2.2
 unfold lY
 rw[h2,if_pos h]
theorem ga{t:Tm}(h:t.ok=true):fO t=bX t:=by
 unfold fO bX
 split
 rfl
 rename_i hg
 obtain⟨h1,h2,h3,h4⟩:=EA.1 h
 have hc:=IZ.1 h1
 have e:(if t.c.tmod (bk t.xs)<0 then t.c.tdiv (bk t.xs)-1 else t.c.tdiv (bk t.xs))=tV t.c (bk t.xs):=rfl
 rw[e]
 refine(EB ?_).symm
 refine EA.2 ⟨?_,?_,by simpa using h3,?_⟩
 have hq:(t.c.tdiv (bk t.xs)).natAbs=t.c.natAbs/bk t.xs:=by rw[Int.natAbs_tdiv];rfl
 have hq2:t.c.natAbs/bk t.xs≤t.c.natAbs/2:=Nat.div_le_div_left (by omega) (by decide)
 refine IZ.2 ?_
 show -1000000≤tV t.c (bk t.xs)∧tV t.c (bk t.xs)≤1000000
 unfold tV
 split<;>omega
 rw[List.all_eq_true]
 intro y hy
 obtain⟨x,hx,rfl⟩:=List.mem_map.1 hy
 have:=IZ.1 (List.all_eq_true.1 h2 x hx)
 exact IZ.2 (ej this)
 rcases h4 with h4|h4
 exact .inl (by rw[h4];rfl)
 by_cases h0:t.xs=[]
 exact .inl (by rw[h0];rfl)
 refine .inr ?_
 have hl:0<t.xs.length:=List.length_pos_iff.2 h0
 rw[aw (by omega)]at h4
 rw[aw (by simp;omega)]
 simp only[bA,List.getElem_map]
 exact Co (ie (List.getElem_mem _)) h4 (by omega)
theorem A8{t:Tm}:lZ t (-1) ⟨1,[]⟩ (-1)=bE [t] [-1]:=by
 unfold lZ bE
 apply List.map_congr_left
 intro k _
 show -1*t.xs.getD k 0+ -1*0= -1*t.xs.getD k 0+0
 omega
theorem vK{t:Tm}:aL t=if(dP t).ok=true then(dP t,true)else(⟨0,[]⟩,false):=by
 unfold aL x9 lY
 rw[A8]
 have:(-1*t.c+ -1*(⟨1,[]⟩:Tm).c)=bm Tm.c [t] [-1]-1:=by
  show -1*t.c+ -1*1= -1*t.c+0-1
  omega
 rw[this]
theorem l7{t:Tm}:(aL t).2=(dP t).ok:=by
 rw[vK]
 cases h:(dP t).ok<;>simp
theorem zD{t:Tm}(h:(dP t).ok=true):(aL t).1=dP t:=by rw[vK,if_pos h]
theorem C5{xs:List Int}:bv xs=[]↔xs.all (fun x=>decide (x=0))=true:=by
 unfold bv
 rw[List.reverse_eq_nil_iff,List.all_eq_true]
 constructor
 intro h x hx
 have key: ∀{l:List Int},l.dropWhile (· == 0)=[]→∀x∈l,x=0:=by
  intro l
  induction l with
  | nil=>intro _ x hx;cases hx
  | cons y r ih=>
   intro h x hx
   rw[List.dropWhile_cons]at h
   split at h
   rename_i hy
   rcases List.mem_cons.1 hx with rfl|hx
   simpa using hy
   exact ih h x hx
   cases h
 exact decide_eq_true (key h x (List.mem_reverse.2 hx))
 intro h
 have key: ∀{l:List Int},(∀x∈l,x=0)→l.dropWhile (· == 0)=[]:=by
  intro l
  induction l with
  | nil=>intro _;rfl
  | cons y r ih=>
   intro h
   rw[List.dropWhile_cons,if_pos (by simpa using h y (by simp))]
   exact ih fun x hx=>h x (by simp[hx])
 exact key fun x hx=>bt (h x (List.mem_reverse.1 hx))
theorem so{ctx:List Tm}{ms:List Int}:dH ctx ms=pH ctx ms:=by
 unfold dH pH
 have h1:decide (ms.length=ctx.length)=decide (ctx.length=ms.length):=decide_eq_decide.2 ⟨Eq.symm,Eq.symm⟩
 have h2:decide ((bv (bE ctx ms)).length=0)=(bE ctx ms).all (fun x=>decide (x=0)):=by
  cases h:(bE ctx ms).all (fun x=>decide (x=0))with
  | true=>rw[C5.2 h];rfl
  | false=>
   refine decide_eq_false fun h0=>?_
   rw[C5.1 (List.eq_nil_of_length_eq_zero h0)]at h
   cases h
 rw[h1,h2]
inductive Pf where
  | close (n:Nd)
  | tight (n:Nd) (a:Pf)
  | split (n:Nd) (a b:Pf)
def Pf.size:Pf→Nat
  | .close _=>1
  | .tight _ a=>1+a.size
  | .split _ a b=>1+a.size+b.size
def Pf.At(p:List Nd):Pf→Nat→Prop
  | .close n,k=>p[k]? = some n∧gN n=true∧n.kind=1
  | .tight n a,k=>p[k]? = some n∧gN n=true∧n.kind=3∧a.At p (k+1)
  | .split n a b,k=>p[k]? = some n∧gN n=true∧n.kind=2∧a.At p (k+1)∧b.At p (k+1+a.size)
theorem cj{p:List Nd}{k:Nat}{n:Nd}(h:p[k]? = some n):k<p.length∧p.getD k default=n:=by
 have h1:=(List.getElem?_eq_some_iff.1 h).1
 exact⟨h1,by rw[aw h1];exact(List.getElem?_eq_some_iff.1 h).2⟩
theorem Pf.At.le{p:List Nd}: ∀{t:Pf} {k:Nat},t.At p k→k+t.size≤p.length
 | .close n,k,h=>by have:=(cj h.1).1;simp only[Pf.size];omega
 | .tight n a,k,h=>by have:=h.2.2.2.le;simp only[Pf.size];omega
 | .split n a b,k,h=>by have:=h.2.2.2.2.le;simp only[Pf.size];omega
theorem c8: ∀{t:Pf},0<t.size
 | .close _=>by simp[Pf.size]
 | .tight _ _=>by simp only[Pf.size];omega
 | .split _ _ _=>by simp only[Pf.size];omega
theorem Pf.At.beh{p:List Nd}: ∀{t:Pf} {k n:Nat},t.At p k→p.length<n+k→∃d,f9 n p k=some (k+t.size,d)
 | .close x,k,0,h,hn=>by have:=(cj h.1).1;omega
 | .tight x a,k,0,h,hn=>by have:=(cj h.1).1;omega
 | .split x a b,k,0,h,hn=>by have:=(cj h.1).1;omega
 | .close x,k,n+1,h,hn=>by
  obtain⟨h1,h2⟩:=cj h.1
  have hk:gz x=0:=by rw[fG h.2.1,if_pos h.2.2]
  refine⟨0+1,?_⟩
  unfold f9
  rw[if_neg (by omega),h2,hk,if_neg (by decide)]
  rfl
 | .tight x a,k,n+1,h,hn=>by
  obtain⟨h1,h2⟩:=cj h.1
  have hk:gz x=1:=by rw[fG h.2.1,if_neg (by rw[h.2.2.1];decide),if_neg (by rw[h.2.2.1];decide)]
  obtain⟨d,hd⟩:=h.2.2.2.beh (n:=n) (by omega)
  refine⟨(if d>0 then d else 0)+1,?_⟩
  unfold f9
  rw[if_neg (by omega),h2,hk,if_neg (by decide),show(1:Int).toNat=0+1 from Z,dY hd]
  show some (k+1+a.size,_)=some (k+(1+a.size),_)
  rw[Nat.add_assoc]
 | .split x a b,k,n+1,h,hn=>by
  obtain⟨h1,h2⟩:=cj h.1
  have hk:gz x=2:=by rw[fG h.2.1,if_neg (by rw[h.2.2.1];decide),if_pos h.2.2.1]
  obtain⟨d,hd⟩:=h.2.2.2.1.beh (n:=n) (by omega)
  obtain⟨d',hd'⟩:=h.2.2.2.2.beh (n:=n) (by have:=c8 (t:=a);omega)
  refine⟨(if d'>(if d>0 then d else 0)then d' else(if d>0 then d else 0))+1,?_⟩
  unfold f9
  rw[if_neg (by omega),h2,hk,if_neg (by decide),show(2:Int).toNat=1+1 from Z,dY hd,show(1:Nat)=0+1 from Z,dY hd']
  show some (k+1+a.size+b.size,_)=some (k+(1+a.size+b.size),_)
  rw[show k+1+a.size+b.size=k+(1+a.size+b.size) by omega]
theorem vf{n:Nd}(h: ¬gz n<0):gN n=true:=by
 cases hb:gN n with
 | true=>rfl
 | false=>rw[jM hb]at h;exact absurd (by decide) h
theorem sZ{p:List Nd}: ∀{n k k':Nat} {d:Int},f9 n p k=some (k',d)→∃t:Pf,t.At p k∧k'=k+t.size
 | 0,_,_,_,h=>by cases h
 | n + 1,k,k',d,h=>by
  unfold f9 at h
  split at h
  cases h
  rename_i hl
  split at h
  cases h
  rename_i hk
  have hb:=vf hk
  have hg:p[k]? = some (p.getD k default):=by rw[aw (by omega)];exact List.getElem?_eq_getElem (by omega)
  generalize p.getD k default=x at hk hb hg h
  rcases qi hb with h1|h1|h1
  rw[fG hb,if_pos h1]at h
  simp only[Int.toNat_zero,iJ,Option.map_some,dL,Prod.mk.injEq]at h
  exact⟨.close x,⟨hg,hb,h1⟩,h.1.symm⟩
  rw[fG hb,if_neg (by omega),if_pos h1,show(2:Int).toNat=1+1 from Z]at h
  cases e1:f9 n p (k+1)with
  | none=>rw[ik e1]at h;cases h
  | some r1=>
   obtain⟨k1,d1⟩:=r1
   rw[dY e1,show(1:Nat)=0+1 from Z]at h
   obtain⟨a,ha,rfl⟩:=sZ e1
   cases e2:f9 n p (k+1+a.size)with
   | none=>rw[ik e2]at h;cases h
   | some r2=>
    obtain⟨k2,d2⟩:=r2
    rw[dY e2]at h
    obtain⟨b,hb2,rfl⟩:=sZ e2
    simp only[iJ,Option.map_some,dL,Prod.mk.injEq]at h
    exact⟨.split x a b,⟨hg,hb,h1,ha,hb2⟩,by rw[←h.1];simp only[Pf.size];omega⟩
  rw[fG hb,if_neg (by omega),if_neg (by omega),show(1:Int).toNat=0+1 from Z]at h
  cases e1:f9 n p (k+1)with
  | none=>rw[ik e1]at h;cases h
  | some r1=>
   obtain⟨k1,d1⟩:=r1
   rw[dY e1]at h
   obtain⟨a,ha,rfl⟩:=sZ e1
   simp only[iJ,Option.map_some,dL,Prod.mk.injEq]at h
   exact⟨.tight x a,⟨hg,hb,h1,ha⟩,by rw[←h.1];simp only[Pf.size];omega⟩
theorem Pf.At.endK{p:List Nd}: ∀{t:Pf} {k:Nat} {need:Int},t.At p k→0<need→Al.endK (p.drop k) need=(Al.endK (p.drop (k+t.size)) (need-1)).map (· + t.size)
 | .close x,k,need,h,hn=>by
  obtain⟨h1,h2⟩:=cj h.1
  rw[kS hn h1,h2,h.2.2];rfl
 | .tight x a,k,need,h,hn=>by
  obtain⟨h1,h2⟩:=cj h.1
  rw[kS hn h1,h2,h.2.2.1,show need+dl 3=need by show need+0=need;omega,h.2.2.2.endK hn,Option.map_map]
  simp only[Pf.size]
  rw[show k+1+a.size=k+(1+a.size) by omega]
  exact congrArg (fun f=>Option.map f _) (funext fun n=>by show n+a.size+1=n+(1+a.size);omega)
 | .split x a b,k,need,h,hn=>by
  obtain⟨h1,h2⟩:=cj h.1
  rw[kS hn h1,h2,h.2.2.1,show need+dl 2=need+1 from Z,h.2.2.2.1.endK (by omega),show need+1-1=need by omega,h.2.2.2.2.endK hn,Option.map_map,Option.map_map]
  simp only[Pf.size]
  rw[show k+1+a.size+b.size=k+(1+a.size+b.size) by omega]
  exact congrArg (fun f=>Option.map f _) (funext fun n=>by show n+b.size+a.size+1=n+(1+a.size+b.size);omega)
theorem Pf.At.endP{p:List Nd}{t:Pf}{k:Nat}(h:t.At p k):Al.endP p k=k+t.size:=by
 unfold Al.endP
 rw[h.endK (by decide),show(1:Int)-1=0 from Z,uT (Int.le_refl 0)]
 show(k:Int)+(0+t.size:Nat)=_
 omega
theorem Pf.At.valid{p:List Nd}: ∀{t:Pf} {k j:Nat},t.At p k→k≤j→j<k+t.size→gN (p.getD j default)=true
 | .close x,k,j,h,h1,h2=>by
  simp only[Pf.size]at h2
  obtain rfl:j=k:=by omega
  rw[(cj h.1).2];exact h.2.1
 | .tight x a,k,j,h,h1,h2=>by
  by_cases e:j=k
  subst e;rw[(cj h.1).2];exact h.2.1
  simp only[Pf.size]at h2
  exact h.2.2.2.valid (by omega) (by omega)
 | .split x a b,k,j,h,h1,h2=>by
  by_cases e:j=k
  subst e;rw[(cj h.1).2];exact h.2.1
  simp only[Pf.size]at h2
  by_cases e2:j<k+1+a.size
  exact h.2.2.2.1.valid (by omega) (by omega)
  exact h.2.2.2.2.valid (by omega) (by omega)
theorem pD{p:List Nd}(hv: ∀n∈p,gN n=true): ∀{m k:Nat} {need:Int} {r:Nat},p.length-k≤m→0<need→endK (p.drop k) need=some r→∃t:Pf,t.At p k
 | 0,k,need,r,hm,hn,h=>by
  rw[List.drop_of_length_le (by omega),uS hn]at h;cases h
 | m+1,k,need,r,hm,hn,h=>by
  by_cases hk:k<p.length
  have hg:p[k]? = some (p.getD k default):=by rw[aw hk];exact List.getElem?_eq_getElem hk
  have hb:gN (p.getD k default)=true:=by rw[aw hk];exact hv _ (List.getElem_mem hk)
  rw[kS hn hk]at h
  generalize p.getD k default=x at hb hg h
  rcases qi hb with h1|h1|h1
  exact⟨.close x,hg,hb,h1⟩
  rw[h1,show need+dl 2=need+1 from Z]at h
  simp only[Option.map_eq_some_iff]at h
  obtain⟨r1,h2,_⟩:=h
  obtain⟨a,ha⟩:=pD hv (m:=m) (by omega) (by omega) h2
  rw[ha.endK (by omega),show need+1-1=need by omega]at h2
  simp only[Option.map_eq_some_iff]at h2
  obtain⟨r2,h3,_⟩:=h2
  obtain⟨b,hb2⟩:=pD hv (m:=m) (by have:=c8 (t:=a);omega) hn h3
  exact⟨.split x a b,hg,hb,h1,ha,hb2⟩
  rw[h1,show need+dl 3=need by show need+0=need;omega]at h
  simp only[Option.map_eq_some_iff]at h
  obtain⟨r1,h2,_⟩:=h
  obtain⟨a,ha⟩:=pD hv (m:=m) (by omega) hn h2
  exact⟨.tight x a,hg,hb,h1,ha⟩
  rw[List.drop_of_length_le (by omega),uS hn]at h;cases h
theorem Bk{p:List Nd}(h:tT p=true): ∃t:Pf,t.At p 0∧t.size=p.length:=by
 obtain⟨h1,h2,h3,h4⟩:=kO h
 have h5: ∃r,endK (p.drop 0) 1=some r:=by
  unfold endP at h4
  cases e:endK (p.drop 0) 1 with
  | some r=>exact⟨r,Z⟩
  | none=>rw[e]at h4;have h4:(-1:Int)=p.length:=h4;omega
 obtain⟨r,hr⟩:=h5
 obtain⟨t,ht⟩:=pD h3 (cQ _) (by decide) hr
 refine⟨t,ht,?_⟩
 rw[ht.endP]at h4
 omega
theorem qj{p:List Nd}(h:vt p=true):p.length≤60∧∃t:Pf,t.At p 0∧t.size=p.length:=by
 unfold vt at h
 simp only[bC,decide_eq_true_eq]at h
 obtain⟨k,d,hr⟩:=xN h.2.1
 obtain⟨t,ht,hk⟩:=sZ hr
 have h3:=h.2.2
 rw[hr]at h3
 have h3:(k:Int)=p.length:=h3
 exact⟨by omega,t,ht,by omega⟩
theorem vO{p:List Nd}:vt p=tT p:=by
 rw[Bool.eq_iff_iff]
 constructor
 intro h
 obtain⟨h1,t,ht,hs⟩:=qj h
 have hp:=c8 (t:=t)
 unfold tT
 rw[decide_eq_true (show(1:Int)≤p.length by omega),decide_eq_true (show(p.length:Int)≤60 by omega),ht.endP,decide_eq_true (show((0:Nat):Int)+t.size=p.length by omega)]
 simp only[Bool.and_true,Bool.true_and,List.all_eq_true]
 intro n hn
 obtain⟨j,hj,rfl⟩:=List.mem_iff_getElem.1 hn
 have:=ht.valid (cG j) (by omega)
 rwa[aw hj]at this
 intro h
 obtain⟨t,ht,hs⟩:=Bk h
 obtain⟨h1,h2,_,_⟩:=kO h
 obtain⟨d,hd⟩:=ht.beh (n:=p.length+1) (by omega)
 unfold vt
 rw[decide_eq_true (show(p.length:Int)≤60 by omega),hd]
 show(true&&decide (((0+t.size:Nat):Int)=p.length))=true
 rw[decide_eq_true (by omega)];rfl
structure Ex where
  es:List (Int×List Tm)
  flaw:Int
def nD:List (Int×List Tm)→Int→List Tm→List (Int×List Tm)
  | [],k,x=>[(k,x)]
  | (j,y)::r,k,x=>if k=j then(k,x)::r else(j,y)::nD r k x
def gO:List (Int×List Tm)→Int→Option (List Tm)
  | [],_=>none
  | (j,x)::r,k=>if k=j then some x else gO r k
abbrev cm(es:List (Int×List Tm)):List (Int×D):=es.map fun x=>(x.1,fd x.2)
theorem pw{k:Int}{c:List Tm}: ∀{es:List (Int×List Tm)},gn (cm es) k (fd c)=cm (nD es k c)
 | []=>rfl
 | (j,y)::r=>by
  show(if k=j then(k,fd c)::cm r else(j,fd y)::gn (cm r) k (fd c))=cm (if k=j then(k,c)::r else(j,y)::nD r k c)
  rw[pw]
  split<;>rfl
theorem mV{k j:Int}{c:List Tm}: ∀{es:List (Int×List Tm)},gO (nD es k c) j=if j=k then some c else gO es j
 | []=>by simp[nD,gO]
 | (i,y)::r=>by
  unfold nD
  by_cases h:k=i
  subst h
  rw[if_pos Z]
  simp only[gO]
  split<;>rfl
  rw[if_neg h]
  simp only[gO,mV]
  by_cases h1:j=i
  subst h1;rw[if_pos rfl,if_pos rfl,if_neg (fun e=>h e.symm)]
  rw[if_neg h1,if_neg h1]
def Ex.put(e:Ex)(k:Nat)(c:List Tm):Ex:={e with es:=nD e.es k c}
def Ex.bad(e:Ex)(k:Nat):Ex:=if e.flaw<0 then{e with flaw:=k}else e
def gu(n:Nd)(c:List Tm):Bool:=decide ((c.length:Int)<20)&&(dP n.term).ok
def gS(n:Nd)(c:List Tm):Bool:=decide ((c.length:Int)<20)&&eW 0 ((c.length:Int)-1) n.fact
def oY(n:Nd)(c:List Tm):Tm×Bool:=fO (c.getD n.fact.toNat default)
def jQ:Pf→Nat→List Tm→Ex→Ex
  | .close n,k,c,e=>if dH c n.mul=true then e.put k c else(e.put k c).bad k
  | .tight n a,k,c,e=>if(gS n c&&(oY n c).2)=true then jQ a (k+1) (c++[(oY n c).1]) (e.put k c)else(e.put k c).bad k
  | .split n a b,k,c,e=>if gu n c=true then jQ b (k+1+a.size) (c++[dP n.term]) (jQ a (k+1) (c++[n.term]) (e.put k c))else(e.put k c).bad k
theorem CtxOk.snoc{c:List Tm}{t:Tm}(h:CtxOk c)(ht:t.ok=true)(hl:(c.length:Int)<20):CtxOk (c++[t]):=⟨fun u hu=>by
 rcases List.mem_append.1 hu with hu|hu
 exact h.ok u hu
 simp at hu;subst hu;exact ht,by simp;omega⟩
theorem D2:Tryz.prog.underlying 136=some (.map 3 24):=by kernel_rfl
theorem u3:Tryz.prog.underlying 3=some (.int .i64):=by kernel_rfl
abbrev xH(p:List Nd)(e:Ex):List (Nat×B):=[(0,.box [.d (D1 p),.mp 1,.d (.int .i64 e.flaw)]),(1,aX (cm e.es))]
theorem s4{e:Ex}{k:Nat}(h:e.flaw<0):e.bad k={e with flaw:=k}:=if_pos h
theorem s5{e:Ex}{k:Nat}(h: ¬e.flaw<0):e.bad k=e:=if_neg h
theorem Gv{a b:Bool}:(bif a then b else false)=(a&&b):=by cases a<;>rfl
variable{c0:Tm}{r0:List Tm}
theorem EW{e:Ex}(hA:Pf.At p (.close n) k)(hc:CtxOk (c0::r0))(hpl:p.length≤1000):MQ h1 h2 108 [.c (.pt 0 0 0),eI k,bM (c0::r0)] (xH p e) (aO (eI ((k+Pf.size (.close n):Nat):Int)) (xH p (jQ (.close n) k (c0::r0) e))):=by
 refine jH 112 [0,1] h1 h2 Tryz.func108 Z fun O hF=>?_
 obtain⟨dd,hd⟩:=hA.beh (n:=p.length+1) (by omega)
 obtain⟨hkl,hgn⟩:=cj hA.1
 have hnb:=hA.2.1
 have hks:=hA.le
 have hlc:=hc.len
 refine ac (js Z (aN (jd Z (js Z (aj O Z Z Z Z ((zr (p:=p) (n:=p.length+1) (k:=k) h1 h2 (by omega) (by omega)).plain (u:=.tup [eI ((k+Pf.size (.close n):Nat):Int),eI dd,eB true]) (by rw[hd])) (ab Z) Z Z Z Z (B0:=23000) Z Z (jd Z (jc Z (aN (jd Z (js Z (st ((aQ O Z Z Z Z Z Z Z Z (dx hkl)).cast (v':=ptr n.cells) (by rw[hgn])) Z (js Z (jl Z (am ?_))))))))))))))
 refine jo Z (am ?_)
 refine aN (jd Z (jb Z (hp (HS.mapUpdate (kt:=3) (et:=24) (q:=.i64) (es:=cm e.es) (k:=(k:Int)) (v:=fd (c0::r0)) O Z Z Z Z D2 u3 Z Z Z Z Z) Z ?_)))
 rw[pw]
 obtain⟨e1,he1⟩: ∃e1:Ex,e1=e.put k (c0::r0):=⟨_,rfl⟩
 have he1s:nD e.es k (c0::r0)=e1.es:=by rw[he1];rfl
 have he1f:e.flaw=e1.flaw:=by rw[he1];rfl
 rw[he1s,he1f]
 refine am ?_
 refine am ?_
 refine aN (js Z ?_)
 first|refine cW Z ?_|refine js Z ?_|refine db Z Z ?_
 refine jb Z (jn (ae (ac (jb Z (jn (ak (ac (jb Z (jn (zc Z (fun z44=>?_) (fun z44=>?_)))))))))))
 refine ac (jc Z (lo Z (JU (ctx:=c0::r0) (ms:=n.mul) h1 h2 hc (ET (CD hnb))) 50000 Z (jn (zc Z (fun z49=>?_) (fun z49=>?_)))))
 refine ac (jb Z (jr ?_))
 have hv:jQ (.close n) k (c0::r0) e=e1:=by rw[he1];exact if_pos z49
 refine⟨.inl Z,_,ah [0,1] Z Z (e':=[(6,_)]) ⟨Z,tv⟩ Z,_,Z,?_,?_⟩
 rfl
 rw[hv];rfl
 refine af (ae (ac (jd Z (js Z (jn (zc Z (fun z106=>?_) (fun z106=>?_)))))))
 refine ag (jd Z (jo Z (am ?_)))
 refine aN (jb Z (jr ?_))
 have hv:jQ (.close n) k (c0::r0) e=e1.bad k:=by rw[he1];exact if_neg (by rw[z49];decide)
 rw[s4 (bt z106)]at hv
 refine⟨.inl Z,_,ah [0,1] Z Z (e':=[(6,_)]) ⟨Z,tv⟩ Z,_,Z,?_,?_⟩
 rfl
 rw[hv];rfl
 refine af (ac (jb Z (jr ?_)))
 have hv:jQ (.close n) k (c0::r0) e=e1.bad k:=by rw[he1];exact if_neg (by rw[z49];decide)
 rw[s5 (b9 z106)]at hv
 refine⟨.inl Z,_,ah [0,1] Z Z (e':=[(6,_)]) ⟨Z,tv⟩ Z,_,Z,?_,?_⟩
 rfl
 rw[hv];rfl
 exact absurd hA.2.2 (b9 z44)
theorem EV{a b:Pf}{e:Ex}(hA:Pf.At p (.split n a b) k)(hc:CtxOk (c0::r0))(hpl:p.length≤1000)(iha: ∀{c0:Tm} {r0:List Tm} {e:Ex},CtxOk (c0::r0)→MQ h1 h2 108 [.c (.pt 0 0 0),eI (k+1:Nat),bM (c0::r0)] (xH p e) (aO (eI ((k+1+a.size:Nat):Int)) (xH p (jQ a (k+1) (c0::r0) e))))(ihb: ∀{c0:Tm} {r0:List Tm} {e:Ex},CtxOk (c0::r0)→MQ h1 h2 108 [.c (.pt 0 0 0),eI (k+1+a.size:Nat),bM (c0::r0)] (xH p e) (aO (eI ((k+1+a.size+b.size:Nat):Int)) (xH p (jQ b (k+1+a.size) (c0::r0) e)))):MQ h1 h2 108 [.c (.pt 0 0 0),eI k,bM (c0::r0)] (xH p e) (aO (eI ((k+Pf.size (.split n a b):Nat):Int)) (xH p (jQ (.split n a b) k (c0::r0) e))):=by
 refine jH 112 [0,1] h1 h2 Tryz.func108 Z fun O hF=>?_
 obtain⟨dd,hd⟩:=hA.beh (n:=p.length+1) (by omega)
 obtain⟨hkl,hgn⟩:=cj hA.1
 have hnb:=hA.2.1
 have hks:=hA.le
 have hlc:=hc.len
 refine ac (js Z (aN (jd Z (js Z (jf [21,20,6,0,1,2] Z (aj O Z Z Z Z ((zr (p:=p) (n:=p.length+1) (k:=k) h1 h2 (by omega) (by omega)).plain (u:=.tup [eI ((k+Pf.size (.split n a b):Nat):Int),eI dd,eB true]) (by rw[hd])) (ab Z) Z Z Z Z (B0:=23000) Z Z (jd Z (jc Z (jf [7,6,0,1,2] Z (aN (jd Z (js Z (st ((aQ O Z Z Z Z Z Z Z Z (dx hkl)).cast (v':=ptr n.cells) (by rw[hgn])) Z (js Z (jf [32,7,6,0,1,2] Z (jl Z (am ?_)))))))))))))))))
 refine jo Z (am ?_)
 refine aN (jd Z (jb Z (jf [38,37,36,10,32,7,6,0,1,2] Z (hp (HS.mapUpdate (kt:=3) (et:=24) (q:=.i64) (es:=cm e.es) (k:=(k:Int)) (v:=fd (c0::r0)) O Z Z Z Z D2 u3 Z Z Z Z Z) Z ?_))))
 rw[pw]
 obtain⟨e1,he1⟩: ∃e1:Ex,e1=e.put k (c0::r0):=⟨_,rfl⟩
 have he1s:nD e.es k (c0::r0)=e1.es:=by rw[he1];rfl
 have he1f:e.flaw=e1.flaw:=by rw[he1];rfl
 rw[he1s,he1f]
 refine am ?_
 refine am ?_
 refine jf [10,32,7,6,0,1,2] Z (aN (js Z ?_))
 first|refine cW Z ?_|refine js Z ?_|refine db Z Z ?_
 refine jb Z (jf [11,10,32,7,6,0,1,2] Z (jn (ae (ac (jb Z (jn (ak (ac (jb Z (jn (zc Z (fun z44=>?_) (fun z44=>?_))))))))))))
 exact absurd (bt z44) (by rw[hA.2.2.1];decide)
 refine ac (jb Z (jf [51,45,43,42,11,10,32,7,6,0,1,2] Z (jn (zc Z (fun z51=>?_) (fun z51=>?_)))))
 refine ac (jb Z (jf [54,45,43,42,11,10,32,7,6,0,1,2] Z (aj O Z Z Z Z (zt (t:=n.term) h1 h2 (mY hnb)) (ab Z) Z Z Z Z (B0:=56000) Z Z (jf [55,45,43,42,11,10,32,7,6,0,1,2] Z (jl Z (am ?_))))))
 refine jo Z (am ?_)
 refine aN (jb Z (jf [57,12,55,45,43,42,11,10,32,7,6,0,1,2] Z (ar 2 Z Z Z (fun hx=>nz hx Z (bj O hx Z Z Z Z (mF (t:=dP n.term) h1 h2) (ab Z) Z Z Z Z Z Z Z (B0:=60000) Z (AN.nil))) Z Z ?_)))
 first|refine st (aq O Z Z Z Z Z) Z ?_|refine st (ay O Z Z Z Z Z) Z ?_|refine st (Val.pickB O Z Z Z Z Z) Z ?_
 refine jf [60,12,55,45,43,42,11,10,32,7,6,0,1,2] Z (jn (zc Z (fun z60=>?_) (fun z60=>?_)))
 refine ac ?_
 have hs:gu n (c0::r0)=true:=by have h9:=z60;rw[Gv]at h9;exact h9
 have hs':=hs
 simp only[gu,bC,decide_eq_true_eq]at hs'
 have hcl:=hs'.1
 have hok:=hs'.2
 have hl1:(c0::r0).length≤1000:=hc.len
 refine jb Z ?_
 first|refine ji Z ?_|refine db Z Z ?_
 refine jc Z (jf [66,64,63,61,12,55,45,43,42,11,10,32,7,6,0,1,2] Z (aj O Z Z Z Z (B2 (c:=c0) (r:=r0) (t:=n.term) h1 h2 hl1) (ab Z) Z Z Z Z (B0:=68000) Z Z (jf [67,63,61,12,55,45,43,42,11,10,32,7,6,0,1,2] Z (ao O [0,1] (bin:=[.box [.d (D1 p),.mp 1,.d (.int .i64 (e1).flaw)],aX (cm (e1).es)]) Z Z Z Z (iha (c0:=c0) (r0:=r0++[n.term]) (e:=e1) (hc.snoc (mY hnb) hcl)) Z Z Z Z Z Z (B0:=69000) Z Z (am ?_)))))
 refine js Z (jf [13,12,55,45,43,42,11,10,32,7,6,0,1,2] Z (aN ?_))
 obtain⟨e2,he2⟩: ∃e2:Ex,e2=jQ a (k+1) (c0::(r0++[n.term])) e1:=⟨_,rfl⟩
 rw[show jQ a (k+1) (c0::(r0++[n.term])) e1=e2 from he2.symm]
 refine jd Z (jf [72,71,70,69,12,55,45,43,42,11,10,32,7,6,0,1,2] Z (aj O Z Z Z Z (B2 (c:=c0) (r:=r0) (t:=dP n.term) h1 h2 hl1) (ab Z) Z Z Z Z (B0:=74000) Z Z (jf [73,70,69,12,55,45,43,42,11,10,32,7,6,0,1,2] Z (ao O [0,1] (bin:=[.box [.d (D1 p),.mp 1,.d (.int .i64 (e2).flaw)],aX (cm (e2).es)]) Z Z Z Z (ihb (c0:=c0) (r0:=r0++[dP n.term]) (e:=e2) (hc.snoc hok hcl)) Z Z Z Z Z Z (B0:=75000) Z Z (am ?_)))))
 refine js Z (jf [6,12,55,45,43,42,11,10,32,7,0,1,2] Z (jr ?_))
 have hv:jQ (.split n a b) k (c0::r0) e=jQ b (k+1+a.size) (c0::r0++[dP n.term]) e2:=by rw[he2,he1];exact if_pos hs
 refine⟨.inl Z,_,ah [0,1] Z Z (e':=[(6,_)]) ⟨Z,tv⟩ Z,_,Z,?_,?_⟩
 exact congrArg (fun z:Nat=>eI (z:Int)) (by simp only[Pf.size];omega)
 rw[hv];rfl
 refine af (ae (ac (jd Z (js Z (jf [106,12,55,45,43,42,11,10,32,7,6,0,1,2] Z (jn (zc Z (fun z106=>?_) (fun z106=>?_))))))))
 refine ag (jd Z (jf [110,108,12,55,45,43,42,11,10,32,7,6,0,1,2] Z (jo Z (am ?_))))
 refine jf [12,55,45,43,42,11,10,32,7,6,0,1,2] Z (aN (jb Z (jr ?_)))
 have hv:jQ (.split n a b) k (c0::r0) e=e1.bad k:=by rw[he1];exact if_neg (by rw[show gu n (c0::r0)=false by have h9:=z60;rw[Gv]at h9;exact h9];decide)
 rw[s4 (bt z106)]at hv
 refine⟨.inl Z,_,ah [0,1] Z Z (e':=[(6,_)]) ⟨Z,tv⟩ Z,_,Z,?_,?_⟩
 rfl
 rw[hv];rfl
 refine af (ac (jb Z (jf [6,12,55,45,43,42,11,10,32,7,0,1,2] Z (jr ?_))))
 have hv:jQ (.split n a b) k (c0::r0) e=e1.bad k:=by rw[he1];exact if_neg (by rw[show gu n (c0::r0)=false by have h9:=z60;rw[Gv]at h9;exact h9];decide)
 rw[s5 (b9 z106)]at hv
 refine⟨.inl Z,_,ah [0,1] Z Z (e':=[(6,_)]) ⟨Z,tv⟩ Z,_,Z,?_,?_⟩
 rfl
 rw[hv];rfl
 exact absurd hA.2.2.1 (b9 z51)
theorem EU{a:Pf}{e:Ex}(hA:Pf.At p (.tight n a) k)(hc:CtxOk (c0::r0))(hpl:p.length≤1000)(iha: ∀{c0:Tm} {r0:List Tm} {e:Ex},CtxOk (c0::r0)→MQ h1 h2 108 [.c (.pt 0 0 0),eI (k+1:Nat),bM (c0::r0)] (xH p e) (aO (eI ((k+1+a.size:Nat):Int)) (xH p (jQ a (k+1) (c0::r0) e)))):MQ h1 h2 108 [.c (.pt 0 0 0),eI k,bM (c0::r0)] (xH p e) (aO (eI ((k+Pf.size (.tight n a):Nat):Int)) (xH p (jQ (.tight n a) k (c0::r0) e))):=by
 refine jH 112 [0,1] h1 h2 Tryz.func108 Z fun O hF=>?_
 obtain⟨dd,hd⟩:=hA.beh (n:=p.length+1) (by omega)
 obtain⟨hkl,hgn⟩:=cj hA.1
 have hnb:=hA.2.1
 have hks:=hA.le
 have hlc:=hc.len
 refine ac (js Z (aN (jd Z (js Z (jf [21,20,6,0,1,2] Z (aj O Z Z Z Z ((zr (p:=p) (n:=p.length+1) (k:=k) h1 h2 (by omega) (by omega)).plain (u:=.tup [eI ((k+Pf.size (.tight n a):Nat):Int),eI dd,eB true]) (by rw[hd])) (ab Z) Z Z Z Z (B0:=23000) Z Z (jd Z (jc Z (jf [7,6,0,1,2] Z (aN (jd Z (js Z (st ((aQ O Z Z Z Z Z Z Z Z (dx hkl)).cast (v':=ptr n.cells) (by rw[hgn])) Z (js Z (jf [32,7,6,0,1,2] Z (jl Z (am ?_)))))))))))))))))
 refine jo Z (am ?_)
 refine aN (jd Z (jb Z (jf [38,37,36,10,32,7,6,0,1,2] Z (hp (HS.mapUpdate (kt:=3) (et:=24) (q:=.i64) (es:=cm e.es) (k:=(k:Int)) (v:=fd (c0::r0)) O Z Z Z Z D2 u3 Z Z Z Z Z) Z ?_))))
 rw[pw]
 obtain⟨e1,he1⟩: ∃e1:Ex,e1=e.put k (c0::r0):=⟨_,rfl⟩
 have he1s:nD e.es k (c0::r0)=e1.es:=by rw[he1];rfl
 have he1f:e.flaw=e1.flaw:=by rw[he1];rfl
 rw[he1s,he1f]
 refine am ?_
 refine am ?_
 refine jf [10,32,7,6,0,1,2] Z (aN (js Z ?_))
 first|refine cW Z ?_|refine js Z ?_|refine db Z Z ?_
 refine jb Z (jf [11,10,32,7,6,0,1,2] Z (jn (ae (ac (jb Z (jn (ak (ac (jb Z (jn (zc Z (fun z44=>?_) (fun z44=>?_))))))))))))
 exact absurd (bt z44) (by rw[hA.2.2.1];decide)
 refine ac (jb Z (jf [51,45,43,42,11,10,32,7,6,0,1,2] Z (jn (zc Z (fun z51=>?_) (fun z51=>?_)))))
 exact absurd (bt z51) (by rw[hA.2.2.1];decide)
 refine ac (jb Z (jf [75,45,43,42,11,10,32,7,6,0,1,2] Z (jn (zc Z (fun z75=>?_) (fun z75=>?_)))))
 refine ac (jb Z (jf [78,45,43,42,11,10,32,7,6,0,1,2] Z (ar 5 Z Z Z (fun hx=>nz hx Z (nz hx Z (nz hx Z (ny hx (bP O Z Z Z Z Z Z Z Z) Z (bj O hx Z Z Z Z (c90 (k:=n.fact) (n:=(c0::r0).length) h1 h2 (by omega)) (ab Z) Z Z Z Z Z Z Z (B0:=84000) Z (AN.nil)))))) Z Z ?_)))
 first|refine st (aq O Z Z Z Z Z) Z ?_|refine st (ay O Z Z Z Z Z) Z ?_|refine st (Val.pickB O Z Z Z Z Z) Z ?_
 refine jf [84,45,43,42,11,10,32,7,6,0,1,2] Z (jn (zc Z (fun z84=>?_) (fun z84=>?_)))
 refine ac ?_
 have hs:gS n (c0::r0)=true:=by have h9:=z84;rw[Gv]at h9;exact h9
 have hs':=hs
 simp only[gS,eW,bC,decide_eq_true_eq]at hs'
 have hcl:=hs'.1
 have hf0:=hs'.2.1
 have hf1:=hs'.2.2
 have hl1:(c0::r0).length≤1000:=hc.len
 have hgt:=hc.get (show n.fact.toNat<(c0::r0).length by omega)
 refine jc Z (st (bw O Z Z Z Z Z Z Z Z hf0 (mP hf0 (by omega))) Z (js Z (jf [90,45,43,42,11,10,32,7,6,0,1,2] Z (aj O Z Z Z Z (G5 (t:=(c0::r0).getD n.fact.toNat default) h1 h2 (Small.of hgt)) (ab Z) Z Z Z Z (B0:=92000) Z Z (jc Z (jf [93,92,45,43,42,11,10,32,7,6,0,1,2] Z (jl Z (am ?_))))))))
 refine jo Z (am ?_)
 refine js Z (jf [15,14,45,43,42,11,10,32,7,6,0,1,2] Z (aN (js Z (jn (zc Z (fun z94=>?_) (fun z94=>?_))))))
 refine ac ?_
 have htok:(oY n (c0::r0)).1.ok=true:=by have h9:(oY n (c0::r0)).2=true:=z94;unfold oY at h9 ⊢;rw[ga hgt]at h9 ⊢;exact lI h9
 refine jb Z ?_
 first|refine ji Z ?_|refine db Z Z ?_
 refine jb Z (jf [99,98,97,95,15,14,45,43,42,11,10,32,7,6,0,1,2] Z (aj O Z Z Z Z (B2 (c:=c0) (r:=r0) (t:=(oY n (c0::r0)).1) h1 h2 hl1) (ab Z) Z Z Z Z (B0:=101000) Z Z (jf [100,97,95,15,14,45,43,42,11,10,32,7,6,0,1,2] Z (ao O [0,1] (bin:=[.box [.d (D1 p),.mp 1,.d (.int .i64 (e1).flaw)],aX (cm (e1).es)]) Z Z Z Z (iha (c0:=c0) (r0:=r0++[(oY n (c0::r0)).1]) (e:=e1) (hc.snoc htok hcl)) Z Z Z Z Z Z (B0:=102000) Z Z (am ?_)))))
 refine js Z (jf [6,15,14,45,43,42,11,10,32,7,0,1,2] Z (jr ?_))
 have hv:jQ (.tight n a) k (c0::r0) e=jQ a (k+1) (c0::r0++[(oY n (c0::r0)).1]) e1:=by rw[he1];exact if_pos (by rw[hs];exact z94)
 refine⟨.inl Z,_,ah [0,1] Z Z (e':=[(6,_)]) ⟨Z,tv⟩ Z,_,Z,?_,?_⟩
 exact congrArg (fun z:Nat=>eI (z:Int)) (by simp only[Pf.size];omega)
 rw[hv];rfl
 refine af (ae (ac (jd Z (js Z (jf [106,15,14,45,43,42,11,10,32,7,6,0,1,2] Z (jn (zc Z (fun z106=>?_) (fun z106=>?_))))))))
 refine ag (jd Z (jf [110,108,15,14,45,43,42,11,10,32,7,6,0,1,2] Z (jo Z (am ?_))))
 refine jf [15,14,45,43,42,11,10,32,7,6,0,1,2] Z (aN (jb Z (jr ?_)))
 have hv:jQ (.tight n a) k (c0::r0) e=e1.bad k:=by rw[he1];exact if_neg (by rw[show(gS n (c0::r0)&&(oY n (c0::r0)).2)=false by rw[show(oY n (c0::r0)).2=false from z94,Bool.and_false]];decide)
 rw[s4 (bt z106)]at hv
 refine⟨.inl Z,_,ah [0,1] Z Z (e':=[(6,_)]) ⟨Z,tv⟩ Z,_,Z,?_,?_⟩
 rfl
 rw[hv];rfl
 refine af (ac (jb Z (jf [6,15,14,45,43,42,11,10,32,7,0,1,2] Z (jr ?_))))
 have hv:jQ (.tight n a) k (c0::r0) e=e1.bad k:=by rw[he1];exact if_neg (by rw[show(gS n (c0::r0)&&(oY n (c0::r0)).2)=false by rw[show(oY n (c0::r0)).2=false from z94,Bool.and_false]];decide)
 rw[s5 (b9 z106)]at hv
 refine⟨.inl Z,_,ah [0,1] Z Z (e':=[(6,_)]) ⟨Z,tv⟩ Z,_,Z,?_,?_⟩
 rfl
 rw[hv];rfl
 refine af (ae (ac (jd Z (js Z (jf [106,45,43,42,11,10,32,7,6,0,1,2] Z (jn (zc Z (fun z106=>?_) (fun z106=>?_))))))))
 refine ag (jd Z (jf [110,108,45,43,42,11,10,32,7,6,0,1,2] Z (jo Z (am ?_))))
 refine jf [45,43,42,11,10,32,7,6,0,1,2] Z (aN (jb Z (jr ?_)))
 have hv:jQ (.tight n a) k (c0::r0) e=e1.bad k:=by rw[he1];exact if_neg (by rw[show gS n (c0::r0)=false by have h9:=z84;rw[Gv]at h9;exact h9,Bool.false_and];decide)
 rw[s4 (bt z106)]at hv
 refine⟨.inl Z,_,ah [0,1] Z Z (e':=[(6,_)]) ⟨Z,tv⟩ Z,_,Z,?_,?_⟩
 rfl
 rw[hv];rfl
 refine af (ac (jb Z (jf [6,45,43,42,11,10,32,7,0,1,2] Z (jr ?_))))
 have hv:jQ (.tight n a) k (c0::r0) e=e1.bad k:=by rw[he1];exact if_neg (by rw[show gS n (c0::r0)=false by have h9:=z84;rw[Gv]at h9;exact h9,Bool.false_and];decide)
 rw[s5 (b9 z106)]at hv
 refine⟨.inl Z,_,ah [0,1] Z Z (e':=[(6,_)]) ⟨Z,tv⟩ Z,_,Z,?_,?_⟩
 rfl
 rw[hv];rfl
 exact absurd hA.2.2.1 (b9 z75)
theorem B6{L:Nat}(h1:4096≤L)(h2:L≤1073741824){p:List Nd}(hpl:p.length≤1000): ∀{t:Pf} {k:Nat},t.At p k→∀{c0:Tm} {r0:List Tm} {e:Ex},CtxOk (c0::r0)→
  MC Tryz.prog L 108 [.c (.pt 0 0 0),eI k,bM (c0::r0)] (xH p e) (aO (eI ((k+t.size:Nat):Int)) (xH p (jQ t k (c0::r0) e)))
 | .close n,k,h,_,_,_,hc=>EW h1 h2 h hc hpl
 | .split n a b,k,h,_,_,_,hc=>EV h1 h2 h hc hpl (fun hc'=>B6 h1 h2 hpl h.2.2.2.1 hc') (fun hc'=>B6 h1 h2 hpl h.2.2.2.2 hc')
 | .tight n a,k,h,_,_,_,hc=>EU h1 h2 h hc hpl (fun hc'=>B6 h1 h2 hpl h.2.2.2 hc')
def fl(b:Nat→Bool):Nat→Nat→Int→Int
  | _,0,f=>f
  | k,n+1,f=>fl b (k+1) n (if b k=true∧f<0 then(k:Int)else f)
theorem tp{b:Nat→Bool}: ∀{n k:Nat} {f:Int},(∀j,k≤j→j<k+n→b j=false)→fl b k n f=f
 | 0,_,_,_=>rfl
 | n+1,k,f,h=>by
  unfold fl
  rw[h k (cQ _) (by omega),if_neg (by simp)]
  exact tp fun j h1 h2=>h j (by omega) (by omega)
theorem vU{b:Nat→Bool}: ∀{m n k:Nat} {f:Int},fl b k (m+n) f=fl b (k+m) n (fl b k m f)
 | 0,n,k,f=>by rw[Nat.zero_add];rfl
 | m+1,n,k,f=>by
  rw[show m+1+n=(m+n)+1 by omega]
  show fl b (k+1) (m+n) _=fl b (k+(m+1)) n (fl b (k+1) m _)
  rw[vU,show k+1+m=k+(m+1) by omega]
theorem CM{b:Nat→Bool}{n k:Nat}{f:Int}:fl b k (n+1) f=if b (k+n)=true∧fl b k n f<0 then((k+n:Nat):Int)else fl b k n f:=by
 rw[vU];rfl
structure Eqs(p:List Nd)(c0:List Tm)(H:Nat→Bool)(A:Nat→List Tm)(R:Nat→Bool):Prop where
  h0:0<p.length→H 0=true∧A 0=c0
  h: ∀j,0<j→j<p.length→H j=R (rj p j j).1.toNat
  a: ∀j,0<j→j<p.length→H j=true→A j=kK (p.getD (rj p j j).1.toNat default) (A (rj p j j).1.toNat) (rj p j j).2
  r: ∀j,j<p.length→R j=(H j&&i6 (p.getD j default) (A j))
theorem lS{p:List Nd}{c0:List Tm}(hp:tT p=true)(h0:CtxOk c0){n:Nat}: ∀{m:Nat},n≤m→m≤p.length→∀j,j<n→
    (ct p c0 m).all.getD j default=(ct p c0 n).all.getD j default∧(ct p c0 m).has.getD j default=(ct p c0 n).has.getD j default∧(ct p c0 m).right.getD j default=(ct p c0 n).right.getD j default
 | 0,h,_,j,hj=>by omega
 | m+1,h,hm,j,hj=>by
  by_cases e:n=m+1
  subst e;exact⟨rfl,rfl,rfl⟩
  have ih:=lS hp h0 (n:=n) (m:=m) (by omega) (by omega) j hj
  have hz:=qC (c0:=c0) hp h0 (k:=m) (by omega)
  show((ct p c0 m).all++[_]).getD j default=_∧((ct p c0 m).has++[_]).getD j default=_∧((ct p c0 m).right++[_]).getD j default=_
  rw[fm,fm,fm,hz.all,hz.has,hz.right,if_neg (by omega),if_neg (by omega),if_neg (by omega)]
  exact ih
theorem kW{p:List Nd}{c0:List Tm}(hp:tT p=true)(h0:CtxOk c0){j:Nat}(hj:j<p.length) :
    (ct p c0 p.length).all.getD j default=ya p c0 j (ct p c0 j)∧(ct p c0 p.length).has.getD j default=mH p j (ct p c0 j)∧(ct p c0 p.length).right.getD j default=nO p c0 j (ct p c0 j):=by
 have h1:=lS (c0:=c0) hp h0 (n:=j+1) (m:=p.length) (by omega) (cQ _) j (by omega)
 have hz:=qC (c0:=c0) hp h0 (k:=j) (by omega)
 rw[h1.1,h1.2.1,h1.2.2]
 show((ct p c0 j).all++[_]).getD j default=_∧((ct p c0 j).has++[_]).getD j default=_∧((ct p c0 j).right++[_]).getD j default=_
 rw[fm,fm,fm,hz.all,hz.has,hz.right,if_pos Z,if_pos Z,if_pos Z]
 exact⟨Z,Z,Z⟩
theorem yJ{p:List Nd}{c0:List Tm}(hp:tT p=true)(h0:CtxOk c0) :
    Eqs p c0 (fun j=>(ct p c0 p.length).has.getD j default) (fun j=>(ct p c0 p.length).all.getD j default) (fun j=>(ct p c0 p.length).right.getD j default):=by
 refine⟨fun h=>?_,fun j hj0 hj=>?_,fun j hj0 hj hH=>?_,fun j hj=>?_⟩
 have:=kW (c0:=c0) hp h0 h
 exact⟨this.2.1,this.1⟩
 have h1:=kW (c0:=c0) hp h0 hj
 obtain⟨a,ha,hak⟩:=vJ hp hj0 hj
 have h2:=lS (c0:=c0) hp h0 (n:=j) (m:=p.length) (by omega) (cQ _) a hak
 show(ct p c0 p.length).has.getD j default=_
 rw[h1.2.1,mH,if_neg (by omega)]
 show _=(ct p c0 p.length).right.getD _ default
 rw[ha,Int.toNat_natCast,h2.2.2]
 have h1:=kW (c0:=c0) hp h0 hj
 obtain⟨a,ha,hak⟩:=vJ hp hj0 hj
 have h2:=lS (c0:=c0) hp h0 (n:=j) (m:=p.length) (by omega) (cQ _) a hak
 have hH:(ct p c0 p.length).has.getD j default=true:=hH
 show(ct p c0 p.length).all.getD j default=_
 rw[h1.1,ya,if_neg (by omega),if_pos (by rw[←h1.2.1];exact hH)]
 show _=kK _ ((ct p c0 p.length).all.getD _ default) _
 rw[ha,Int.toNat_natCast,h2.1]
 have h1:=kW (c0:=c0) hp h0 hj
 show(ct p c0 p.length).right.getD j default=_
 rw[h1.2.2,nO,←h1.1,←h1.2.1]
theorem qY{p:List Nd}{c0:List Tm}(hp:tT p=true)(h0:CtxOk c0): ∀{n:Nat},n≤p.length→
    (ct p c0 n).flaw=fl (fun j=>(ct p c0 p.length).has.getD j default&& !(ct p c0 p.length).right.getD j default) 0 n (-1)
 | 0,_=>rfl
 | n+1,hn=>by
  have h1:=kW (c0:=c0) hp h0 (show n<p.length by omega)
  rw[CM,←qY hp h0 (n:=n) (by omega),Nat.zero_add,h1.2.1,h1.2.2]
  show(if((mH p n (ct p c0 n)&& !nO p c0 n (ct p c0 n))&&decide ((ct p c0 n).flaw<0))=true then(n:Int)else(ct p c0 n).flaw)=_
  simp only[bC,decide_eq_true_eq]
theorem Pf.At.nested{p:List Nd}: ∀{t:Pf} {k i:Nat},t.At p k→k≤i→i<k+t.size→Al.endP p i≤((k+t.size:Nat):Int)
 | .close x,k,i,h,h1,h2=>by
  simp only[Pf.size]at h2
  obtain rfl:i=k:=by omega
  rw[h.endP];omega
 | .tight x a,k,i,h,h1,h2=>by
  by_cases e:i=k
  subst e;rw[h.endP];omega
  simp only[Pf.size]at h2 ⊢
  have:=h.2.2.2.nested (i:=i) (by omega) (by omega)
  omega
 | .split x a b,k,i,h,h1,h2=>by
  by_cases e:i=k
  subst e;rw[h.endP];omega
  simp only[Pf.size]at h2 ⊢
  by_cases e2:i<k+1+a.size
  have:=h.2.2.2.1.nested (i:=i) (by omega) (by omega)
  omega
  have:=h.2.2.2.2.nested (i:=i) (by omega) (by omega)
  omega
theorem ux{p:List Nd}{k lo:Nat}: ∀{hi:Nat},lo≤hi→(∀i,lo≤i→i<hi→Al.endP p i≤k)→rj p k hi=rj p k lo
 | 0,h,_=>by
  obtain rfl:lo=0:=by omega
  rfl
 | hi+1,h,hs=>by
  by_cases e:lo=hi+1
  rw[e]
  rw[rj,if_pos (.inr (hs hi (by omega) (by omega)))]
  exact ux (by omega) fun i h1 h2=>hs i h1 (by omega)
theorem lO{p:List Nd}{k:Nat}(hk:(p.getD k default).kind≠1)(he:((k+1:Nat):Int)<Al.endP p k):rj p (k+1) (k+1)=((k:Int),true):=by
 rw[rj,if_neg (by rintro(h|h);exact hk h;omega)]
 simp
theorem qO{p:List Nd}{k m:Nat}(hm:0<m)(hk:(p.getD k default).kind≠1)(he:((k+1+m:Nat):Int)<Al.endP p k)(hs: ∀i,k+1≤i→i<k+1+m→Al.endP p i≤((k+1+m:Nat):Int)):rj p (k+1+m) (k+1+m)=((k:Int),false):=by
 rw[ux (lo:=k+1) (by omega) hs,rj,if_neg (by rintro(h|h);exact hk h;omega)]
 simp;omega
theorem Pf.At.dead{p:List Nd}{c0 H A R}(E:Eqs p c0 H A R): ∀{t:Pf} {k:Nat},t.At p k→H k=false→∀j,k≤j→j<k+t.size→H j=false
 | .close x,k,h,hk,j,h1,h2=>by
  simp only[Pf.size]at h2
  obtain rfl:j=k:=by omega
  exact hk
 | .tight x a,k,h,hk,j,h1,h2=>by
  by_cases e:j=k
  subst e;exact hk
  have hl:=h.le
  have hp:=c8 (t:=a)
  simp only[Pf.size]at h2 hl
  have hpar:=lO (p:=p) (k:=k) (by rw[(cj h.1).2,h.2.2.1];decide) (by rw[h.endP];simp only[Pf.size];omega)
  refine h.2.2.2.dead E ?_ j (by omega) (by omega)
  rw[E.h (k+1) (by omega) (by omega),hpar,Int.toNat_natCast,E.r k (by omega),hk];rfl
 | .split x a b,k,h,hk,j,h1,h2=>by
  by_cases e:j=k
  subst e;exact hk
  have hl:=h.le
  have hp:=c8 (t:=a)
  have hq:=c8 (t:=b)
  simp only[Pf.size]at h2 hl
  have hkk:(p.getD k default).kind≠1:=by rw[(cj h.1).2,h.2.2.1];decide
  have hend:Al.endP p k=((k+1+a.size+b.size:Nat):Int):=by rw[h.endP];simp only[Pf.size];omega
  have hpar:=lO (p:=p) (k:=k) hkk (by rw[hend];omega)
  have hpar2:=qO (p:=p) (k:=k) (m:=a.size) hp hkk (by rw[hend];omega) (fun i h1 h2=>h.2.2.2.1.nested h1 h2)
  have hr:R k=false:=by rw[E.r k (by omega),hk];rfl
  by_cases e2:j<k+1+a.size
  refine h.2.2.2.1.dead E ?_ j (by omega) (by omega)
  rw[E.h (k+1) (by omega) (by omega),hpar,Int.toNat_natCast,hr]
  refine h.2.2.2.2.dead E ?_ j (by omega) (by omega)
  rw[E.h (k+1+a.size) (by omega) (by omega),hpar2,Int.toNat_natCast,hr]
theorem Et{n:Nd}{c:List Tm}(h:n.kind=2):i6 n c=gu n c:=by
 unfold i6 gu
 rw[if_neg (by omega),l7]
 by_cases h1:20≤c.length
 rw[if_pos h1,decide_eq_false (by omega),Bool.false_and]
 rw[if_neg h1,if_pos h,decide_eq_true (by omega),Bool.true_and]
theorem Es{n:Nd}{c:List Tm}(hn:gN n=true)(h:n.kind=3)(hc:CtxOk c):i6 n c=(gS n c&&(oY n c).2):=by
 have hf:=uA hn
 unfold i6 gS oY eW
 rw[if_neg (by omega)]
 by_cases h1:20≤c.length
 rw[if_pos h1,decide_eq_false (show¬(c.length:Int)<20 by omega),Bool.false_and,Bool.false_and]
 rw[if_neg h1,if_neg (by omega),decide_eq_true (show(c.length:Int)<20 by omega),Bool.true_and,decide_eq_true hf,Bool.true_and]
 by_cases h2:n.fact≥c.length
 rw[if_pos h2,decide_eq_false (by omega),Bool.false_and]
 rw[if_neg h2,decide_eq_true (by omega),Bool.true_and,ga (hc.get (by omega))]
theorem vT{b:Nat→Bool}{n k:Nat}{f:Int}(hk:b k=true)(h: ∀j,k<j→j<k+(n+1)→b j=false):fl b k (n+1) f=if f<0 then(k:Int)else f:=by
 unfold fl
 rw[tp fun j h1 h2=>h j (by omega) (by omega)]
 simp[hk]
theorem xL{b:Nat→Bool}{n k:Nat}{f:Int}(hk:b k=false):fl b k (n+1) f=fl b (k+1) n f:=by
 rw[fl,if_neg (by simp[hk])]
def sG(H:Nat→Bool)(A:Nat→List Tm)(j:Nat):Option (List Tm):=if H j=true then some (A j)else none
theorem Pf.At.exam{p:List Nd}{c0 H A R}(E:Eqs p c0 H A R): ∀{t:Pf} {k:Nat} {e:Ex},t.At p k→H k=true→CtxOk (A k)→(∀j,k≤j→j<k+t.size→gO e.es j=none)→
    (jQ t k (A k) e).flaw=fl (fun j=>H j&& !R j) k t.size e.flaw∧∀j:Nat,gO (jQ t k (A k) e).es j=if k≤j∧j<k+t.size then sG H A j else gO e.es j
 | .close x,k,e,h,hk,hc,hn=>by
  obtain⟨hl,hg⟩:=cj h.1
  have hr:R k=dH (A k) x.mul:=by rw[E.r k hl,hk,hg,i6,if_pos h.2.2,Bool.true_and,so]
  have hes: ∀j:Nat,gO (e.put k (A k)).es j=if k≤j∧j<k+1 then sG H A j else gO e.es j:=fun j=>by
   show gO (nD e.es k (A k)) j=_
   rw[mV]
   by_cases e1:j=k
   · subst e1;rw[if_pos rfl,if_pos (by omega),sG,if_pos hk]
   · rw[if_neg (by omega),if_neg (by omega)]
  unfold jQ
  cases hcl:dH (A k) x.mul with
  | true=>
   rw[if_pos Z]
   refine⟨?_,hes⟩
   show e.flaw=_
   have h0: ∀j,k≤j→j<k+1→(H j&& !R j)=false:=fun j h1 h2=>by
    obtain rfl:j=k:=by omega
    rw[hr,hcl];simp
   rw[Pf.size,tp h0]
  | false=>
   rw[if_neg (by decide)]
   have hb:(fun j=>H j&& !R j) k=true:=by show(H k&& !R k)=true;rw[hk,hr,hcl];rfl
   refine⟨?_,fun j=>?_⟩
   show((e.put k (A k)).bad k).flaw=fl _ k (0+1) _
   rw[vT hb (fun j h1 h2=>by omega)]
   unfold Ex.bad
   show(if e.flaw<0 then _ else _:Ex).flaw=_
   split<;>rfl
   rw[Pf.size,←hes j]
   unfold Ex.bad
   split<;>rfl
 | .tight x a,k,e,h,hk,hc,hn=>by
  obtain⟨hl,hg⟩:=cj h.1
  have hll:=h.le
  have hp:=c8 (t:=a)
  simp only[Pf.size]at hll hn
  have hr:R k=(gS x (A k)&&(oY x (A k)).2):=by rw[E.r k hl,hk,hg,Es h.2.1 h.2.2.1 hc,Bool.true_and]
  have hpar:=lO (p:=p) (k:=k) (by rw[hg,h.2.2.1];decide) (by rw[h.endP];simp only[Pf.size];omega)
  have hH1:H (k+1)=R k:=by rw[E.h (k+1) (by omega) (by omega),hpar,Int.toNat_natCast]
  have hput: ∀j:Nat,gO (e.put k (A k)).es j=if j=k then some (A k)else gO e.es j:=fun j=>by
   show gO (nD e.es k (A k)) j=_
   rw[mV]
   by_cases e1:j=k
   · rw[if_pos e1,if_pos (by omega)]
   · rw[if_neg (by omega),if_neg e1]
  unfold jQ
  cases hcl:(gS x (A k)&&(oY x (A k)).2)with
  | true=>
   rw[hcl]at hr
   rw[if_pos Z]
   rw[hr]at hH1
   have hcl':=hcl
   simp only[gS,eW,bC,decide_eq_true_eq]at hcl'
   have hA1:A (k+1)=A k++[(oY x (A k)).1]:=by
    rw[E.a (k+1) (by omega) (by omega) hH1,hpar,Int.toNat_natCast,hg,kK,if_pos h.2.2.1]
    unfold oY
    rw[ga (hc.get (by omega))]
   have htok:(oY x (A k)).1.ok=true:=by
    have h9:=hcl'.2
    unfold oY at h9 ⊢
    rw[ga (hc.get (by omega))]at h9 ⊢
    exact lI h9
   have ih:=h.2.2.2.exam E (e:=e.put k (A k)) hH1 (by rw[hA1];exact hc.snoc htok hcl'.1.1) (fun j h1 h2=>by rw[hput,if_neg (by omega)];exact hn j (by omega) (by omega))
   rw[hA1]at ih
   refine⟨?_,fun j=>?_⟩
   rw[ih.1,Pf.size,Nat.add_comm 1,xL (by show(H k&& !R k)=false;rw[hr];simp)]
   rfl
   rw[ih.2 j,hput j,Pf.size]
   by_cases e1:j=k
   subst e1;rw[if_neg (by omega),if_pos rfl,if_pos (by omega),sG,if_pos hk]
   by_cases e2:k+1≤j∧j<k+1+a.size
   rw[if_pos e2,if_pos (by omega)]
   rw[if_neg e2,if_neg e1,if_neg (by omega)]
  | false=>
   rw[hcl]at hr
   rw[if_neg (by decide)]
   rw[hr]at hH1
   have hd:=h.2.2.2.dead E hH1
   have hb:(fun j=>H j&& !R j) k=true:=by show(H k&& !R k)=true;rw[hk,hr];rfl
   refine⟨?_,fun j=>?_⟩
   rw[Pf.size,Nat.add_comm 1,vT hb (fun j h1 h2=>by show(H j&& !R j)=false;rw[hd j (by omega) (by omega)];rfl)]
   unfold Ex.bad
   show(if e.flaw<0 then _ else _:Ex).flaw=_
   split<;>rfl
   have:gO ((e.put k (A k)).bad k).es j=gO (e.put k (A k)).es j:=by unfold Ex.bad;split<;>rfl
   rw[this,hput j,Pf.size]
   by_cases e1:j=k
   subst e1;rw[if_pos rfl,if_pos (by omega),sG,if_pos hk]
   rw[if_neg e1]
   by_cases e2:k≤j∧j<k+(1+a.size)
   rw[if_pos e2,sG,hd j (by omega) (by omega),if_neg (by decide)]
   exact hn j e2.1 (by omega)
   rw[if_neg e2]
 | .split x a b,k,e,h,hk,hc,hn=>by
  obtain⟨hl,hg⟩:=cj h.1
  have hll:=h.le
  have hp:=c8 (t:=a)
  have hq:=c8 (t:=b)
  simp only[Pf.size]at hll hn
  have hr:R k=gu x (A k):=by rw[E.r k hl,hk,hg,Et h.2.2.1,Bool.true_and]
  have hkk:(p.getD k default).kind≠1:=by rw[hg,h.2.2.1];decide
  have hend:Al.endP p k=((k+1+a.size+b.size:Nat):Int):=by rw[h.endP];simp only[Pf.size];omega
  have hpar:=lO (p:=p) (k:=k) hkk (by rw[hend];omega)
  have hpar2:=qO (p:=p) (k:=k) (m:=a.size) hp hkk (by rw[hend];omega) (fun i h1 h2=>h.2.2.2.1.nested h1 h2)
  have hH1:H (k+1)=R k:=by rw[E.h (k+1) (by omega) (by omega),hpar,Int.toNat_natCast]
  have hH2:H (k+1+a.size)=R k:=by rw[E.h (k+1+a.size) (by omega) (by omega),hpar2,Int.toNat_natCast]
  have hput: ∀j:Nat,gO (e.put k (A k)).es j=if j=k then some (A k)else gO e.es j:=fun j=>by
   show gO (nD e.es k (A k)) j=_
   rw[mV]
   by_cases e1:j=k
   · rw[if_pos e1,if_pos (by omega)]
   · rw[if_neg (by omega),if_neg e1]
  unfold jQ
  cases hcl:gu x (A k)with
  | true=>
   rw[hcl]at hr
   rw[if_pos Z]
   rw[hr]at hH1 hH2
   have hcl':=hcl
   simp only[gu,bC,decide_eq_true_eq]at hcl'
   have hA1:A (k+1)=A k++[x.term]:=by
    rw[E.a (k+1) (by omega) (by omega) hH1,hpar,Int.toNat_natCast,hg,kK,if_neg (by rw[h.2.2.1];decide),if_pos Z]
   have hA2:A (k+1+a.size)=A k++[dP x.term]:=by
    rw[E.a (k+1+a.size) (by omega) (by omega) hH2,hpar2,Int.toNat_natCast,hg,kK,if_neg (by rw[h.2.2.1];decide),if_neg (show¬((k:Int),false).2=true from Bool.false_ne_true),zD hcl'.2]
   have ih1:=h.2.2.2.1.exam E (e:=e.put k (A k)) hH1 (by rw[hA1];exact hc.snoc (mY h.2.1) hcl'.1) (fun j h1 h2=>by rw[hput,if_neg (by omega)];exact hn j (by omega) (by omega))
   rw[hA1]at ih1
   have ih2:=h.2.2.2.2.exam E (e:=jQ a (k+1) (A k++[x.term]) (e.put k (A k))) hH2 (by rw[hA2];exact hc.snoc hcl'.2 hcl'.1) (fun j h1 h2=>by
    rw[ih1.2 j,if_neg (by omega),hput,if_neg (by omega)];exact hn j (by omega) (by omega))
   rw[hA2]at ih2
   refine⟨?_,fun j=>?_⟩
   rw[ih2.1,ih1.1,Pf.size,show 1+a.size+b.size=(a.size+b.size)+1 by omega,xL (by show(H k&& !R k)=false;rw[hr];simp),vU]
   rfl
   rw[ih2.2 j,ih1.2 j,hput j,Pf.size]
   by_cases e1:j=k
   subst e1;rw[if_neg (by omega),if_neg (by omega),if_pos rfl,if_pos (by omega),sG,if_pos hk]
   by_cases e2:k+1+a.size≤j∧j<k+1+a.size+b.size
   rw[if_pos e2,if_pos (by omega)]
   rw[if_neg e2]
   by_cases e3:k+1≤j∧j<k+1+a.size
   rw[if_pos e3,if_pos (by omega)]
   rw[if_neg e3,if_neg e1,if_neg (by omega)]
  | false=>
   rw[hcl]at hr
   rw[if_neg (by decide)]
   rw[hr]at hH1 hH2
   have hd1:=h.2.2.2.1.dead E hH1
   have hd2:=h.2.2.2.2.dead E hH2
   have hd: ∀j,k<j→j<k+(1+a.size+b.size)→H j=false:=fun j h1 h2=>by
    by_cases e2:j<k+1+a.size
    · exact hd1 j (by omega) e2
    · exact hd2 j (by omega) (by omega)
   have hb:(fun j=>H j&& !R j) k=true:=by show(H k&& !R k)=true;rw[hk,hr];rfl
   refine⟨?_,fun j=>?_⟩
   rw[Pf.size,show 1+a.size+b.size=(a.size+b.size)+1 by omega,vT hb (fun j h1 h2=>by show(H j&& !R j)=false;rw[hd j h1 (by omega)];rfl)]
   unfold Ex.bad
   show(if e.flaw<0 then _ else _:Ex).flaw=_
   split<;>rfl
   have:gO ((e.put k (A k)).bad k).es j=gO (e.put k (A k)).es j:=by unfold Ex.bad;split<;>rfl
   rw[this,hput j,Pf.size]
   by_cases e1:j=k
   subst e1;rw[if_pos rfl,if_pos (by omega),sG,if_pos hk]
   rw[if_neg e1]
   by_cases e2:k≤j∧j<k+(1+a.size+b.size)
   rw[if_pos e2,sG,hd j (by omega) e2.2,if_neg (by decide)]
   exact hn j e2.1 (by omega)
   rw[if_neg e2]
theorem CO{p:List Nd}{c0:List Tm}{t:Pf}(hp:tT p=true)(h0:CtxOk c0)(ht:t.At p 0)(hs:t.size=p.length) :
    (jQ t 0 c0 ⟨[],-1⟩).flaw=(ct p c0 p.length).flaw∧∀j:Nat,j<p.length→gO (jQ t 0 c0 ⟨[],-1⟩).es j=if(ct p c0 p.length).has.getD j default=true then some ((ct p c0 p.length).all.getD j default)else none:=by
 have hl:=(kO hp).1
 have E:=yJ (c0:=c0) hp h0
 have h1:=E.h0 (by omega)
 have h2:=ht.exam E (e:=⟨[],-1⟩) h1.1 (by rw[h1.2];exact h0) (fun j _ _=>rfl)
 rw[h1.2]at h2
 refine⟨?_,fun j hj=>?_⟩
 rw[h2.1,qY (c0:=c0) hp h0 (cQ _),hs]
 rw[h2.2 j,if_pos (by omega)];rfl
theorem lD{s:Sq}(h:dF s=true):gp s=mh s:=by
 unfold gp mh
 rw[h,Bool.true_and,l7]
 split
 rename_i ho;rw[zD ho]
 rfl
theorem pZ{s:Sq}(h:(gp s).2=true):dF s=true∧(dP s.goal).ok=true:=by
 unfold gp at h
 split at h
 rename_i h1;simpa using h1
 cases h
theorem yI{s:Sq}(h:(gp s).2=true): ∃c r,(gp s).1=c::r∧CtxOk (c::r):=by
 obtain⟨h1,h2⟩:=pZ h
 have h3:CtxOk (gp s).1:=by rw[lD h1];exact xT h1
 unfold gp at h3 ⊢
 rw[h1,h2]at h3 ⊢
 simp only[Bool.and_true,if_true]at h3 ⊢
 cases hf:s.facts with
 | nil=>rw[hf]at h3;exact⟨_,_,rfl,h3⟩
 | cons c r=>rw[hf]at h3;exact⟨_,_,rfl,h3⟩
abbrev E0(s:Sq)(t:Pf):Ex:=jQ t 0 (gp s).1 ⟨[],-1⟩
theorem BY:MQ h1 h2 139 [bM ts] [] (Rows (.c (.rs 0 0 ts.length)) [GM ts]):=by
 refine cq (jB 19 h1 h2 Tryz.func139 Z fun O hF=>?_)
 have hl:ts.length≤L:=by simpa[As.fact,A.fact,M.fact,D.fact,Ds.fact]using hF.1.1
 refine ac (js Z (aN (js Z (jn (ae (ac (js Z (cW Z (js Z (jn (ak (ap (X:=Nat) (fun i=>⟨[(3,.c (.rs 900 0 i)),(6,bM ts),(7,eI ts.length),(8,eI i)],[(900,GM (ts.take i))]⟩) (fun i=>i≤ts.length) (fun i=>ts.length-i) 0 ((cx 3 900 2 true Z Z).trans (Ent.to ⟨Z,Z,Z,Z,tv⟩ Z)) ?_ (fun i hi=>?_)))))))))))))
 exact cG _
 refine ac (js Z (jn (ae (zc Z (fun z9=>?_) (fun z9=>?_)))))
 try simp only[bo]at z9
 refine af (ae (ak (ac (jh Z Z (js Z (jl Z (am ?_)))))))
 refine jo Z (am ?_)
 refine jn (ag (jb Z (bS O (B0:=15000) Z Z Z Z (rD (t:=ts.getD i default) h1 h2) (ab Z) Z Z Z Z Z Z (am ?_))))
 refine hp (lV (ds:=Tm.cells (ts.getD i default)) O Z Z Z Z Z Z Z Z Z Z (.d Z (.rs Z (bA _).symm .nil)) Z Z Z) Z (am ?_)
 refine am ?_
 refine hp (cu (zs:=(ts.take (i+1)).map Tm.cells) (n:=i+1) O Z Z Z Z Z Z Z Z Z Z Z Z Z Z Z Z (.row Z (by simp;omega)) Z Z (by decide) Z (by simp;omega) (by simp;omega) (by rw[List.take_succ_eq_append_getElem (by omega),List.map_append,aw (by omega)];rfl) (by simp;omega)) Z (am ?_)
 refine am ?_
 refine js Z (jn (ag (ji Z (js Z (jn ?_)))))
 refine⟨i+1,((ah [16] (e':=[(3,_),(6,_),(7,_),(8,_)]) Z Z ⟨Z,Z,Z,Z,tv⟩ Z).trans (aa 16 900 Z Z)),by omega,by omega⟩
 try simp only[bo]at z9
 refine aR (ac (jb Z (jr ?_)))
 obtain rfl:i=ts.length:=by omega
 rw[List.take_length]
 refine⟨.inl Z,_,bK,_,Z,[900],by decide,Z,Z,Z⟩
theorem JK{t:Pf}(h:(gp s).2=true)(hI:vt p=true)(ht:t.At p 0)(hts:t.size=p.length):MQ h1 h2 68 [BJ s,nN p] [] (aO (.tup [.c (.pt 0 0 0),eB true]) (xH p (E0 s t))):=by
 refine jB 29 h1 h2 Tryz.func68 Z fun O hF=>?_
 obtain⟨c0,r0,hcr,hco⟩:=yI h
 have hpl:=(qj hI).1
 refine ac (jx Z (am ?_))
 refine jb Z (aN (js Z (jf [10,5,4,0,1] Z (aj O Z Z Z Z (B7 (s:=s) h1 h2) (ab Z) Z Z Z Z (B0:=12000) Z Z (jd Z (js Z (jf [7,6,5,4,0,1] Z (jn (ae (ac (jc Z (jf [16,6,5,4,0,1] Z (ar 3 Z Z Z (fun hx=>nz hx Z (bj O hx Z Z Z Z (G9 (p:=p) h1 h2) (ab Z) Z Z Z Z Z Z Z (B0:=19000) Z (nz hx Z (AN.nil)))) Z Z ?_)))))))))))))
 first|refine st (ay O Z Z Z Z Z) Z ?_|refine st (Val.pickB O Z Z Z Z Z) Z ?_|refine st (aq O Z Z Z Z Z) Z ?_
 refine jf [20,6,5,4,0,1] Z (jn (zc Z (fun z20=>?_) (fun z20=>?_)))
 exact absurd z20 (by rw[h,hI];decide)
 refine af (ac ?_)
 rw[E0,hcr]
 refine js Z (jf [21,6,5,4,0,1] Z (hp (HS.makeMap O Z Z Z Z) Z (am ?_)))
 refine am ?_
 refine js Z (jf [23,6,5,4,0,1] Z (jx Z (am ?_)))
 refine js Z (jf [8,6,5,4,0,1] Z (aN (jb Z (jf [26,25,8,5,4,0,1] Z (ao O [24,22] (bin:=[.box [.d (D1 p),.mp 1,.d (.int .i64 (Ex.flaw ⟨[],-1⟩))],aX (cm (Ex.es ⟨[],-1⟩))]) Z Z Z Z (B6 (k:=0) (c0:=c0) (r0:=r0) (e:=⟨[],-1⟩) h1 h2 (by omega) ht hco) Z Z Z Z Z Z (B0:=28000) Z Z (am ?_))))))
 refine jf [8,5,4,0,1] Z (aN (jc Z (jr ?_)))
 refine⟨.inl Z,_,(ah [24,22] (e':=[(4,_),(5,_)]) Z Z ⟨Z,Z,tv⟩ Z).trans ((aa 24 0 Z Z).trans (aa 22 1 Z Z)),_,Z,Z,Z⟩
theorem JL(hn:((gp s).2&&vt p)=false):MQ h1 h2 68 [BJ s,nN p] [] (Plain (.tup [.c (.d .nilp),eB false])):=by
 refine MC.data (jB 29 h1 h2 Tryz.func68 Z fun O hF=>?_)
 refine ac (jx Z (am ?_))
 refine jb Z (aN (js Z (aj O Z Z Z Z (B7 (s:=s) h1 h2) (ab Z) Z Z Z Z (B0:=12000) Z Z (jd Z (js Z (jn (ae (ac (jc Z (ar 3 Z Z Z (fun hx=>nz hx Z (bj O hx Z Z Z Z (G9 (p:=p) h1 h2) (ab Z) Z Z Z Z Z Z Z (B0:=19000) Z (nz hx Z (AN.nil)))) Z Z ?_))))))))))
 first|refine st (ay O Z Z Z Z Z) Z ?_|refine st (Val.pickB O Z Z Z Z Z) Z ?_|refine st (aq O Z Z Z Z Z) Z ?_
 refine jn (zc Z (fun z20=>?_) (fun z20=>?_))
 refine ac (jb Z (jr ?_))
 refine eR Z ?_
 exact .tup (.cons (.c .d) (.cons (.c .d) .nil))
 exact absurd z20 (by rw[g2,hn];decide)
theorem JH{t:Pf}(h:(gp s).2=true)(hI:vt p=true)(ht:t.At p 0)(hts:t.size=p.length):MQ h1 h2 38 [BJ s,nN p] [] (Plain (eB (decide ((E0 s t).flaw<0)))):=by
 refine aB ?_ Z
 refine jB 21 h1 h2 Tryz.func38 Z fun O hF=>?_
 refine ac (jx Z (am ?_))
 refine js Z (aN (jb Z (sB O Z Z Z Z (JK (s:=s) (p:=p) (t:=t) h1 h2 h hI ht hts) (ab Z) Z Z Z Z (B0:=11000) Z (am ?_))))
 refine jd Z (js Z (aN (jb Z (ar 5 Z Z Z (fun hx=>nz hx Z (nz hx Z (nz hx Z (nz hx Z (nz hx Z (AN.nil)))))) Z Z ?_))))
 first|refine st (aq O Z Z Z Z Z) Z ?_|refine st (ay O Z Z Z Z Z) Z ?_|refine st (Val.pickB O Z Z Z Z Z) Z ?_
 refine js Z (jr ?_)
 refine eR Z ?_
 rfl
theorem JI(hn:((gp s).2&&vt p)=false):MQ h1 h2 38 [BJ s,nN p] [] (Plain (eB false)):=by
 refine aB ?_ Z
 refine jB 21 h1 h2 Tryz.func38 Z fun O hF=>?_
 refine ac (jx Z (am ?_))
 refine js Z (aN (jb Z (aj O Z Z Z Z (JL (s:=s) (p:=p) h1 h2 hn) (ab Z) Z Z Z Z (B0:=11000) Z Z (jd Z (js Z (aN (jb Z (sk Z (sk Z (sk Z (sk Z (sk Z (st (aI O Z Z Z Z Z) Z (js Z (jr ?_)))))))))))))))
 refine eR Z ?_
 rfl
theorem Dx{s:Sq}{p:List Nd}{t:Pf}(h:(gp s).2=true)(hI:vt p=true)(ht:t.At p 0)(hts:t.size=p.length):decide ((E0 s t).flaw<0)=pN s p:=by
 obtain⟨h1,h2⟩:=pZ h
 have hp:tT p=true:=by rw[←vO];exact hI
 have ho:(aL s.goal).2=true:=by rw[l7];exact h2
 have he:=CO (c0:=(mh s).1) hp (xT h1) ht hts
 unfold pN BX E0
 rw[h1,hp,if_pos ho,lD h1,he.1];rfl
theorem HU{s:Sq}{p:List Nd}(h:((gp s).2&&vt p)=false):pN s p=false:=by
 unfold pN BX
 rw[←vO]
 cases h1:dF s with
 | false=>rfl
 | true=>
  rw[lD h1,vZ]at h
  cases h2:vt p with
  | false=>rfl
  | true=>rw[h2,Bool.and_true]at h;rw[if_neg (by rw[h];decide)];rfl
theorem c96{L:Nat}(h1:4096≤L)(h2:L≤1073741824){s:Sq}{p:List Nd}:MC Tryz.prog L 38 [BJ s,nN p] [] (Plain (eB (pN s p))):=by
 cases h:((gp s).2&&vt p)with
 | false=>rw[HU h];exact JI h1 h2 h
 | true=>
  rw[bC]at h
  obtain⟨_,t,ht,hts⟩:=qj h.2
  rw[←Dx h.1 h.2 ht hts]
  exact JH h1 h2 h.1 h.2 ht hts
def sN(ss:List Sq)(ps:List (List Nd)):Bool:=decide ((ss.length:Int)≤60)&&lx ss ps
theorem HP{ss:List Sq}{ps:List (List Nd)}(h:(bif decide (60<(ss.length:Int))then true else !decide ((ps.length:Int)=ss.length))=false):(ss.length:Int)≤60∧ps.length=ss.length:=by
 by_cases h1:60<(ss.length:Int)
 rw[decide_eq_true h1]at h;cases h
 rw[decide_eq_false h1]at h
 have h2:((ps.length:Int)=ss.length):=by simpa using h
 exact⟨by omega,by omega⟩
theorem HO{ss:List Sq}{ps:List (List Nd)}(h:(bif decide (60<(ss.length:Int))then true else !decide ((ps.length:Int)=ss.length))=true):sN ss ps=false:=by
 unfold sN lx
 by_cases h1:60<(ss.length:Int)
 rw[decide_eq_false (show¬(ss.length:Int)≤60 by omega),Bool.false_and]
 rw[decide_eq_false h1]at h
 have h2: ¬((ps.length:Int)=ss.length):=by simpa using h
 rw[decide_eq_false (show¬ps.length=ss.length by omega),Bool.false_and,Bool.and_false]
theorem c47{ss:List Sq}{ps:List (List Nd)}:MQ h1 h2 18 [mG ss,pU ps] [] (Plain (eB (sN ss ps))):=by
 refine aB ?_ Z
 refine jB 32 h1 h2 Tryz.func18 Z fun O hF=>?_
 have hl:ss.length≤L:=by simpa[As.fact,A.fact,M.fact,D.fact,Ds.fact]using hF.1.1
 refine ac (js Z (jn (ae (ac (js Z ?_)))))
 first|refine cW Z ?_|refine js Z ?_|refine db Z Z ?_
 refine jb Z (ar 5 Z Z Z (fun hx=>nz hx Z (ny hx (bP O Z Z Z Z Z Z Z Z) Z (nz hx Z (ny hx (bP O Z Z Z Z Z Z Z Z) Z (nz hx Z (AN.nil)))))) Z Z ?_)
 first|refine st (ay O Z Z Z Z Z) Z ?_|refine st (Val.pickB O Z Z Z Z Z) Z ?_|refine st (aq O Z Z Z Z Z) Z ?_
 refine jn (zc Z (fun z16=>?_) (fun z16=>?_))
 refine ac (js Z (jr ?_))
 refine eR Z ?_
 rw[show sN ss ps=false from HO z16]
 refine af (ae (ac ?_))
 have hx16:(ss.length:Int)≤60∧ps.length=ss.length:=HP z16
 have hx1:=hx16.1
 have hx2:=hx16.2
 refine js Z ?_
 first|refine cW Z ?_|refine js Z ?_|refine db Z Z ?_
 refine js Z (jn (ak (ap (X:=Nat) (fun i=>⟨[(1,pU ps),(17,mG ss),(18,eI ss.length),(19,eI i)],[]⟩) (fun i=>i≤ss.length∧∀j,j<i→pN (ss.getD j default) (ps.getD j default)=true) (fun i=>ss.length-i) 0 (Ent.env ⟨Z,Z,Z,Z,tv⟩) ?_ (fun i hi=>?_))))
 exact⟨cG _,fun j hj=>absurd hj (Nat.not_lt_zero j)⟩
 refine ac (js Z (jn (ae (zc Z (fun z20=>?_) (fun z20=>?_)))))
 refine af (ae (ak (ac ?_)))
 have hij:i<ss.length:=by have h9:=bt z20;omega
 refine js Z ?_
 first|refine jh Z Z ?_|refine nC Z Z ?_|refine db Z Z ?_
 refine js Z (jl Z (am ?_))
 refine js Z (jo Z (am ?_))
 refine jn (ae (fJ [_,_,_,_,_,_,_] [p0,p0,p0,pz [1,2],pz [1,2,3],pe (rg 0 5) 0,pn (rg 0 6) 1 1] [5] [_,_] (kc Z (kc Z (kc Z (ai (aQ O Z Z Z Z Z Z Z Z (dx (by omega))) (kc Z (ai (bg O (B0:=30000) Z Z Z Z (c96 (s:=ss.getD i default) (p:=ps.getD i default) h1 h2) (ab Z) Z Z Z Z Z) (kc Z trivial))))))) ?_))
 refine jw [30,6,23,20,1,17,18,19] Z (bJ ?_)
 refine zc Z (fun z30=>?_) (fun z30=>?_)
 refine ac (js Z (jr ?_))
 refine eR Z ?_
 rw[sN,wn hij (nt z30),Bool.and_false]
 refine af (ag ?_)
 first|refine ji Z ?_|refine db Z Z ?_
 refine js Z (jn ?_)
 refine⟨i+1,(ah [] (e':=[(1,_),(17,_),(18,_),(19,_)]) Z Z ⟨Z,Z,Z,Z,tv⟩ Z),⟨by omega,fun j hj=>?_⟩,by omega⟩
 by_cases e:j=i
 subst e;exact nf z30
 exact hi.2 j (by omega)
 refine aR (ac (js Z (jr ?_)))
 refine eR Z ?_
 have h9:=b9 z20
 rw[sN,rV hx2 (fun j hj=>hi.2 j (by omega)),decide_eq_true hx1,Bool.and_self]
end Go.Al
/- What the laws of the certificates share: the types of their arguments; what came in reads as it did. -/
namespace Go.Proofs.YtgaahipcjhjlbaaGreat
open Go.ChangeShapes Go.WideShapes Go.ChangeAt Go.RowKit Go.Al

theorem ownK:ownKnob Tryz.prog.godebug=none:=by kernel_rfl
theorem kidsK:Kids Tryz.prog (· < Tryz.prog.types.size):=kids_rows (by kernel_rfl) (by kernel_rfl)
theorem fullK: ∀t e,t<Tryz.prog.types.size→Tryz.prog.underlying t=some (.slice e)→0<Tryz.prog.cellsOf e:=slices_full_of Tryz.prog (by kernel_rfl)

theorem fits_all{α:Type}{es:List Ty}{g:α→List D}(hg: ∀e,FitsL es e→∃a,e=g a): ∀{xs:List (List D)},FitsA es xs→∃ys:List α,xs=ys.map g
 | _,.nil=>⟨[],rfl⟩
 | _,.cons h1 h2=>by
  obtain⟨a,rfl⟩:=hg _ h1
  obtain⟨ys,rfl⟩:=fits_all hg h2
  exact⟨a::ys,Z⟩
theorem fits_one{t:Ty}{e:List D}(h:FitsL [t] e): ∃d,e=[d]∧Fits t d:=by
 cases h with
 | cons a h=>cases h;exact⟨_,rfl,a⟩
theorem rdl_rms{L:Nat}{w:World}{ok:Nat→Prop}{m:Nat→Go.Al.Loc}: ∀{ds:List D} {vs:List Value} {F:List Nat},RDL L w ok ds vs F→F=[]→RMs L w ok m (ds.map .d) vs
 | _,_,_,.nil,_=>.nil
 | _,_,_,.cons (F1:=F1) (F2:=F2) h1 h2,hF=>by
  obtain⟨rfl,rfl⟩:=List.append_eq_nil_iff.1 hF
  exact .cons (.d h1) (rdl_rms h2 Z)
section
variable{H:Type}{enc:TypeId×Value→H}{P:Program}{w w':World}
theorem Cr(hs: ∀b,b<w.heap.size→Same w w' b){p:MemPlace}(hp:p.block<w.heap.size):w.sameAt w' p:=by
 cases p with
 | cell b o=>exact(hs b hp).cell
 | map b=>exact hs b hp
theorem trodAll_same(hs: ∀b,b<w.heap.size→Same w w' b){base:Nat}{sp:Nat→Bool}{held:Bool}: ∀{ts:List TypeId} {vs:List Value} {ds:List (DataW H)} {ps:List MemPlace},(∀p∈ps,p.block<w.heap.size)→DataW.TrodAll enc P w base sp held ts vs ds ps→DataW.TrodAll enc P w' base sp held ts vs ds ps
 | [],[],[],_,_,h=>h
 | _::_,_::_,_::_,_,hl,⟨p,q,⟨n,h1⟩,h2,e⟩=>
  ⟨p,q,⟨n,DataW.trod_carry n _ _ _ h1 (fun x hx=>Cr hs (hl x (by rw[e];exact List.mem_append_left _ hx)))⟩,trodAll_same hs (fun x hx=>hl x (by rw[e];exact List.mem_append_right _ hx)) h2,e⟩
theorem wu(hf:Go.Al.Frame w w' [])(may:MemPlace→Prop):w.keptBut w' may:=by
 refine⟨hf.os,hf.output,fun i hi=>?_⟩
 have h:=hf.block i hi (by simp)
 unfold Same at h
 rw[h]
 cases hx:w.heap[i]? with
 | none=>trivial
 | some o=>
  cases o with
  | cells c t fr=>exact⟨Z,Z,Z,fun _ _=>rfl⟩
  | map es clock=>exact .inr ⟨Z,Z⟩
  | _=>rfl
theorem wt(hf:Go.Al.Frame w w' []){a:Addr}(ha:a.block<w.heap.size):w'.frozen? a=w.frozen? a:=by
 have h:=hf.block a.block ha (by simp)
 unfold Same at h
 unfold World.frozen?
 rw[h]
theorem post_of_old{f:Func}{s:ChangeSpec}{apart fresh handsOn again:Bool}{args:Array Value}{v:Value}{ds gs:List (DataW H)}{before pa pv:List MemPlace}
    (hW:DataW.Whole enc P f.params.toList s.vars apart w args.toList ds gs before)
    (hres: ∀(b:Nat) (sp:Nat→Bool) (hd:Bool),DataW.TrodAll enc P w' b sp hd f.resultTypes.toList (v.resultList f.resultTypes.size) (s.fn H (ds++gs)).results [])
    (hargs: ∀sp:Nat→Bool,(∀p∈before,sp p.block=true)→DataW.TrodAll enc P w' 0 sp true f.params.toList args.toList (s.fn H (ds++gs)).args pa)
    (hvars: ∀sp:Nat→Bool,(∀p∈before,sp p.block=true)→DataW.TrodVars enc P w' sp s.vars (s.fn H (ds++gs)).vars pv)
    (hps:before=pa++pv) (hf:Go.Al.Frame w w' [])
    (hok: ∀(j:Nat) (t:TypeId) (r:Value),f.resultTypes[j]? = some t→(v.resultList f.resultTypes.size)[j]? = some r→Value.okWide P w' .any 0 t r) :
    s.post enc P f apart fresh handsOn again w args v w':=by
 have hlt:=hW.lt
 have hold: ∀p∈before,(fun b=>decide (b<w.heap.size)) p.block=true:=fun p hp=>by simpa using hlt p hp
 refine⟨ds,gs,before,[],pa,pv,hW,hres _ _ _,hargs _ hold,hvars _ hold,World.keptBut_mono (fun p hp=>⟨hp,?_⟩) (wu hf (· ∈before)),fun _=>?_⟩
 rw[hps,List.mem_append]at hp
 exact Or.inr hp
 obtain⟨_,_,_,_,_,hz,hn⟩:=hW
 refine⟨hok,_,_,([]++pa)++pv,⟨[]++pa,pv,trodAll_append (hargs _ (fun _ _=>rfl)) (hres _ _ _),hvars _ (fun _ _=>rfl),Z,?_,?_⟩,?_⟩
 intro b off hp
 have hp':MemPlace.cell b off∈before:=by rw[hps];simpa using hp
 rw[wt hf (hlt _ hp')]
 exact hz b off hp'
 intro ha
 have:=hn ha
 rw[hps]at this
 simpa using this
 intro p hp _
 rw[hps]
 simpa using hp
end

end Go.Proofs.YtgaahipcjhjlbaaGreat
namespace Go.Al
variable{L:Nat}(h1:4096≤L)(h2:L≤1073741824)
structure In where
  op:Int
  a:Int
  deriving Inhabited,DecidableEq
structure Pt where
  k:Int
  fs:List Tm
  deriving Inhabited,DecidableEq
structure An where
  pre:List Tm
  post:List Tm
  code:List In
  pts:List Pt
  deriving Inhabited,DecidableEq
def vP(x:In):Bool:=
  if x.op=0∨x.op=4 then num x.a else if x.op=1∨x.op=2 then eW 0 3 x.a else if x.op=5∨x.op=6 then eW 0 79 x.a else if x.op=9 then eW 0 3 x.a
  else if x.op=3∨x.op=7∨x.op=8∨x.op=10∨x.op=11 then decide (x.a=0)else false
def D8(x:In):Bool:=decide (x.op=5)||decide (x.op=6)
def JB(ps:List Pt)(k:Int):Bool:=ps.any fun p=>decide (p.k=k)
def HQ(c:List In)(k:Int):Bool:=c.any fun x=>D8 x&&decide (x.a=k)
def plB(c:List In)(ps:List Pt)(k:Int):Bool:=HQ c k||JB ps k
def GW(pl:Int→Bool):Nat→List In→List In
  | _,[]=>[]
  | k,x::r=>if pl (k:Int)=true then[]else x::GW pl (k+1) r
def sgt(c:List In)(ps:List Pt)(k:Nat):List In:=match c.drop k with
  | []=>[]
  | x::r=>x::GW (plB c ps) (k+1) r
def t0:List Int→List In→Bool
  | [],_=>true
  | _::_,[]=>false
  | o::os,x::s=>decide (x.op=o)&&t0 os s
def Ad(x:In):Bool:=decide (x.op=1)||decide (x.op=3)||decide (x.op=7)
def HE(s:List In):Nat×List In:=
  let x:=s.getD 0 default
  let y:=s.getD 1 default
  if t0 [0,4] s=true∧num (x.a*y.a)=true then(2,[⟨0,x.a*y.a⟩])
  else if t0 [0,0,3] s=true∧num (x.a+y.a)=true then(3,[⟨0,x.a+y.a⟩])
  else if t0 [0,1,3] s=true∧x.a=0 then(3,[y])
  else if t0 [0,1,4,3] s=true∧x.a=0 then(4,[y,s.getD 2 default])
  else if(Ad x=true∨x.op=4)∧t0 [x.op,0,3] s=true∧y.a=0 then(3,[x])
  else if Ad x=true∧t0 [x.op,4] s=true∧y.a=1 then(2,[x])
  else if t0 [4,4] s=true∧num (x.a*y.a)=true then(2,[⟨4,x.a*y.a⟩])
  else(0,[])
def JA(k less:Int)(x:In):In:=if D8 x=true∧k<x.a then⟨x.op,x.a-less⟩else x
def sPt(k less:Int)(p:Pt):Pt:=if k<p.k then⟨p.k-less,p.fs⟩else p
def Jz(a:An)(k n:Nat)(by':List In):An:=
  ⟨a.pre,a.post,(a.code.take k++by'++a.code.drop (k+n)).map (JA k ((n:Int)-by'.length)),a.pts.map (sPt k ((n:Int)-by'.length))⟩
abbrev w4(a:An)(k:Nat):Nat×List In:=HE (sgt a.code a.pts k)
def Di(a:An):Nat→Nat→Option An
  | 0,_=>none
  | f+1,k=>if 0<(w4 a k).1 then some (Jz a k (w4 a k).1 (w4 a k).2)else Di a f (k+1)
def HR(a:An):Option An:=Di a a.code.length 0
def Du:Nat→An→An
  | 0,a=>a
  | f + 1,a=>match HR a with
    | none=>a
    | some b=>Du f b
def w8(a:An):An:=Du a.code.length a
structure AOk(a:An):Prop where
  code: ∀x∈a.code,vP x=true
  pts: ∀p∈a.pts,0≤p.k∧p.k≤79
  len:a.code.length≤80
  np:a.pts.length≤8
  npre:a.pre.length≤6
  npost:a.post.length≤6
structure RuOk(s:List In)(r:Nat×List In):Prop where
  n:r.1≤s.length
  lt:r.2.length<r.1
  one:1≤r.2.length
  two:r.2.length≤2
  jmp: ∀x∈r.2,D8 x=false
  ok:(∀x∈s,vP x=true)→∀x∈r.2,vP x=true
structure Fo(a out:An)(k:Nat):Prop where
  le:k≤out.code.length
  eq:w8 out=w8 a
  ok:AOk out
  no: ∀j,j<k→(w4 out j).1=0
structure Gn(a out:An):Prop where
  eq:w8 out=w8 a
  ok:AOk out
structure Cs where
  code:List In
  pts:List Pt
  fr:List Int
  to:List Int
mutual
/-- Each element has a place of its own, and behind it the statements that it dD. -/
def Tr.cok(n:Nat):Tr→Prop
  | .node s a ks=>(0≤a∧a<n)∧(s.sum.term=true∧s.index.term=true)∧(bi s=true∧(ks.length:Int)=bl s.kind)∧Trs.cok n ks
def Trs.cok(n:Nat):List Tr→Prop
  | []=>True
  | t::r=>t.cok n∧Trs.cok n r
end
mutual
def Tr.nodes:Tr→Nat
  | .node _ _ ks=>1+Trs.nodes ks
def Trs.nodes:List Tr→Nat
  | []=>0
  | t::r=>t.nodes+Trs.nodes r
end
structure CsLe(m:Nat)(c d:Cs):Prop where
  code:d.code.length≤c.code.length+30*m
  pts:d.pts.length≤c.pts.length+m
  fr:d.fr.length=c.fr.length
  to:d.to.length=c.to.length
  ge:c.code.length≤d.code.length
theorem uE{n:Nat}{f:Nat→Option (Tr×Nat)}(hf: ∀k t k',f k=some (t,k')→k<k'∧t.cok n∧t.nodes=k'-k): ∀{q k ts k'},cM f q k=some (ts,k')→Trs.cok n ts∧k≤k'∧Trs.nodes ts=k'-k
 | 0,k,ts,k',h=>by
  simp only[cM,dL,Prod.mk.injEq]at h
  obtain⟨rfl,rfl⟩:=h
  exact⟨trivial,cQ _,by simp[Trs.nodes]⟩
 | q + 1,k,ts,k',h=>by
  unfold cM at h
  cases hx:f k with
  | none=>rw[hx]at h;cases h
  | some x=>
   obtain⟨t,k1⟩:=x
   rw[hx]at h
   simp only[Option.map_eq_some_iff]at h
   obtain⟨⟨ts1,k2⟩,h1,h2⟩:=h
   simp only[Prod.mk.injEq]at h2
   obtain⟨rfl,rfl⟩:=h2
   have h3:=hf k t k1 hx
   have h4:=uE hf h1
   exact⟨⟨h3.2.1,h4.1⟩,by omega,by simp only[Trs.nodes];omega⟩
theorem ui{body:List Sm}: ∀{m k:Nat} {t:Tr} {k':Nat},cH m body k=some (t,k')→k<k'∧t.cok body.length∧t.nodes=k'-k
 | 0,_,_,_,h=>by cases h
 | m + 1,k,t,k',h=>by
  have hlt:=hZ h
  unfold cH at h
  split at h
  cases h
  split at h
  cases h
  rename_i h1 h2
  simp only[Option.map_eq_some_iff]at h
  obtain⟨⟨ts,k2⟩,h3,h4⟩:=h
  simp only[Prod.mk.injEq]at h4
  obtain⟨rfl,rfl⟩:=h4
  have h5:=uE (fun k t k' h=>ui h) h3
  have h8:=(m6 (fun k t k' h=>mU h) h3).1
  have hs:bi (body.getD k default)=true:=by
   cases hb:bi (body.getD k default)with
   | true=>rfl
   | false=>unfold ch at h2;rw[hb]at h2;exact absurd (by rw[if_neg (by decide)];decide) h2
  refine⟨by omega,⟨by omega,cV hs,⟨hs,?_⟩,h5.1⟩,by simp only[Tr.nodes];omega⟩
  rw[h8]
  unfold ch
  rw[if_pos hs]
  have:=(cN (body.getD k default).kind).1
  omega
structure Pth where
  frm:Int
  to:Int
  facts:List Tm
  ends:List Tm
  ev:List Int
abbrev Pth.cells(p:Pth):List D:=[.int .i64 p.frm,.int .i64 p.to,fd p.facts,fd p.ends,cK p.ev]
structure Pw where
  vars:List Tm
  facts:List Tm
  ev:List Int
  sym:Nat
structure Gs where
  paths:List Pth
  conds:List Sq
  bad:Bool
inductive Fr where
  | st (t:Tr)
  | lp (k:Nat)
structure Pe where
  post:List Tm
  lf:Nat→List Tm
  num:Int→Nat
def aG(t:Tm)(vs:List Tm):Tm×Bool:=lY (t.c+bm Tm.c vs t.xs) (bE vs t.xs)
def iC(k:Nat):Tm:=⟨0,List.replicate k 0++[1]⟩
def Gs.flag(b:Bool)(g:Gs):Gs:=⟨g.paths,g.conds,g.bad||b⟩
def Gs.goal(w:Pw)(t:Tm)(g:Gs):Gs:=⟨g.paths,g.conds++[⟨w.facts,t⟩],g.bad⟩
def Pw.fact(t:Tm)(w:Pw):Pw:=⟨w.vars,w.facts++[t],w.ev,w.sym⟩
def Pw.set(i:Nat)(t:Tm)(w:Pw):Pw:=⟨w.vars.set i t,w.facts,w.ev,w.sym⟩
def Pw.long(w:Pw):Bool:=decide (12<w.facts.length)
def aU(w:Pw)(t:Tm)(g:Gs):Gs:=g.flag (!(aG t w.vars).2)
def bn(w:Pw)(g:Gs)(t:Tm):Gs:=(aU w t g).goal w (aG t w.vars).1
def ju(frm:Int)(w:Pw)(to:Int)(g:Gs):Gs:=⟨g.paths++[⟨frm,to,w.facts,w.vars,w.ev⟩],g.conds,g.bad||decide (200<g.paths.length+1)⟩
def dy(frm:Int)(w:Pw)(to:Int)(facts:List Tm)(g:Gs):Gs:=ju frm w to (facts.foldl (bn w) g)
abbrev dv:=Tm→Tm×Bool
def kG(la:dv)(w:Pw)(t:Tm)(g:Gs):Gs:=((g.goal w t).flag (!(la t).2)).goal w (la t).1
def ce(la:dv)(w:Pw)(t:Tm)(g:Gs):Gs:=kG la w (aG t w.vars).1 (aU w t g)
def nR(i:Nat)(w:Pw):Pw:=⟨w.vars.set i (iC w.sym),w.facts,w.ev,w.sym+1⟩
def bN(la:dv)(s:Sm)(w:Pw)(g:Gs):Pw×Gs:=
  if s.kind=2 then(w.set s.var.toNat (aG s.sum w.vars).1,aU w s.sum g)
  else if s.kind=3 then if w.sym=10 then(w.set s.var.toNat ⟨0,[]⟩,(ce la w s.index g).flag true)else(nR s.var.toNat w,ce la w s.index g)
  else if s.kind=4 then(w,ce la w s.index g)
  else if s.kind=5 then(⟨w.vars,w.facts,w.ev++[s.event],w.sym⟩,g)
  else if s.kind=6 then(w.fact (aG s.sum w.vars).1,((aU w s.sum g).goal w (aG s.sum w.vars).1).flag (w.fact (aG s.sum w.vars).1).long)
  else(w,g)
def dC(yes no:Pw→Gs→Gs)(w:Pw)(t:Tm)(g:Gs):Gs:=no (w.fact (aL t).1) (yes (w.fact t) ((g.flag (!(aL t).2)).flag (w.fact t).long))
def eM (la:dv)(E:Pe)(frm:Int):Nat→List Fr→Pw→Gs→Gs
  | 0,_,_,g=>g
  | n + 1,r,w,g=>if g.bad=true then g else match r with
    | []=>dy frm w (-1) E.post g
    | .lp k::_=>dy frm w k (E.lf k) g
    | .st (.node s a [x,y])::r=>if s.kind=1 then eM la E frm n (.st x:: .st y::r) w g
        else dC (eM la E frm n (.st x::r)) (eM la E frm n (.st y::r)) w (aG s.sum w.vars).1 (aU w s.sum g)
    | .st (.node s a [x])::r=>dy frm w (E.num a) s.facts g
    | .st (.node s a _)::r=>eM la E frm n r (bN la s w g).1 (bN la s w g).2
theorem cT{la:dv}{E:Pe}{frm:Int}{n:Nat}{r:List Fr}{w:Pw}{g:Gs}(h:g.bad=true):eM la E frm n r w g=g:=by
 cases n with
 | zero=>rfl
 | succ n=>unfold eM;rw[if_pos h]
theorem f5{la:dv}{E:Pe}{frm:Int}{n:Nat}{w:Pw}{g:Gs}(h:g.bad=false):eM la E frm (n+1) [] w g=dy frm w (-1) E.post g:=by
 rw[eM,if_neg (by rw[h];decide)]
theorem i8{la:dv}{E:Pe}{frm:Int}{n k:Nat}{r:List Fr}{w:Pw}{g:Gs}(h:g.bad=false):eM la E frm (n+1) (.lp k::r) w g=dy frm w k (E.lf k) g:=by
 rw[eM,if_neg (by rw[h];decide)]
theorem f3{la:dv}{E:Pe}{frm:Int}{n:Nat}{r:List Fr}{w:Pw}{g:Gs}{s:Sm}{a:Int}{x y:Tr}(h:g.bad=false)(hk:s.kind=1):eM la E frm (n+1) (.st (.node s a [x,y])::r) w g=eM la E frm n (.st x:: .st y::r) w g:=by
 rw[eM,if_neg (by rw[h];decide)];exact if_pos hk
theorem i9{la:dv}{E:Pe}{frm:Int}{n:Nat}{r:List Fr}{w:Pw}{g:Gs}{s:Sm}{a:Int}{x y:Tr}(h:g.bad=false)(hk: ¬s.kind=1):eM la E frm (n+1) (.st (.node s a [x,y])::r) w g=dC (eM la E frm n (.st x::r)) (eM la E frm n (.st y::r)) w (aG s.sum w.vars).1 (aU w s.sum g):=by
 rw[eM,if_neg (by rw[h];decide)];exact if_neg hk
theorem i7{la:dv}{E:Pe}{frm:Int}{n:Nat}{r:List Fr}{w:Pw}{g:Gs}{s:Sm}{a:Int}{x:Tr}(h:g.bad=false):eM la E frm (n+1) (.st (.node s a [x])::r) w g=dy frm w (E.num a) s.facts g:=by
 rw[eM,if_neg (by rw[h];decide)]
theorem e9{la:dv}{E:Pe}{frm:Int}{n:Nat}{r:List Fr}{w:Pw}{g:Gs}{s:Sm}{a:Int}(h:g.bad=false):eM la E frm (n+1) (.st (.node s a [])::r) w g=eM la E frm n r (bN la s w g).1 (bN la s w g).2:=by
 rw[eM,if_neg (by rw[h];decide)]<;>simp
theorem jD{la:dv}{E:Pe}{frm:Int}{n:Nat}{r:List Fr}{w:Pw}{g:Gs}{s:Sm}{a:Int}{x y z:Tr}{ks:List Tr}(h:g.bad=false):eM la E frm (n+1) (.st (.node s a (x::y::z::ks))::r) w g=eM la E frm n r (bN la s w g).1 (bN la s w g).2:=by
 rw[eM,if_neg (by rw[h];decide)]<;>simp
structure GEq(g h:Gs):Prop where
  bad:g.bad=h.bad
  eq:g.bad=false→g=h
theorem GEq.refl{g:Gs}:GEq g g:=⟨rfl,fun _=>rfl⟩
theorem GEq.of{g h:Gs}(hb:g.bad=true)(hc:h.bad=true):GEq g h:=⟨by rw[hb,hc],fun e=>by rw[hb]at e;cases e⟩
theorem GEq.cases{g h:Gs}(e:GEq g h):g=h∨(g.bad=true∧h.bad=true):=by
 cases hb:g.bad with
 | false=>exact .inl (e.eq hb)
 | true=>exact .inr ⟨Z,by rw[←e.bad,hb]⟩
theorem GEq.flag{g h:Gs}(e:GEq g h){b:Bool}:GEq (g.flag b) (h.flag b):=by
 rcases e.cases with rfl|⟨h1,h2⟩
 exact .refl
 exact .of (by simp[Gs.flag,h1]) (by simp[Gs.flag,h2])
theorem GEq.goal{g h:Gs}(e:GEq g h){w:Pw}{t:Tm}:GEq (g.goal w t) (h.goal w t):=by
 rcases e.cases with rfl|⟨h1,h2⟩
 exact .refl
 exact .of h1 h2
theorem qr{w:Pw}: ∀{fs:List Tm} {g:Gs},g.bad=true→(fs.foldl (bn w) g).bad=true
 | [],g,h=>h
 | t::fs,g,h=>qr (fs:=fs) (g:=bn w g t) (by simp[bn,aU,Gs.goal,Gs.flag,h])
theorem CP{frm:Int}{w:Pw}{to:Int}{fs:List Tm}{g:Gs}(h:g.bad=true):(dy frm w to fs g).bad=true:=by simp[dy,ju,qr h]
structure LaEq(la lb:dv):Prop where
  two: ∀t,t.ok=true→(la t).2=(lb t).2
  one: ∀t,t.ok=true→(la t).2=true→(la t).1=(lb t).1
theorem eU{t:Tm}{vs:List Tm}:(aG t vs).1.ok=true:=by
 unfold aG lY;split
 assumption
 rfl
theorem tA{la lb:dv}(hl:LaEq la lb){w:Pw}{t:Tm}{g h:Gs}(e:GEq g h):GEq (ce la w t g) (ce lb w t h):=by
 have h2:=hl.two _ (eU (t:=t) (vs:=w.vars))
 have h1:=hl.one _ (eU (t:=t) (vs:=w.vars))
 unfold ce kG
 cases hb:(la (aG t w.vars).1).2 with
 | true=>
  rw[←h2,h1 hb,hb]
  exact(GEq.flag (GEq.goal (GEq.flag e))).goal
 | false=>
  rw[←h2,hb]
  exact .of (by simp[Gs.goal,Gs.flag]) (by simp[Gs.goal,Gs.flag])
theorem pr{la lb:dv}(hl:LaEq la lb){s:Sm}{w:Pw}{g h:Gs}(e:GEq g h):(bN la s w g).1=(bN lb s w h).1∧GEq (bN la s w g).2 (bN lb s w h).2:=by
 unfold bN
 split
 exact⟨Z,e.flag⟩
 split
 split
 exact⟨Z,(tA hl e).flag⟩
 exact⟨Z,tA hl e⟩
 split
 exact⟨Z,tA hl e⟩
 split
 exact⟨Z,e⟩
 split
 exact⟨Z,e.flag.goal.flag⟩
 exact⟨Z,e⟩
theorem kI{la lb:dv}(hl:LaEq la lb){E:Pe}{frm:Int}: ∀{n:Nat} {r:List Fr} {w:Pw} {g h:Gs},GEq g h→GEq (eM la E frm n r w g) (eM lb E frm n r w h)
 | 0,r,w,g,h,e=>e
 | n + 1,r,w,g,h,e=>by
  rcases e.cases with rfl|⟨h1,h2⟩
  cases hb:g.bad with
  | true=>rw[cT hb,cT hb];exact .refl
  | false=>
   match r with
   | []=>rw[f5 hb,f5 hb];exact .refl
   | .lp k::r=>rw[i8 hb,i8 hb];exact .refl
   | .st (.node s a [])::r=>
    rw[e9 hb,e9 hb,(pr hl (s:=s) (w:=w) e).1]
    exact kI hl (pr hl e).2
   | .st (.node s a [x])::r=>rw[i7 hb,i7 hb];exact .refl
   | .st (.node s a [x,y])::r=>
    by_cases hk:s.kind=1
    rw[f3 hb hk,f3 hb hk];exact kI hl .refl
    rw[i9 hb hk,i9 hb hk]
    exact kI hl (kI hl .refl)
   | .st (.node s a (x::y::z::ks))::r=>
    rw[jD hb,jD hb,(pr hl (s:=s) (w:=w) e).1]
    exact kI hl (pr hl e).2
  rw[cT h1,cT h2];exact .of h1 h2
def Fr.nodes:Fr→Nat
  | .st t=>t.nodes
  | .lp _=>0
def aF:List Fr→Nat
  | []=>0
  | f::r=>f.nodes+aF r
structure WOk(m:Nat)(w:Pw):Prop where
  vars:w.vars.length=4
  ok: ∀t∈w.vars,t.ok=true
  facts:w.facts.length+m≤64
  ev:w.ev.length+m≤64
  sym:w.sym≤10
theorem WOk.le{m k:Nat}{w:Pw}(h:WOk m w)(hk:k≤m):WOk k w:=⟨h.vars,h.ok,by have:=h.facts;omega,by have:=h.ev;omega,h.sym⟩
theorem z3{k:Nat}(h:k<10):(iC k).ok=true:=by
 have: ∀k:Fin 10,(iC k).ok=true:=by decide
 exact this ⟨k,h⟩
theorem sP{xs:List Tm}{i:Nat}{t:Tm}(h: ∀t∈xs,t.ok=true)(ht:t.ok=true): ∀u∈xs.set i t,u.ok=true:=fun u hu=>by
 rcases List.mem_or_eq_of_mem_set hu with h1|h1
 exact h u h1
 rw[h1];exact ht
theorem WOk.set{m:Nat}{w:Pw}(h:WOk m w){i:Nat}{t:Tm}(ht:t.ok=true):WOk m (w.set i t):=⟨by simp[Pw.set,h.vars],sP h.ok ht,h.facts,h.ev,h.sym⟩
theorem WOk.fact{m:Nat}{w:Pw}(h:WOk (m+1) w){t:Tm}:WOk m (w.fact t):=⟨h.vars,h.ok,by have:=h.facts;simp only[Pw.fact,cp,du];omega,by have:=h.ev;simp only[Pw.fact];omega,h.sym⟩
theorem WOk.leaf{m:Nat}{w:Pw}(h:WOk (m+1) w){la:dv}{s:Sm}{g:Gs}:WOk m (bN la s w g).1:=by
 have h0:=h.le (Nat.le_succ m)
 unfold bN
 split
 exact h0.set eU
 split
 split
 exact h0.set (by decide)
 have:=h.sym
 exact⟨by simp[nR,h.vars],sP h.ok (z3 (by omega)),h0.facts,h0.ev,by simp only[nR];omega⟩
 split
 exact h0
 split
 exact⟨h.vars,h.ok,h0.facts,by have:=h.ev;simp only[cp,du];omega,h.sym⟩
 split
 exact h.fact
 exact h0
structure GOk(n:Nat)(g:Gs):Prop where
  paths:g.paths.length≤201
  good:g.bad=false→g.paths.length≤200
  conds:g.conds.length≤n
theorem GOk.le{m n:Nat}{g:Gs}(h:GOk m g)(hm:m≤n):GOk n g:=⟨h.paths,h.good,Nat.le_trans h.conds hm⟩
theorem GOk.flag{n:Nat}{g:Gs}(h:GOk n g){b:Bool}:GOk n (g.flag b):=⟨h.paths,fun e=>h.good (by simp[Gs.flag]at e;exact e.1),h.conds⟩
theorem GOk.goal{n:Nat}{g:Gs}(h:GOk n g){w:Pw}{t:Tm}:GOk (n+1) (g.goal w t):=⟨h.paths,h.good,by have:=h.conds;simp only[Gs.goal,cp,du];omega⟩
theorem xK{w:Pw}: ∀{fs:List Tm} {n:Nat} {g:Gs},GOk n g→GOk (n+fs.length) (fs.foldl (bn w) g)
 | [],n,g,h=>h
 | t::fs,n,g,h=>by
  have:=xK (fs:=fs) (w:=w) (h.flag.goal:GOk (n+1) (bn w g t))
  exact this.le (by simp only[dW];omega)
theorem il{w:Pw}: ∀{fs:List Tm} {g:Gs},(fs.foldl (bn w) g).paths=g.paths
 | [],g=>rfl
 | t::fs,g=>il (fs:=fs) (g:=bn w g t)
theorem EM{frm:Int}{w:Pw}{to:Int}{fs:List Tm}{n:Nat}{g:Gs}(h:GOk n g)(hb:g.bad=false):GOk (n+fs.length) (dy frm w to fs g):=by
 have h1:=xK (fs:=fs) (w:=w) h
 have h2:=h.good hb
 have h3:=congrArg List.length (il (fs:=fs) (w:=w) (g:=g))
 refine⟨?_,fun e=>?_,h1.conds⟩
 simp only[dy,ju,cp,du];omega
 simp only[dy,ju,Bool.or_eq_false_iff,decide_eq_false_iff_not]at e
 simp only[dy,ju,cp,du];omega
theorem tz{la:dv}{w:Pw}{t:Tm}{n:Nat}{g:Gs}(h:GOk n g):GOk (n+2) (ce la w t g):=h.flag.goal.flag.goal
theorem tk{la:dv}{s:Sm}{w:Pw}{n:Nat}{g:Gs}(h:GOk n g):GOk (n+2) (bN la s w g).2:=by
 unfold bN
 split
 exact h.flag.le (by omega)
 split
 split
 exact(tz h).flag
 exact tz h
 split
 exact tz h
 split
 exact h.le (by omega)
 split
 exact h.flag.goal.flag.le (by omega)
 exact h.le (by omega)
def rn(m:Nat):Nat:=8*(2^(m/2)*(m+1))
theorem cC{m n:Nat}(h:m≤n):rn m≤rn n:=by
 unfold rn
 exact Nat.mul_le_mul_left _ (Nat.mul_le_mul (Nat.pow_le_pow_right (by decide) (Nat.div_le_div_right h)) (by omega))
theorem qE{m:Nat}:rn m+2≤rn (m+1):=by
 unfold rn
 have h1:2^(m/2)≤2^((m+1)/2):=Nat.pow_le_pow_right (by decide) (by omega)
 have h2:1≤2^((m+1)/2):=Nat.one_le_two_pow
 have h3:2^(m/2)*(m+1)≤2^((m+1)/2)*(m+1):=Nat.mul_le_mul_right _ h1
 rw[show(2:Nat)^((m+1)/2)*(m+1+1)=2^((m+1)/2)*(m+1)+2^((m+1)/2)from Nat.mul_succ _ _]
 omega
theorem tC{m:Nat}:rn m+rn m≤rn (m+2):=by
 unfold rn
 rw[show(m+2)/2=m/2+1 by omega,Nat.pow_succ]
 have h3:2^(m/2)*(m+1)≤2^(m/2)*(m+2+1):=Nat.mul_le_mul_left _ (by omega)
 rw[show 2^(m/2)*2*(m+2+1)=2*(2^(m/2)*(m+2+1)) by rw[Nat.mul_right_comm,Nat.mul_comm]]
 omega
theorem sY:rn 30=8126464:=by decide
theorem v9{m:Nat}:8≤rn m:=by
 have:=cC (cG m)
 exact Nat.le_trans (by decide) this
def pM(t:Tm):Tm×Bool:=if t.ok=true then(t,true)else(⟨0,[]⟩,false)
theorem kV{f:Tm→Int}: ∀{ts:List Tm} {ms:List Int},bm f (ts.take ms.length) ms=bm f ts ms
 | [],ms=>by simp
 | t::ts,[]=>by simp[bm]
 | t::ts,m::ms=>by simp only[dW,List.take_succ_cons,bm];rw[kV]
theorem AS{t:Tm}{vs:List Tm}:pM (gV (⟨t.c,[]⟩::vs.take t.xs.length) (1::t.xs))=aG t vs:=by
 have h1:bm Tm.c (⟨t.c,[]⟩::vs.take t.xs.length) (1::t.xs)=t.c+bm Tm.c vs t.xs:=by rw[bm,kV,Int.one_mul]
 have h2:bE (⟨t.c,[]⟩::vs.take t.xs.length) (1::t.xs)=bE vs t.xs:=by
  unfold bE
  apply List.map_congr_left
  intro k _
  rw[bm,kV]
  simp[jU]
 rw[gV,h1,h2];rfl
theorem AR{t:Tm}{vs:List Tm}:lY (t.c+bm Tm.c (vs.take t.xs.length) (t.xs.take t.xs.length)) (bE (vs.take t.xs.length) (t.xs.take t.xs.length))=aG t vs:=by
 have h2:bE (vs.take t.xs.length) t.xs=bE vs t.xs:=by
  unfold bE
  apply List.map_congr_left
  intro k _
  rw[kV]
 rw[List.take_length,kV,h2];rfl
theorem ES{t:Tm}(h:t.ok=true):(Tm.mk t.c []).ok=true:=by
 have:=(Small.of h).c
 simp[Tm.ok,this]
theorem wb{vs:List Tm}{n:Int}(h:fA vs n=true):(∀t∈vs,t.ok=true)∧(vs.length:Int)≤n:=by
 unfold fA at h
 simpa using h
theorem Cp{t:Tm}{vs:List Tm}{n:Nat}(ht:t.ok=true)(hv:fA vs 10=true):CtxOk (⟨t.c,[]⟩::vs.take n):=by
 have h1:=wb hv
 refine⟨fun u hu=>?_,by simp;omega⟩
 rcases List.mem_cons.1 hu with rfl|h
 exact ES ht
 exact h1.1 u (List.mem_of_mem_take h)
theorem Cz{t:Tm}:aL t=pM (dP t):=vK
theorem Ii:MQ h1 h2 158 [cR t] [] (Plain (iG (pM t))):=by
 refine MC.data (jB 10 h1 h2 Tryz.func158 Z fun O hF=>?_)
 refine ac (jx Z (jl Z (js Z (jn (ae (ac (js Z (lo Z (mF (t:=t) h1 h2) 6000 Z (js Z (jn (zc Z (fun z6=>?_) (fun z6=>?_))))))))))))
 refine ac (js Z (jo Z (js Z (jr ?_))))
 refine eR Z ?_
 have hok:t.ok=false:=by simpa using z6
 rw[show pM t=(⟨0,[]⟩,false)from if_neg (by rw[hok];decide)]
 exact .tup (.cons (.agg (.cons .d (.cons .nils .nil))) (.cons (.c .d) .nil))
 refine af (ac (js Z (aj O Z Z Z Z (B5 (t:=t) h1 h2) (ab Z) Z Z Z Z (B0:=10000) Z Z (jo Z (js Z (jr ?_))))))
 refine eR Z ?_
 have hok:t.ok=true:=by simpa using z6
 rw[show pM t=(t,true)from if_pos hok]
 exact .tup (.cons (.agg (ax Z)) (.cons (.c .d) .nil))
theorem DG(ht:t.ok=true):MQ h1 h2 120 [cR t] [] (Plain (iG (aL t))):=by
 refine MC.data (jB 13 h1 h2 Tryz.func120 Z fun O hF=>?_)
 refine ac (jx Z (jl Z (js Z (jn (ae (ac (js Z (lo Z (mF (t:=t) h1 h2) 6000 Z (js Z (jn (zc Z (fun z6=>?_) (fun z6=>?_))))))))))))
 exact absurd z6 (by rw[ht];decide)
 refine af (ac (js Z (aj O Z Z Z Z (zt (t:=t) h1 h2 ht) (ab Z) Z Z Z Z (B0:=10000) Z Z (aj O Z Z Z Z (Ii (t:=dP t) h1 h2) (ab Z) Z Z Z Z (B0:=11000) Z Z (jb Z (jo Z (js Z (jr ?_))))))))
 refine eR Z ?_
 rw[Cz]
 exact .tup (.cons (.agg (ax Z)) (.cons (.c .d) .nil))
theorem ph{k:Nat}:(List.replicate (k+1) [D.int .i64 0])[0+k]? = some [D.int .i64 0]:=by simp
theorem pg{k:Nat}:(List.replicate (k+1) [D.int .i64 0]).set (0+k) [D.int .i64 1]=((List.replicate k 0++[1]:List Int)).map fun n=>[D.int .i64 n]:=by
 rw[List.replicate_succ',Nat.zero_add,List.set_append_right _ _ (by simp)];simp
theorem DI(hk:k<10):MQ h1 h2 111 [eI k] [] (Plain (cR (iC k))):=by
 refine MC.data (jB 13 h1 h2 Tryz.func111 Z fun O hF=>?_)
 refine ac (jl Z (am ?_))
 refine aN (js Z (ji Z (hp (f6 O Z Z Z Z Z Z Z Z Z (by first|omega|(simp at *;omega)) (by first|omega|(simp at *;omega)) (by first|omega|(simp at *;omega)) (by first|omega|(dsimp only;omega)|(simp only[bo]at *;omega)) (by first|omega|(simp at *;omega)) Z Z Z) Z (am ?_))))
 refine js Z (jl Z (am ?_))
 refine jo Z (am ?_)
 refine aN (jc Z (db Z Z (hp (bL (ex:=[.int .i64 0]) (xs':=((List.replicate k 0++[1]:List Int)).map (fun n=>[D.int .i64 n])) O Z Z Z Z Z Z Z Z Z Z Z Z Z Z ph pg) Z (am ?_))))
 refine aN (js Z (jo Z (am ?_)))
 refine jr ?_
 refine eR Z ?_
 exact .v (.agg (.cons .d (.cons (.whole Z (by simp[iC])) .nil)))
theorem Io{vs:List Tm}(hc:CtxOk vs)(hm:t.xs.all num=true)(hn:num t.c=true)(hle:t.xs.length≤vs.length):MQ h1 h2 161 [ptr t.cells,bM vs] [] (Plain (iG (aG t vs))):=by
 refine MC.data (jB 93 h1 h2 Tryz.func161 Z fun O hF=>?_)
 have hlc:=hc.len
 have hnc:=IZ.1 hn
 have hl:t.xs.length≤L:=by simpa[As.fact,A.fact,M.fact,D.fact,Ds.fact]using hF.1.2.1.1
 refine ac (jl Z (js Z (aN (jd Z (js Z (aN (hp (f6 O Z Z Z Z Z Z Z Z Z (by first|omega|(simp at *;omega)) (by first|omega|(simp at *;omega)) (by first|omega|(simp at *;omega)) (by first|omega|(dsimp only;omega)|(simp only[bo]at *;omega)) (by first|omega|(simp at *;omega)) Z Z Z) Z (js Z (jn (ae (ac (js Z (jn (ak (ap (X:=Nat) (fun i=>⟨[(0,ptr t.cells),(1,bM vs),(4,.c (.pt 4 0 0)),(6,eI (t.c+bm Tm.c (vs.take i) (t.xs.take i))),(7,.c (.rs 14 0 10)),(8,eI i)],[(4,.box [.d (.int .i64 0),.d .nils]),(14,aE (bE (vs.take i) (t.xs.take i)))]⟩) (fun i=>i≤t.xs.length) (fun i=>t.xs.length-i) 0 (Ent.to ⟨Z,Z,Z,by show some (eI t.c)=_;simp[bm],Z,Z,tv⟩ Z) ?_ (fun i hi=>?_))))))))))))))))
 exact cG _
 refine ae (ac (jd Z (js Z (cW Z (js Z (jn (zc Z (fun z21=>?_) (fun z21=>?_))))))))
 try simp only[bo]at z21
 refine af (ae (ak (ae (ac (jb Z (cW Z (js Z (jn (zc Z (fun z27=>?_) (fun z27=>?_))))))))))
 try simp only[bo]at z27
 exact absurd z27 (by omega)
 try simp only[bo]at z27
 refine af (ae ?_)
 have hi0:=hi
 have hts:=Small.of (hc.get (show i<vs.length by omega))
 have hd1:=j1 (f:=Tm.c) (ts:=vs) (ms:=t.xs) (fun t ht=>(Small.of (hc.ok t ht)).c) hm (i:=i) (by omega) hi
 have hd2:=gL (f:=Tm.c) (ts:=vs) (ms:=t.xs) (i:=i) (by omega) (by omega)
 have hmi:num (t.xs.getD i default)=true:=by rw[aw (by omega)];exact List.all_eq_true.1 hm _ (List.getElem_mem _)
 have hmu:=ff hmi hts.c
 refine fJ [_,_,_,_,_,_,_,_,_,_,_,_,_,_,_,_] [p0,p0,pz [1],pz [1,2],pz [1,2,3],p0,pz (rg 1 5),pz (rg 1 6),p0,p0,pz [8,9],pz [8,9,10],pz (rg 8 4),pz (rg 1 12),pz (rg 0 14),pz (rg 0 15)] [] [_] (k4 Z (kc Z (kc Z (ai (vN Z) (kc Z (kc Z (kc Z (ai (vN Z) (kc Z (kc Z (ai (aS O Z Z (by omega) (by omega)) (ai (aS O Z Z (by omega) (by omega)) (kc Z trivial))))))))))))) ?_
 refine jw [6,27,21,0,1,4,7,8] Z (bJ ?_)
 refine ac (js Z (jn (ak (ap (X:=Nat) (fun j=>⟨[(0,ptr t.cells),(1,bM vs),(4,.c (.pt 4 0 0)),(6,eI (t.c+bm Tm.c (vs.take i) (t.xs.take i)+t.xs.getD i default*(vs.getD i default).c)),(7,.c (.rs 14 0 10)),(8,eI i),(9,eI j)],[(4,.box [.d (.int .i64 0),.d .nils]),(14,aE (fv vs t.xs i j))]⟩) (fun j=>j≤(vs.getD i default).xs.length) (fun j=>(vs.getD i default).xs.length-j) 0 (((ah [4,14] (e':=[(0,_),(1,_),(4,_),(6,_),(7,_),(8,_),(9,_)]) Z Z ⟨Z,Z,Z,Z,Z,Z,Z,tv⟩ Z)).trans (Ent.to ⟨Z,Z,Z,Z,Z,Z,Z,tv⟩ (by rw[n4];rfl))) ?_ (fun j hi=>?_)))))
 exact cG _
 refine ae (ac (jc Z (jh Z Z (jb Z (cW Z (js Z (jn (zc Z (fun z63=>?_) (fun z63=>?_)))))))))
 try simp only[bo]at z63
 refine af (ae (ak ?_))
 have hjl:j<10:=by have:=pW (hc.get (show i<vs.length by omega));omega
 have hpj:=mX (ts:=vs) (ms:=t.xs) (i:=i) hjl
 have hps:=n5 (ts:=vs) (ms:=t.xs) (i:=i) hjl
 have hpl:=ea (ts:=vs) (ms:=t.xs) (i:=i) (j:=j)
 have hd3:=j1 (f:=jU j) (ts:=vs) (ms:=t.xs) (fun t ht=>(Small.of (hc.ok t ht)).get j) hm (i:=i) (by omega) (by omega)
 have hmx:=ff hmi (hts.get j)
 rw[show(vs.getD i default).xs.getD j 0=(vs.getD i default).xs.getD j default from Z]at hmx
 refine fJ [_,_,_,_,_,_,_,_,_,_,_,_,_,_,_,_,_,_,_,_,_,_,_] [p0,p0,pz [0,1],pz [0,1,2],p0,pz [4],pz [4,5],pz [4,5,6],p0,pz (rg 4 5),pz (rg 4 6),p0,p0,pz [11,12],pz [11,12,13],pz (rg 11 4),p0,pz (rg 11 6),pz (rg 11 7),pz (rg 4 15),pz (rg 0 20),pz (rg 0 21),pe (rg 0 22) 0] [22] [_,_] (kc Z (kc Z (ai (vI Z Z) (ai (bc O (ex:=[.int .i64 ((fv vs t.xs i j).getD j default)]) Z Z Z Z (vx (by omega)) Z) (k4 Z (kc Z (ai (vN Z) (kc Z (kc Z (kc Z (ai (vN Z) (kc Z (kc Z (kc Z (ai (vN Z) (kc Z (ai (aS O Z Z (by omega) (by omega)) (ai (aS O Z Z (by omega) (by omega)) (ai (vI Z Z) (ai (cE (ex:=[.int .i64 ((fv vs t.xs i j).getD j default)]) (xs':=(fv vs t.xs i (j+1)).map (fun n=>[D.int .i64 n])) O Z Z Z Z Z Z Z Z Z Z Z Z Z Z Z (vx (by omega)) (by rw[←hps,List.map_set];simp only[Int.toNat_natCast,Nat.zero_add];rfl) Z) trivial)))))))))))))))))))) ?_
 refine jw [63,0,1,4,6,7,8,9] Z (bJ ?_)
 refine ag (js Z (ji Z (js Z (jn ?_))))
 refine⟨j+1,Ent.to ⟨Z,Z,Z,Z,Z,Z,Z,tv⟩ Z,by omega,by omega⟩
 try simp only[bo]at z63
 refine aR (ag (js Z (ji Z (js Z (jn ?_)))))
 refine⟨i+1,((ah [4,14] (e':=[(0,_),(1,_),(4,_),(6,_),(7,_),(8,_)]) Z Z ⟨Z,Z,Z,Z,Z,Z,tv⟩ Z)).trans (Ent.to ⟨Z,Z,Z,by rw[hd2,←Int.add_assoc];rfl,Z,Z,tv⟩ ?_),by omega,by omega⟩
 rw[←qf (j:=j) (by omega) (by omega) (by omega)];rfl
 try simp only[bo]at z21
 refine aR (ac ?_)
 obtain rfl:i=t.xs.length:=by omega
 have hcl:=kl (ts:=vs.take t.xs.length) (ms:=t.xs.take t.xs.length)
 refine an (Ent.freeze 14 (e':=[(7,_),(6,_),(4,_)]) Z (.cons Z (.c (.row Z (by rw[bA,hcl]))) (fe [6,4] Z)) (cb Z (.skip .nil))) ?_
 refine jb Z (aj O Z Z Z Z (pO (c:=t.c+bm Tm.c (vs.take t.xs.length) (t.xs.take t.xs.length)) (xs:=bE (vs.take t.xs.length) (t.xs.take t.xs.length)) h1 h2) (ab Z) Z Z Z Z (B0:=91000) Z Z (jb Z (jo Z (js Z (jr ?_)))))
 refine eR Z ?_
 rw[←AR]
 exact .tup (.cons (.agg (ax Z)) (.cons (.c .d) .nil))
abbrev zi(ps:List Pth):D:=.slc 5 (ps.map Pth.cells)
abbrev bU(ps:List Pth):B:=.row false 5 (ps.map Pth.cells)
abbrev bV(ss:List Sq):B:=.row false 3 (ss.map Sq.cells)
abbrev gA(p fl:D)(frm:Int)(g:Gs)(i j:Nat):B:=.box [.d p,.d fl,.d (.int .i64 frm),.rs i 0 g.paths.length,.rs j 0 g.conds.length,.d (.bool g.bad)]
abbrev hB(w:Pw):B:=.box [.d (fd w.vars),.d (.int .i64 (w.sym:Int)),.d (fd w.facts),.d (cK w.ev)]
abbrev hA(w:Pw):A:=.agg [.d (fd w.vars),.d (.int .i64 (w.sym:Int)),.d (fd w.facts),.d (cK w.ev)]
abbrev fH(p fl:D)(frm:Int)(g:Gs)(w:Pw):List (Nat×B):=[(0,gA p fl frm g 1 2),(1,bU g.paths),(2,bV g.conds),(3,hB w)]
abbrev Km(p fl:D)(frm:Int)(g:Gs)(w:Pw):List (Nat×B):=[(0,gA p fl frm g 1 6),(1,bU g.paths),(3,hB w),(6,bV g.conds)]
abbrev JE(p fl:D)(frm:Int)(g:Gs)(w:Pw):List (Nat×B):=[(0,gA p fl frm g 5 6),(3,hB w),(5,bU g.paths),(6,bV g.conds)]
theorem Gx{a b:Bool}:(bif a then true else b)=(a||b):=by cases a<;>rfl
variable{frm:Int}{g:Gs}{w:Pw}
theorem rF{p fl:D}{ds:List D}{j:Nat}(hd:(ds.drop j).take (Tm.cells t).length=Tm.cells t)(hw:CtxOk w.vars)(ht:t.ok=true)(hle:t.xs.length≤w.vars.length):MQ h1 h2 127 [.c (.pt 0 0 0),.c (.pt 3 0 0),.c (.d (.ptr ds j))] (fH p fl frm g w) (aO (cR (aG t w.vars).1) (fH p fl frm (aU w t g) w)):=by
 refine MC.shift 500 Z (MC.keep [500,501,502,503] (bs:=[gA p fl frm (aU w t g) 501 502,bU g.paths,bV g.conds,hB w]) Z Z (jH 30 [500,501,502,503] h1 h2 Tryz.func127 Z fun O hF=>?_))
 refine bJ ?_
 refine ac (jl Z (am ?_))
 refine aN (jd Z (js Z (aj O Z Z Z Z (Io (t:=t) (vs:=w.vars) h1 h2 hw (Small.of ht).xs (Small.of ht).c hle) (.cons (.c (.sub hd)) (ab Z)) Z Z Z Z (B0:=16000) Z Z (jc Z (jl Z (am ?_))))))
 refine jo Z (am ?_)
 refine js Z (aN (jd Z (jb Z (ar 2 Z Z Z (fun hx=>nz hx Z (nz hx Z (AN.nil))) Z Z (st ((ay O Z Z Z Z Z).cast (v':=eB (g.bad|| !(aG t w.vars).2)) (congrArg eB Gx)) Z (jb Z (jo Z (am ?_))))))))
 refine aN (js Z (jo Z (am ?_)))
 refine jr ?_
 refine⟨.inl Z,_,bK,_,Z,Z,Z⟩
theorem xh{p fl:D}(hg:g.conds.length+1≤L):MQ h1 h2 129 [.c (.pt 0 0 0),.c (.pt 3 0 0),cR t] (fH p fl frm g w) (aO (.tup []) (Km p fl frm (g.goal w t) w)):=by
 refine MC.shift 500 Z (MC.keep [500,501,503,506] (bs:=[gA p fl frm (g.goal w t) 501 506,bU g.paths,hB w,bV (g.goal w t).conds]) Z Z (jH 22 [500,501,502,503] h1 h2 Tryz.func129 Z fun O hF=>?_))
 refine bJ ?_
 refine ac (jx Z (am ?_))
 refine an (Ent.freeze 5 (e':=[(5,_),(0,_),(1,_)]) Z (.cons Z (.c (.box (cs:=Tm.cells t) Z (ax Z))) (fe [0,1] Z)) (.skip (cb Z (cw Z (cw Z (cb Z .nil)))))) ?_
 refine am ?_
 refine jn (rk [_,_,_,_,_,_,_,_,_,_,_,_,_,_,_,_,_] [pn [] 0 3,pn [] 0 2,pn [1] 0 2,pn [1,2] 0 2,pn [1,2,3] 0 2,p0,pz [5],pz [5,6],pz [5,6,7],pe [5,6,7,8] 0,pe [5,6,7,8,9] 1,pn [5,6,7,8,9,10] 2 2,pn [5,6,7,8,9,10,11] 2 2,pe [1,2,3,4,5,6,7,8,9,10,11,12] 2,pn [0,1,2,3,4,5,6,7,8,9,10,11,12,13] 3 3,pn [0,1,2,3,4,5,6,7,8,9,10,11,12,13,14] 3 3,pe [0,1,2,3,4,5,6,7,8,9,10,11,12,13,14,15] 3] [9,10,13,16] 12 18 (.row false 3 [Sq.cells (⟨w.facts,t⟩:Sq)]) [_,_,_] [_,_] [[],[],[502],[]] (ai (kf Z Z Z (kf Z Z Z (kf Z Z Z (kg Z Z Z)))) (ai (kf Z Z Z (kf Z Z Z (kg Z Z Z))) (ai (kf Z Z Z (kf Z Z Z (kg Z Z Z))) (ai (kf Z Z Z (kf Z Z Z (kg Z Z Z))) (ai (kf Z Z Z (kf Z Z Z (kg Z Z Z))) (kf Z Z Z (kf Z Z Z (kf Z Z Z (kf Z Z Z (ai (ai (au (bB O (B0:=16000) Z Z Z Z (C9 (ts:=w.facts) h1 h2) (ab Z) Z Z Z Z Z) (bB O (B0:=16000) Z Z Z Z (C9 (ts:=w.facts) h1 h2) (ab Z) Z Z Z Z Z)) Z) (ai (ai (au (bB O (B0:=17000) Z Z Z Z (Ef (t:=t) h1 h2) (ab Z) Z Z Z Z Z) (bB O (B0:=17000) Z Z Z Z (Ef (t:=t) h1 h2) (ab Z) Z Z Z Z Z)) Z) (kf Z Z Z (ai (ai (cD O Z Z Z Z Z Z Z Z Z Z Z Z Z Z) Z) (ai (ai (au trivial (bW (own:=false) (xs:=g.conds.map Sq.cells) (ys:=[Sq.cells (⟨w.facts,t⟩:Sq)]) (zs:=((g.conds++[(⟨w.facts,t⟩:Sq)])).map Sq.cells) (n:=(g.conds++[(⟨w.facts,t⟩:Sq)]).length) O Z Z Z Z Z Z Z Z Z Z Z Z Z Z Z Z (.row Z (bA _).symm) (.whole Z Z (.inr ⟨Z,Z⟩)) (by simp) Z (by simp;omega) (by simp;omega) (by simp) (by simp) Z)) Z) (ai (ai (au trivial (V Z)) Z) (ai (ai (au trivial (V Z)) Z) (ai (ai (au trivial (az (eS Z Z Z))) Z) trivial))))))))))))))))) ?_)
 show _∧_
 refine⟨.inr Z,_,aa 19 506 Z Z,_,Z,Z,Z⟩
theorem t7{p fl:D}(hl:w.facts.length≤1000):MQ h1 h2 130 [.c (.pt 0 0 0),.c (.pt 3 0 0),cR t] (fH p fl frm g w) (aO (hA (w.fact t)) (fH p fl frm (g.flag (w.fact t).long) w)):=by
 refine MC.shift 500 Z (MC.keep [500,501,502,503] (bs:=[gA p fl frm (g.flag (w.fact t).long) 501 502,bU g.paths,bV g.conds,hB w]) Z Z (jH 34 [500,501,502,503] h1 h2 Tryz.func130 Z fun O hF=>?_))
 refine bJ ?_
 refine ac (jx Z (am ?_))
 refine an (Ent.freeze 5 (e':=[(5,_),(0,_),(1,_)]) Z (.cons Z (.c (.box (cs:=Tm.cells t) Z (ax Z))) (fe [0,1] Z)) (.skip (cb Z (cw Z (cw Z (cb Z .nil)))))) ?_
 refine am ?_
 refine jl Z (am ?_)
 refine aN (jc Z (jl Z (am ?_)))
 refine jo Z (am ?_)
 refine jn (ae (rk [_,_,_,_,_,_,_,_,_,_] [p0,pz [0],pz [0,1],pz [0,1,2],pe [0,1,2,3] 0,pn [] 0 1,pn [5] 0 1,pe [0,1,2,3,4,5,6] 1,pn [0,1,2,3,4,5,6,7] 2 2,pe [0,1,2,3,4,5,6,7,8] 2] [4,7,9] 6 17 (.row false 2 [Tm.cells t]) [_,_] [_,_] [[],[16000],[]] (kf Z Z Z (kf Z Z Z (kf Z Z Z (kf Z Z Z (ai (ai (au (az (dO O (B0:=16000) Z Z Z Z (sM (ts:=w.facts) h1 h2) (ab Z) Z Z Z Z)) (az (dO O (B0:=16000) Z Z Z Z (sM (ts:=w.facts) h1 h2) (ab Z) Z Z Z Z))) Z) (ai (kf Z Z Z (kg Z Z Z)) (ai (ai (ai (az (cD O Z Z Z Z Z Z Z Z Z Z Z Z Z Z)) Z) (ai (az (cD O Z Z Z Z Z Z Z Z Z Z Z Z Z Z)) Z)) (ai (ai (au trivial (bW (own:=false) (xs:=w.facts.map Tm.cells) (ys:=[Tm.cells t]) (zs:=((w.facts++[t])).map Tm.cells) (n:=(w.facts++[t]).length) O Z Z Z Z Z Z Z Z Z Z Z Z Z Z Z Z (.row Z (bA _).symm) (.whole Z Z (.inr ⟨Z,Z⟩)) (by simp) Z (by simp;omega) (by simp;omega) (by simp) (by simp) Z)) Z) (ai (ai (au trivial (V Z)) Z) (ai (ai (au trivial (az (eS Z Z Z))) Z) trivial)))))))))) ?_))
 refine jw [7,10,6,0,1] Z (bJ ?_)
 refine ac (an (Ent.freeze 18 (e':=[(0,_),(7,_),(6,_)]) Z (fe [0,7,6] Z) (cb Z (.cons Z (.box (ck Z (ck Z (.cons (.row Z (by simp)) (fk Z))))) (cw Z (.skip (cb Z (cw Z (cw Z (cb Z .nil))))))))) ?_)
 refine jd Z (jb Z (ar 4 Z Z Z (fun hx=>nz hx Z (nz hx Z (ny hx (bP O Z Z Z Z Z Z Z Z) Z (nz hx Z (AN.nil))))) Z Z (st ((ay O Z Z Z Z Z).cast (v':=eB (g.bad||(w.fact t).long)) (congrArg eB (by rw[Gx,Pw.long];exact congrArg (g.bad|| ·) (decide_eq_decide.2 (by simp[Pw.fact];omega))))) Z (jb Z (jo Z (am ?_))))))
 refine aN (js Z (jo Z (am ?_)))
 refine jr ?_
 refine⟨.inl Z,_,bK,_,Z,Z,Z⟩
def bp:dv:=fun t=>x9 ⟨7,[]⟩ 1 t (-1)
theorem Ep:Small (⟨7,[]⟩:Tm):=⟨by decide,by decide⟩
theorem zR{p fl:D}{ds:List D}{j:Nat}(hd:(ds.drop j).take (Tm.cells t).length=Tm.cells t)(hw:CtxOk w.vars)(ht:t.ok=true)(hle:t.xs.length≤w.vars.length)(hg:g.conds.length+2≤L):MQ h1 h2 128 [.c (.pt 0 0 0),.c (.pt 3 0 0),.c (.d (.ptr ds j))] (fH p fl frm g w) (aO (.tup []) (Km p fl frm (ce bp w t g) w)):=by
 refine MC.shift 500 Z (MC.keep [500,501,503,506] (bs:=[gA p fl frm (ce bp w t g) 501 506,bU (ce bp w t g).paths,hB w,bV (ce bp w t g).conds]) Z Z (jH 38 [500,501,502,503] h1 h2 Tryz.func128 Z fun O hF=>?_))
 refine bJ ?_
 refine ac (jc Z (jf [11,10,9,0,1] Z (ao O [500,501,502,503] (bin:=[gA p fl frm g 1 2,bU g.paths,bV g.conds,hB w]) Z Z Z Z (rF (p:=p) (fl:=fl) (frm:=frm) (g:=g) (w:=w) (t:=t) (ds:=ds) (j:=j) h1 h2 hd hw ht hle) Z Z Z Z Z Z (B0:=13000) Z Z (am ?_))))
 refine jf [12,0,1] Z (jl Z (am ?_))
 refine jo Z (am ?_)
 refine aN (jc Z (ao O [500,501,502,503] (bin:=[gA p fl frm (aU w t g) 1 2,bU (aU w t g).paths,bV (aU w t g).conds,hB w]) Z Z Z Z (xh (p:=p) (fl:=fl) (frm:=frm) (g:=(aU w t g)) (w:=w) (t:=(aG t w.vars).1) h1 h2 (by simp only[aU,Gs.flag,Gs.goal,cp,du];omega)) Z Z Z Z Z Z (B0:=17000) Z Z (am ?_)))
 refine jf [6,12,0,1] Z (aN (js Z (jx Z (am ?_))))
 refine jf [19,6,12,0,1] Z (an (Ent.freeze 19 (e':=[(19,_),(6,_),(0,_),(1,_)]) Z (.cons Z (.c (.box (cs:=Tm.cells ⟨7,[]⟩) Z (.cons .d (.cons .nils .nil)))) (fe [6,0,1] Z)) (cb Z (.skip (cb Z (cw Z (cb Z (cw Z .nil))))))) ?_)
 refine an (Ent.freeze 6 (e':=[(19,_),(6,_),(0,_),(1,_)]) Z (.cons Z (.keep Z) (.cons Z (.c (.box (cs:=Tm.cells (aG t w.vars).1) Z (ax Z))) (fe [0,1] Z))) (.skip (cb Z (cw Z (cb Z (cw Z .nil)))))) ?_
 refine aj O Z Z Z Z (GZ (a:=⟨7,[]⟩) (m:=1) (b:=(aG t w.vars).1) (n:= -1) h1 h2 Ep (Small.of eU) (by decide) (by decide)) (ab Z) Z Z Z Z (B0:=21000) Z Z (jc Z (jf [22,21,6,0,1] Z (jl Z (am ?_))))
 refine jo Z (am ?_)
 refine js Z (jf [8,7,6,0,1] Z (aN (jd Z (jb Z (jf [28,23,8,7,6,0,1] Z (ar 2 Z Z Z (fun hx=>nz hx Z (nz hx Z (AN.nil))) Z Z (st ((ay O Z Z Z Z Z).cast (v':=eB (((aU w t g).goal w (aG t w.vars).1).bad|| !(bp (aG t w.vars).1).2)) (congrArg eB Gx)) Z (jb Z (jf [33,31,7,6,0,1] Z (jo Z (am ?_)))))))))))
 refine jf [7,6,0,1] Z (jn (ag (jc Z (ao O [500,501,17006,503] (bin:=[gA p fl frm (((aU w t g).goal w (aG t w.vars).1).flag (!(bp (aG t w.vars).1).2)) 1 2,bU (((aU w t g).goal w (aG t w.vars).1).flag (!(bp (aG t w.vars).1).2)).paths,bV (((aU w t g).goal w (aG t w.vars).1).flag (!(bp (aG t w.vars).1).2)).conds,hB w]) Z Z Z Z (xh (p:=p) (fl:=fl) (frm:=frm) (g:=(((aU w t g).goal w (aG t w.vars).1).flag (!(bp (aG t w.vars).1).2))) (w:=w) (t:=(bp (aG t w.vars).1).1) h1 h2 (by simp only[aU,Gs.flag,Gs.goal,cp,du];omega)) Z Z Z Z Z Z (B0:=38000) Z Z (am ?_)))))
 refine jf [7,6,0,1] Z (jn ?_)
 show _∧_
 refine⟨.inr Z,_,aa 38006 506 Z Z,_,Z,Z,Z⟩
theorem r5{w:Pw}{g:Gs}{fs:List Tm}{i:Nat}(h:i<fs.length):(fs.take (i+1)).foldl (bn w) g=bn w ((fs.take i).foldl (bn w) g) (fs.getD i default):=by
 rw[List.take_succ_eq_append_getElem h,List.foldl_append,aw h];rfl
theorem mw{w:Pw}: ∀{fs:List Tm} {g:Gs},(fs.foldl (bn w) g).conds.length=g.conds.length+fs.length
 | [],g=>rfl
 | t::fs,g=>by
  rw[List.foldl_cons,mw]
  simp only[bn,aU,Gs.goal,Gs.flag,cp,dW,List.length_nil];omega
def TsOk(fs:List Tm):Prop:= ∀t∈fs,t.ok=true∧t.xs.length≤4
theorem TsOk.get{fs:List Tm}(h:TsOk fs){i:Nat}(hi:i<fs.length):(fs.getD i default).ok=true∧(fs.getD i default).xs.length≤4:=by rw[aw hi];exact h _ (List.getElem_mem hi)
theorem DJ{p fl:D}{to:Int}{fs:List Tm}(hw:CtxOk w.vars)(hv:w.vars.length=4)(hf:TsOk fs)(hg:g.conds.length+fs.length≤L)(hp:g.paths.length+1≤L):MQ h1 h2 126 [.c (.pt 0 0 0),.c (.pt 3 0 0),eI to,bM fs] (fH p fl frm g w) (aO (.tup []) (JE p fl frm (dy frm w to fs g) w)):=by
 refine MC.shift 500 Z (MC.keep [500,503,505,506] (bs:=[gA p fl frm (dy frm w to fs g) 505 506,hB w,bU (dy frm w to fs g).paths,bV (dy frm w to fs g).conds]) Z Z (jH 69 [500,501,502,503] h1 h2 Tryz.func126 Z fun O hF=>?_))
 refine bJ ?_
 have hpe:(fs.foldl (bn w) g).paths.length=g.paths.length:=congrArg List.length il
 refine ae (ac (js Z (jn (ak (ap (X:=Nat) (fun i=>⟨[(0,.c (.pt 500 0 0)),(1,.c (.pt 503 0 0)),(2,eI to),(3,bM fs),(8,eI i)],[(500,gA p fl frm ((fs.take i).foldl (bn w) g) 501 902),(501,bU ((fs.take i).foldl (bn w) g).paths),(503,hB w),(902,bV ((fs.take i).foldl (bn w) g).conds)]⟩) (fun i=>i≤fs.length) (fun i=>fs.length-i) 0 (((ah [500,501,503,502] (e':=[(0,_),(1,_),(2,_),(3,_),(8,_)]) Z Z ⟨Z,Z,Z,Z,Z,tv⟩ Z).trans (aa 502 902 Z Z)).trans (Ent.to ⟨Z,Z,Z,Z,Z,tv⟩ Z)) ?_ (fun i hi=>?_))))))
 exact cG _
 refine ae (ac (jb Z (cW Z (js Z (jf [12,0,1,2,3,8] Z (jn (zc Z (fun z12=>?_) (fun z12=>?_))))))))
 refine af (ae (ak (ag (jd Z (jb Z (jh Z Z (jf [21,18,17,16,15,12,0,1,2,3,8] Z ?_)))))))
 have hil:i<fs.length:=by have:=bt z12;omega
 have hfi:=hf.get hil
 have hci:=mw (w:=w) (fs:=fs.take i) (g:=g)
 rw[List.length_take,Nat.min_eq_left (by omega)]at hci
 refine ao O [500,501,902,503] (bin:=[gA p fl frm ((fs.take i).foldl (bn w) g) 1 2,bU ((fs.take i).foldl (bn w) g).paths,bV ((fs.take i).foldl (bn w) g).conds,hB w]) Z Z Z Z (rF (p:=p) (fl:=fl) (frm:=frm) (g:=((fs.take i).foldl (bn w) g)) (w:=w) (t:=(fs.getD i default)) (ds:=Tm.cells (fs.getD i default)) (j:=0) h1 h2 Z hw hfi.1 (by omega)) Z Z Z Z Z Z (B0:=23000) Z Z (am ?_)
 refine jf [22,16,15,12,0,1,2,3,8] Z (ao O [500,501,902,503] (bin:=[gA p fl frm (aU w (fs.getD i default) ((fs.take i).foldl (bn w) g)) 1 2,bU (aU w (fs.getD i default) ((fs.take i).foldl (bn w) g)).paths,bV (aU w (fs.getD i default) ((fs.take i).foldl (bn w) g)).conds,hB w]) Z Z Z Z (xh (p:=p) (fl:=fl) (frm:=frm) (g:=aU w (fs.getD i default) ((fs.take i).foldl (bn w) g)) (w:=w) (t:=(aG (fs.getD i default) w.vars).1) h1 h2 (show((fs.take i).foldl (bn w) g).conds.length+1≤L by omega)) Z Z Z Z Z Z (B0:=24000) Z Z (am ?_))
 refine jf [12,0,1,2,3,8] Z (jn (ag (js Z (ji Z (js Z (jf [8,12,0,1,2,3] Z (jn ?_)))))))
 refine⟨i+1,((ah [500,501,503,24006] (e':=[(0,_),(1,_),(2,_),(3,_),(8,_)]) Z Z ⟨Z,Z,Z,Z,Z,tv⟩ Z).trans (aa 24006 902 Z Z)).trans (Ent.to ⟨Z,Z,Z,Z,Z,tv⟩ (by rw[r5 (by omega)];rfl)),by omega,by omega⟩
 refine aR (ae ?_)
 obtain rfl:i=fs.length:=by have:=b9 z12;omega
 rw[List.take_length]
 refine rk [_,_,_,_,_,_,_,_,_,_,_,_,_,_,_,_,_,_,_,_,_,_,_,_,_,_,_,_,_,_,_] [pn [] 0 4,pn [] 0 3,pn [1] 0 3,pn [1,2] 0 3,pn [1,2,3] 0 3,pn [] 0 3,pn [5] 0 3,pn [5,6] 0 3,pn [5,6,7] 0 3,pn [] 0 3,p0,pz [10],pz [10,11],pz [10,11,12],pe [10,11,12,13] 0,pn [] 0 1,pn [15] 0 1,pn [15,16] 0 1,pn [15,16,17] 0 1,pe [10,11,12,13,14,15,16,17,18] 1,pn [] 0 2,pn [20] 0 2,pn [20,21] 0 2,pn [20,21,22] 0 2,pe [10,11,12,13,14,15,16,17,18,19,20,21,22,23] 2,pn [5,6,7,8,9,10,11,12,13,14,15,16,17,18,19,20,21,22,23,24] 3 3,pn [5,6,7,8,9,10,11,12,13,14,15,16,17,18,19,20,21,22,23,24,25] 3 3,pe [1,2,3,4,5,6,7,8,9,10,11,12,13,14,15,16,17,18,19,20,21,22,23,24,25,26] 3,pn [0,1,2,3,4,5,6,7,8,9,10,11,12,13,14,15,16,17,18,19,20,21,22,23,24,25,26,27] 4 4,pn [0,1,2,3,4,5,6,7,8,9,10,11,12,13,14,15,16,17,18,19,20,21,22,23,24,25,26,27,28] 4 4,pe [0,1,2,3,4,5,6,7,8,9,10,11,12,13,14,15,16,17,18,19,20,21,22,23,24,25,26,27,28,29] 4] [14,19,24,27,30] 26 50 (.row false 5 [Pth.cells (⟨frm,to,w.facts,w.vars,w.ev⟩:Pth)]) [_,_,_,_] [_,_] [[],[],[],[501],[]] (ai (kf Z Z Z (kf Z Z Z (kf Z Z Z (kf Z Z Z (kg Z Z Z))))) (ai (kf Z Z Z (kf Z Z Z (kf Z Z Z (kg Z Z Z)))) (ai (kf Z Z Z (kf Z Z Z (kf Z Z Z (kg Z Z Z)))) (ai (kf Z Z Z (kf Z Z Z (kf Z Z Z (kg Z Z Z)))) (ai (kf Z Z Z (kf Z Z Z (kf Z Z Z (kg Z Z Z)))) (ai (kf Z Z Z (kf Z Z Z (kf Z Z Z (kg Z Z Z)))) (ai (kf Z Z Z (kf Z Z Z (kf Z Z Z (kg Z Z Z)))) (ai (kf Z Z Z (kf Z Z Z (kf Z Z Z (kg Z Z Z)))) (ai (kf Z Z Z (kf Z Z Z (kf Z Z Z (kg Z Z Z)))) (ai (kf Z Z Z (kf Z Z Z (kf Z Z Z (kg Z Z Z)))) (kf Z Z Z (kf Z Z Z (kf Z Z Z (kf Z Z Z (ai (ai (au (bB O (B0:=39000) Z Z Z Z (C9 (ts:=w.facts) h1 h2) (ab Z) Z Z Z Z Z) (bB O (B0:=39000) Z Z Z Z (C9 (ts:=w.facts) h1 h2) (ab Z) Z Z Z Z Z)) Z) (ai (kf Z Z Z (kg Z Z Z)) (ai (kf Z Z Z (kg Z Z Z)) (ai (kf Z Z Z (kg Z Z Z)) (ai (kf Z Z Z (kg Z Z Z)) (ai (ai (au (bB O (B0:=44000) Z Z Z Z (C9 (ts:=w.vars) h1 h2) (ab Z) Z Z Z Z Z) (bB O (B0:=44000) Z Z Z Z (C9 (ts:=w.vars) h1 h2) (ab Z) Z Z Z Z Z)) Z) (ai (kf Z Z Z (kf Z Z Z (kg Z Z Z))) (ai (kf Z Z Z (kf Z Z Z (kg Z Z Z))) (ai (kf Z Z Z (kf Z Z Z (kg Z Z Z))) (ai (kf Z Z Z (kf Z Z Z (kg Z Z Z))) (ai (ai (au (bB O (B0:=49000) Z Z Z Z (t6 (xs:=w.ev) h1 h2) (ab Z) Z Z Z Z Z) (bB O (B0:=49000) Z Z Z Z (t6 (xs:=w.ev) h1 h2) (ab Z) Z Z Z Z Z)) Z) (kf Z Z Z (ai (ai (az (cD O Z Z Z Z Z Z Z Z Z Z Z Z Z Z)) Z) (ai (ai (au trivial (bW (own:=false) (xs:=(fs.foldl (bn w) g).paths.map Pth.cells) (ys:=[Pth.cells (⟨frm,to,w.facts,w.vars,w.ev⟩:Pth)]) (zs:=(((fs.foldl (bn w) g).paths++[(⟨frm,to,w.facts,w.vars,w.ev⟩:Pth)])).map Pth.cells) (n:=((fs.foldl (bn w) g).paths++[(⟨frm,to,w.facts,w.vars,w.ev⟩:Pth)]).length) O Z Z Z Z Z Z Z Z Z Z Z Z Z Z Z Z (.row Z (bA _).symm) (.whole Z Z (.inr ⟨Z,Z⟩)) (by simp) Z (by simp;omega) (by simp;omega) (by simp) (by simp) Z)) Z) (ai (ai (au trivial (V Z)) Z) (ai (ai (au trivial (V Z)) Z) (ai (ai (au trivial (az (eS Z Z Z))) Z) trivial))))))))))))))))))))))))))))))) ?_
 refine jw [12,0,1,2,3,8] Z (bJ ?_)
 refine ag (jd Z (jb Z (jf [59,54,12,0,1,2,3,8] Z (ar 6 Z Z Z (fun hx=>nz hx Z (nz hx Z (nz hx Z (nz hx Z (ny hx (dV O Z Z (by simp only[cp,du];omega)) Z (nz hx Z (AN.nil))))))) Z Z (st ((ay O Z Z Z Z Z).cast (v':=eB ((fs.foldl (bn w) g).bad||decide (200<(fs.foldl (bn w) g).paths.length+1))) (congrArg eB (by rw[Gx];exact congrArg ((fs.foldl (bn w) g).bad|| ·) (decide_eq_decide.2 (by simp;omega))))) Z (jb Z (jf [68,66,12,0,1,2,3,8] Z (jo Z (am ?_)))))))))
 refine jf [12,0,1,2,3,8] Z (jn ?_)
 show _∧_
 refine⟨.inr Z,_,(aa 51 505 Z Z).trans (aa 902 506 Z Z),_,Z,Z,Z⟩
structure Fl where
  stmt:Int
  next:Int
  other:Int
  deriving Inhabited
abbrev Fl.cells(f:Fl):List D:=[.int .i64 f.stmt,.int .i64 f.next,.int .i64 f.other]
abbrev dB(fs:List Fl):D:=.slc 3 (fs.map Fl.cells)
def bb(b:List Sm):Nat→Nat
  | 0=>0
  | k+1=>bb b k+if(b.getD k default).kind=8 then 1 else 0
theorem gB{b:List Sm}: ∀{k:Nat},bb b k≤k
 | 0=>cQ _
 | k+1=>by
  have:=gB (b:=b) (k:=k)
  rw[bb];split<;>omega
inductive Pl(b:List Sm)(fl:List Fl):Int→List Fr→Prop
  | nil:Pl b fl (-1) []
  | lp {i:Nat} {k:Nat} {r:List Fr} (hi:i<fl.length) (hs:(fl.getD i default).stmt=(k:Nat)) (hk:k<b.length) (hb:(b.getD k default).kind=8):Pl b fl (i:Nat) (.lp (bb b k)::r)
  | leaf {i k:Nat} {r:List Fr} (hi:i<fl.length) (hs:(fl.getD i default).stmt=(k:Nat)) (hk:k<b.length) (hb:bl (b.getD k default).kind=0) (h:Pl b fl (fl.getD i default).next r):Pl b fl (i:Nat) (.st (.node (b.getD k default) (k:Nat) [])::r)
  | seq {i:Int} {k:Nat} {x y:Tr} {r:List Fr} (hb:(b.getD k default).kind=1) (h:Pl b fl i (.st x:: .st y::r)):Pl b fl i (.st (.node (b.getD k default) (k:Nat) [x,y])::r)
  | cond {i k:Nat} {x y:Tr} {r:List Fr} (hi:i<fl.length) (hs:(fl.getD i default).stmt=(k:Nat)) (hk:k<b.length) (hb:(b.getD k default).kind=7) (h1:Pl b fl (fl.getD i default).next (.st x::r)) (h2:Pl b fl (fl.getD i default).other (.st y::r)):Pl b fl (i:Nat) (.st (.node (b.getD k default) (k:Nat) [x,y])::r)
  | loop {i k:Nat} {x:Tr} {r:List Fr} (hi:i<fl.length) (hs:(fl.getD i default).stmt=(k:Nat)) (hk:k<b.length) (hb:(b.getD k default).kind=8):Pl b fl (i:Nat) (.st (.node (b.getD k default) (k:Nat) [x])::r)

variable{pre post:List Tm}{b:List Sm}
theorem Is(hk:k≤b.length)(hb:b.length≤1000):MQ h1 h2 131 [ptr [fd pre,kv b,fd post],eI (k:Nat)] [] (Plain (eI (bb b k:Nat))):=by
 refine aB ?_ Z
 refine jB 24 h1 h2 Tryz.func131 Z fun O hF=>?_
 refine ac (js Z (aN (js Z (jn (ae (ac (js Z (jn (ak (ap (X:=Nat) (fun i=>⟨[(0,ptr [fd pre,kv b,fd post]),(1,eI (k:Nat)),(5,eI (bb b i:Nat)),(6,eI i)],[]⟩) (fun i=>i≤k) (fun i=>k-i) 0 (Ent.env ⟨Z,Z,Z,Z,tv⟩) ?_ (fun i hi=>?_)))))))))))
 exact cG _
 refine ae (ac (jc Z (jn (zc Z (fun z9=>?_) (fun z9=>?_)))))
 try simp only[bo]at z9
 refine af (ae (ak (ac (jd Z (js Z ?_)))))
 have hn:=gB (b:=b) (k:=i)
 refine st (aQ O Z Z Z Z Z Z Z Z (dx (by omega))) Z (jc Z (jn (zc Z (fun z20=>?_) (fun z20=>?_))))
 try simp only[bo]at z20
 refine ag (js Z (ji Z (js Z (jn (ag (js Z (ji Z (js Z (jn ?_)))))))))
 have hn:=gB (b:=b) (k:=i)
 refine⟨i+1,Ent.env ⟨Z,Z,by rw[bb,if_pos z20];rfl,Z,tv⟩,by omega,by omega⟩
 try simp only[bo]at z20
 refine af (ag (js Z (ji Z (js Z (jn ?_)))))
 refine⟨i+1,Ent.env ⟨Z,Z,by rw[bb,if_neg z20];rfl,Z,tv⟩,by omega,by omega⟩
 try simp only[bo]at z9
 refine aR (ac (jb Z (jr ?_)))
 refine eR Z ?_
 obtain rfl:i=k:=by omega
 rfl
abbrev pP(pre:List Tm)(b:List Sm)(post:List Tm):D:=.ptr [fd pre,kv b,fd post] 0
abbrev gH(p fl:D)(frm:Int)(g:Gs):List (Nat×B):=[(0,gA p fl frm g 1 2),(1,bU g.paths),(2,bV g.conds)]
abbrev kA(p fl:D)(frm:Int)(g:Gs):List (Nat×B):=[(0,gA p fl frm g 5 6),(5,bU g.paths),(6,bV g.conds)]
theorem WOk.ctx{m:Nat}{w:Pw}(h:WOk m w):CtxOk w.vars:=⟨h.ok,by have:=h.vars;omega⟩
theorem GH{α β:Type}[Inhabited α]{l:List α}{f:α→β}{n j:Nat}(h:n<l.length)(hj:j=n):(l.map f)[j]? = some (f (l.getD n default)):=by subst hj;simp[h]
theorem GB{α β:Type}{l:List α}{f:α→β}{n j:Nat}{v:α}{ds:β}(hj:j=n)(hd:ds=f v):(l.map f).set j ds=(l.set n v).map f:=by subst hj;subst hd;rw[List.map_set]
variable{fl:List Fl}{first:Bool}
theorem yN{at_:Int}(hb:g.bad=true):MQ h1 h2 83 [.c (.pt 0 0 0),eI at_,hA w,eB first] (gH (pP pre b post) (dB fl) frm g) (aO (.tup []) (kA (pP pre b post) (dB fl) frm g)):=by
 refine MC.shift 500 Z (MC.keep [500,505,506] (bs:=[gA (pP pre b post) (dB fl) frm g 505 506,bU g.paths,bV g.conds]) Z Z (jH 206 [500,501,502] h1 h2 Tryz.func83 Z fun O hF=>?_))
 refine bJ ?_
 refine ac (jx Z (am ?_))
 refine jn (ae (ac (jd Z (jn (zc Z (fun z19=>?_) (fun z19=>?_))))))
 refine dJ ?_
 refine⟨.inl Z,_,(aa 501 505 Z Z).trans (aa 502 506 Z Z),_,Z,Z,Z⟩
 exact absurd z19 (by rw[hb];decide)
theorem yM(hb:g.bad=false)(hw:CtxOk w.vars)(hv:w.vars.length=4)(hf:TsOk post)(hg:g.conds.length+post.length≤L)(hp:g.paths.length+1≤L):MQ h1 h2 83 [.c (.pt 0 0 0),eI (-1),hA w,eB first] (gH (pP pre b post) (dB fl) frm g) (aO (.tup []) (kA (pP pre b post) (dB fl) frm (dy frm w (-1) post g))):=by
 refine MC.shift 500 Z (MC.keep [500,505,506] (bs:=[gA (pP pre b post) (dB fl) frm (dy frm w (-1) post g) 505 506,bU (dy frm w (-1) post g).paths,bV (dy frm w (-1) post g).conds]) Z Z (jH 206 [500,501,502] h1 h2 Tryz.func83 Z fun O hF=>?_))
 refine bJ ?_
 refine ac (jx Z (am ?_))
 refine jn (ae (ac (jd Z (jn (zc Z (fun z19=>?_) (fun z19=>?_))))))
 exact absurd z19 (by rw[hb];decide)
 refine af (ae (ac (jb Z (jn (zc Z (fun z21=>?_) (fun z21=>?_))))))
 refine ac (jd Z (jd Z (ao O [500,501,502,6] (bin:=[gA (pP pre b post) (dB fl) frm g 1 2,bU g.paths,bV g.conds,hB w]) Z Z Z Z (DJ (p:=(pP pre b post)) (fl:=(dB fl)) (frm:=frm) (g:=g) (w:=w) (to:= -1) (fs:=post) h1 h2 hw hv hf hg hp) Z Z Z Z Z Z (B0:=31000) Z Z (am ?_))))
 refine jr ?_
 refine⟨.inl Z,_,(aa 31005 505 Z Z).trans (aa 31006 506 Z Z),_,Z,Z,Z⟩
 exact absurd z21 (by decide)
variable{i:Nat}{nx ot:Int}
theorem q7{s:Sm}(hb:g.bad=false)(hi:i<fl.length)(he:fl.getD i default=⟨(k:Nat),nx,ot⟩)(hk:k<b.length)(hbs:b.getD k default=s)(hk8:s.kind=8)(hb1:b.length≤1000)(hw:CtxOk w.vars)(hv:w.vars.length=4)(hf:TsOk s.facts)(hg:g.conds.length+s.facts.length≤L)(hp:g.paths.length+1≤L):MQ h1 h2 83 [.c (.pt 0 0 0),eI (i:Nat),hA w,eB false] (gH (pP pre b post) (dB fl) frm g) (aO (.tup []) (kA (pP pre b post) (dB fl) frm (dy frm w (bb b k:Nat) s.facts g))):=by
 refine MC.shift 500 Z (MC.keep [500,505,506] (bs:=[gA (pP pre b post) (dB fl) frm (dy frm w (bb b k:Nat) s.facts g) 505 506,bU (dy frm w (bb b k:Nat) s.facts g).paths,bV (dy frm w (bb b k:Nat) s.facts g).conds]) Z Z (jH 206 [500,501,502] h1 h2 Tryz.func83 Z fun O hF=>?_))
 refine bJ ?_
 refine ac (jx Z (am ?_))
 refine jn (ae (ac (jd Z (jn (zc Z (fun z19=>?_) (fun z19=>?_))))))
 exact absurd z19 (by rw[hb];decide)
 refine af (ae (ac (jb Z (jn (zc Z (fun z21=>?_) (fun z21=>?_))))))
 exact absurd (bt z21) (by omega)
 refine af (ac (jd Z (js Z (st ((aQ O Z Z Z Z Z Z Z Z (dx hi)).cast (v':=ptr (Fl.cells ⟨(k:Nat),nx,ot⟩)) (by rw[he])) Z (js Z (jl Z (am ?_)))))))
 refine jo Z (am ?_)
 refine jn (ae (fJ [_,_,_,_,_,_,_,_,_,_,_] [p0,pz [0],pz [0,1],pz [0,1,2],pz (rg 0 4),pz (rg 0 5),pz (rg 0 6),p0,pz [7],pz (rg 0 9),pz (rg 0 10)] [] [_] (k4 Z (k4 Z (kc Z (ai ((aQ O Z Z Z Z Z Z Z Z (dx hk)).cast (v':=ptr (Sm.cells s)) (by rw[hbs])) (kc Z trivial))))) ?_))
 refine jw [9,8,37,6,0,1,2,3] Z (bJ ?_)
 refine ae (ac (jd Z (jn (ak (ac (jb Z (jn (zc Z (fun z52=>?_) (fun z52=>?_)))))))))
 exact absurd (bt z52) (by omega)
 refine ac (jb Z (jn (zc Z (fun z71=>?_) (fun z71=>?_))))
 exact absurd (bt z71) (by omega)
 refine ac (jb Z (jn (zc Z (fun z110=>?_) (fun z110=>?_))))
 exact absurd (bt z110) (by omega)
 refine ac (jb Z (jn (zc Z (fun z117=>?_) (fun z117=>?_))))
 exact absurd (bt z117) (by omega)
 refine ac (jb Z (jn (zc Z (fun z129=>?_) (fun z129=>?_))))
 exact absurd (bt z129) (by omega)
 refine ae (ac (jb Z (jn (zc Z (fun z142=>?_) (fun z142=>?_)))))
 exact absurd (bt z142) (by omega)
 refine ag (jb Z (jn (zc Z (fun z142=>?_) (fun z142=>?_))))
 refine ae (ac (jd Z (jb Z (ar 2 Z Z Z (fun hx=>nz hx Z (nz hx Z (AN.nil))) Z Z (st (aq O Z Z Z Z Z) Z (jn (zc Z (fun z153=>?_) (fun z153=>?_))))))))
 refine ae (jw [144,53,51,9,8,37,6,0,1,2] Z (kx [_,_,_,_,_,_,_,_,_,_,_,_,_] [pn [] 0 1,p0,pz [1],pz [1,2],pz [1,2,3],p0,pz [5],pe (rg 1 6) 0,pn [] 0 1,pn [8] 0 1,pn [8,9] 0 1,pn [8,9,10] 0 1,pe (rg 0 12) 1] [7,12] [_,_,_] [[],[501,502]] (ai (ka Z Z (kw Z Z)) (ka Z Z (ka Z Z (ka Z Z (ka Z Z (ka Z Z (ka Z Z (ai (ai (az (bg O (B0:=162000) Z Z Z Z (Is (pre:=pre) (post:=post) (b:=b) (k:=k) h1 h2 (by omega) hb1) (ab Z) Z Z Z Z Z)) Z) (ai (ka Z Z (kw Z Z)) (ai (ka Z Z (kw Z Z)) (ai (ka Z Z (kw Z Z)) (ai (ka Z Z (kw Z Z)) (ai (ai (cn O [500,501,502,6] [501,502] (bin:=[gA (pP pre b post) (dB fl) frm g 1 2,bU g.paths,bV g.conds,hB w]) Z Z Z Z (DJ (p:=(pP pre b post)) (fl:=(dB fl)) (frm:=frm) (g:=g) (w:=w) (to:=(bb b k:Nat)) (fs:=s.facts) h1 h2 hw hv hf hg hp) Z Z Z Z Z (B0:=167000) Z Z Z Z Z Z Z) Z) trivial))))))))))))) ?_))
 refine jw [144,53,51,9,8,37,6,0,1,2] Z (bJ ?_)
 refine dJ ?_
 refine⟨.inl Z,_,(aa 167005 505 Z Z).trans (aa 167006 506 Z Z),_,Z,Z,Z⟩
 exact absurd z153 (by rw[hk8];decide)
 exact absurd (b9 z142) (by omega)
theorem ug{la:dv}{E:Pe}{frm:Int}{n:Nat}{r:List Fr}{w u:Pw}{g:Gs}(h:u.long=w.long):(eM la E frm n r w (g.flag w.long)).flag u.long=eM la E frm n r w (g.flag w.long):=by
 rw[h]
 cases hl:w.long with
 | false=>simp[Gs.flag]
 | true=>rw[cT (by simp[Gs.flag])];simp[Gs.flag]
variable{g4:Gs}
theorem By{s:Sm}(hb:g.bad=false)(hi:i<fl.length)(he:fl.getD i default=⟨(k:Nat),nx,ot⟩)(hk:k<b.length)(hbs:b.getD k default=s)(hkk:s.kind=7)(hw:CtxOk w.vars)(hv:w.vars.length=4)(hs:s.sum.ok=true∧s.sum.xs.length≤4)(hl:w.facts.length≤1000){g3:Gs}(ih1:MQ h1 h2 83 [.c (.pt 0 0 0),eI nx,hA (w.fact (aG s.sum w.vars).1),eB false] (gH (pP pre b post) (dB fl) frm (((aU w s.sum g).flag (!(aL (aG s.sum w.vars).1).2)).flag (w.fact (aG s.sum w.vars).1).long)) (aO (.tup []) (kA (pP pre b post) (dB fl) frm g3)))(ih2:MQ h1 h2 83 [.c (.pt 0 0 0),eI ot,hA (w.fact (aL (aG s.sum w.vars).1).1),eB false] (gH (pP pre b post) (dB fl) frm (g3.flag (w.fact (aL (aG s.sum w.vars).1).1).long)) (aO (.tup []) (kA (pP pre b post) (dB fl) frm g4))):MQ h1 h2 83 [.c (.pt 0 0 0),eI (i:Nat),hA w,eB false] (gH (pP pre b post) (dB fl) frm g) (aO (.tup []) (kA (pP pre b post) (dB fl) frm g4)):=by
 refine MC.shift 500 Z (MC.keep [500,505,506] (bs:=[gA (pP pre b post) (dB fl) frm g4 505 506,bU g4.paths,bV g4.conds]) Z Z (jH 206 [500,501,502] h1 h2 Tryz.func83 Z fun O hF=>?_))
 refine bJ ?_
 refine ac (jx Z (am ?_))
 refine jn (ae (ac (jd Z (jf [19,6,0,1,2,3] Z (jn (zc Z (fun z19=>?_) (fun z19=>?_)))))))
 exact absurd z19 (by rw[hb];decide)
 refine af (ae (ac (jb Z (jf [21,6,0,1,2,3] Z (jn (zc Z (fun z21=>?_) (fun z21=>?_)))))))
 exact absurd (bt z21) (by omega)
 refine af (ac (jd Z (js Z (st ((aQ O Z Z Z Z Z Z Z Z (dx hi)).cast (v':=ptr (Fl.cells ⟨(k:Nat),nx,ot⟩)) (by rw[he])) Z (js Z (jf [37,6,0,1,2,3] Z (jl Z (am ?_))))))))
 refine jo Z (am ?_)
 refine jn (ae (fJ [_,_,_,_,_,_,_,_,_,_,_] [p0,pz [0],pz [0,1],pz [0,1,2],pz (rg 0 4),pz (rg 0 5),pz (rg 0 6),p0,pz [7],pz (rg 0 9),pz (rg 0 10)] [] [_] (k4 Z (k4 Z (kc Z (ai ((aQ O Z Z Z Z Z Z Z Z (dx hk)).cast (v':=ptr (Sm.cells s)) (by rw[hbs])) (kc Z trivial))))) ?_))
 refine jw [9,8,37,6,0,1,2,3] Z (bJ ?_)
 refine ae (ac (jd Z (jf [51,9,8,37,6,0,1,2,3] Z (jn (ak (ac (jb Z (jn (zc Z (fun z52=>?_) (fun z52=>?_))))))))))
 exact absurd (bt z52) (by omega)
 refine ac (jb Z (jf [71,53,51,9,8,37,6,0,1,2,3] Z (jn (zc Z (fun z71=>?_) (fun z71=>?_)))))
 exact absurd (bt z71) (by omega)
 refine ac (jb Z (jf [110,53,51,9,8,37,6,0,1,2,3] Z (jn (zc Z (fun z110=>?_) (fun z110=>?_)))))
 exact absurd (bt z110) (by omega)
 refine ac (jb Z (jf [117,53,51,9,8,37,6,0,1,2,3] Z (jn (zc Z (fun z117=>?_) (fun z117=>?_)))))
 exact absurd (bt z117) (by omega)
 refine ac (jb Z (jf [129,53,51,9,8,37,6,0,1,2,3] Z (jn (zc Z (fun z129=>?_) (fun z129=>?_)))))
 exact absurd (bt z129) (by omega)
 refine ae (ac (jb Z (jf [142,53,51,9,8,37,6,0,1,2,3] Z (jn (zc Z (fun z142=>?_) (fun z142=>?_))))))
 refine af (zc Z (fun z142=>?_) (fun z142=>?_))
 refine ae (ac (jd Z (jb Z (jf [150,53,51,9,8,37,6,0,1,2,3] Z (ar 2 Z Z Z (fun hx=>nz hx Z (nz hx Z (AN.nil))) Z Z (st (aq O Z Z Z Z Z) Z (jf [153,53,51,9,8,37,6,0,1,2] Z (jn (zc Z (fun z153=>?_) (fun z153=>?_))))))))))
 exact absurd z153 (by rw[hkk];decide)
 refine af (ac (jd Z (jf [170,167,53,51,9,8,37,6,0,1,2] Z (ao O [500,501,502,6] (bin:=[gA (pP pre b post) (dB fl) frm g 1 2,bU g.paths,bV g.conds,hB w]) Z Z Z Z (rF (p:=(pP pre b post)) (fl:=(dB fl)) (frm:=frm) (g:=g) (w:=w) (t:=s.sum) (ds:=Sm.cells s) (j:=3) h1 h2 Z hw hs.1 (by omega)) Z Z Z Z Z Z (B0:=172000) Z Z (am ?_)))))
 refine jf [171,53,51,9,8,37,6,0,1,2] Z (jl Z (am ?_))
 refine jo Z (am ?_)
 refine aN (an (Ent.freeze 13 (e':=[(13,_),(0,_),(6,_),(8,_)]) Z (.cons Z (.c (.box (cs:=Tm.cells (aG s.sum w.vars).1) Z (ax Z))) (fe [0,6,8] Z)) (cb Z (.skip (cb Z (cw Z (cw Z (cb Z .nil))))))) ?_)
 refine aj O Z Z Z Z (zu (t:=(aG s.sum w.vars).1) h1 h2 (Small.of eU)) (ab Z) Z Z Z Z (B0:=174000) Z Z (jc Z (jf [175,174,13,0,6,8] Z (jl Z (am ?_))))
 refine jo Z (am ?_)
 refine js Z (jf [15,14,13,0,6,8] Z (aN (jd Z (jb Z (jf [181,176,15,14,13,0,6,8] Z (ar 2 Z Z Z (fun hx=>nz hx Z (nz hx Z (AN.nil))) Z Z (st ((ay O Z Z Z Z Z).cast (v':=eB ((aU w s.sum g).bad|| !(aL (aG s.sum w.vars).1).2)) (congrArg eB Gx)) Z (jb Z (jf [186,184,14,13,0,6,8] Z (jo Z (am ?_)))))))))))
 refine jf [14,13,0,6,8] Z (jn (ae (kx [_,_,_,_,_,_,_] [pn [] 0 1,pn [] 0 1,pn [1] 0 1,p0,p0,pe [3,4] 0,pe (rg 0 6) 1] [5,6] [_,_,_] [[],[501,502]] (ai (ka Z Z (kw Z Z)) (ai (ka Z Z (kw Z Z)) (ai (ka Z Z (kw Z Z)) (ka Z Z (ka Z Z (ai (ai (az (b0 O [500,501,502,6] (bin:=[gA (pP pre b post) (dB fl) frm ((aU w s.sum g).flag (!(aL (aG s.sum w.vars).1).2)) 1 2,bU ((aU w s.sum g).flag (!(aL (aG s.sum w.vars).1).2)).paths,bV ((aU w s.sum g).flag (!(aL (aG s.sum w.vars).1).2)).conds,hB w]) Z Z Z Z (t7 (p:=(pP pre b post)) (fl:=(dB fl)) (frm:=frm) (g:=((aU w s.sum g).flag (!(aL (aG s.sum w.vars).1).2))) (w:=w) (t:=(aG s.sum w.vars).1) h1 h2 hl) Z Z Z Z Z (B0:=193000) Z Z Z Z Z Z)) Z) (ai (ai (cn O [500,501,502] [501,502] (bin:=[gA (pP pre b post) (dB fl) frm (((aU w s.sum g).flag (!(aL (aG s.sum w.vars).1).2)).flag (w.fact (aG s.sum w.vars).1).long) 1 2,bU (((aU w s.sum g).flag (!(aL (aG s.sum w.vars).1).2)).flag (w.fact (aG s.sum w.vars).1).long).paths,bV (((aU w s.sum g).flag (!(aL (aG s.sum w.vars).1).2)).flag (w.fact (aG s.sum w.vars).1).long).conds]) Z Z Z Z (ih1) Z Z Z Z Z (B0:=194000) Z Z Z Z Z Z Z) Z) trivial))))))) ?_)))
 refine jw [14,13,0,6,8] Z (bJ ?_)
 refine ae (kx [_,_,_,_,_,_,_] [pn [] 0 1,pn [] 0 1,pn [1] 0 1,p0,p0,pe [3,4] 0,pe (rg 0 6) 1] [5,6] [_,_,_] [[],[194005,194006]] (ai (ka Z Z (kw Z Z)) (ai (ka Z Z (kw Z Z)) (ai (ka Z Z (kw Z Z)) (ka Z Z (ka Z Z (ai (ai (az (b0 O [500,194005,194006,6] (bin:=[gA (pP pre b post) (dB fl) frm g3 1 2,bU g3.paths,bV g3.conds,hB w]) Z Z Z Z (t7 (p:=(pP pre b post)) (fl:=(dB fl)) (frm:=frm) (g:=g3) (w:=w) (t:=(aL (aG s.sum w.vars).1).1) h1 h2 hl) Z Z Z Z Z (B0:=200000) Z Z Z Z Z Z)) Z) (ai (ai (cn O [500,194005,194006] [194005,194006] (bin:=[gA (pP pre b post) (dB fl) frm (g3.flag (w.fact (aL (aG s.sum w.vars).1).1).long) 1 2,bU (g3.flag (w.fact (aL (aG s.sum w.vars).1).1).long).paths,bV (g3.flag (w.fact (aL (aG s.sum w.vars).1).1).long).conds]) Z Z Z Z (ih2) Z Z Z Z Z (B0:=201000) Z Z Z Z Z Z Z) Z) trivial))))))) ?_)
 refine jw [14,13,0,6,8] Z (bJ ?_)
 refine dJ ?_
 refine⟨.inl Z,_,(aa 201005 505 Z Z).trans (aa 201006 506 Z Z),_,Z,Z,Z⟩
 exact absurd (b9 z142) (by omega)
 exact absurd (b9 z142) (by omega)
theorem vg{s:Sm}(hb:g.bad=false)(hi:i<fl.length)(he:fl.getD i default=⟨(k:Nat),nx,ot⟩)(hk:k<b.length)(hbs:b.getD k default=s)(hkk:s.kind=8)(hw:CtxOk w.vars)(hv:w.vars.length=4)(hs:s.sum.ok=true∧s.sum.xs.length≤4)(hl:w.facts.length≤1000){g3:Gs}(ih1:MQ h1 h2 83 [.c (.pt 0 0 0),eI nx,hA (w.fact (aG s.sum w.vars).1),eB false] (gH (pP pre b post) (dB fl) frm (((aU w s.sum g).flag (!(aL (aG s.sum w.vars).1).2)).flag (w.fact (aG s.sum w.vars).1).long)) (aO (.tup []) (kA (pP pre b post) (dB fl) frm g3)))(ih2:MQ h1 h2 83 [.c (.pt 0 0 0),eI ot,hA (w.fact (aL (aG s.sum w.vars).1).1),eB false] (gH (pP pre b post) (dB fl) frm (g3.flag (w.fact (aL (aG s.sum w.vars).1).1).long)) (aO (.tup []) (kA (pP pre b post) (dB fl) frm g4))):MQ h1 h2 83 [.c (.pt 0 0 0),eI (i:Nat),hA w,eB true] (gH (pP pre b post) (dB fl) frm g) (aO (.tup []) (kA (pP pre b post) (dB fl) frm g4)):=by
 refine MC.shift 500 Z (MC.keep [500,505,506] (bs:=[gA (pP pre b post) (dB fl) frm g4 505 506,bU g4.paths,bV g4.conds]) Z Z (jH 206 [500,501,502] h1 h2 Tryz.func83 Z fun O hF=>?_))
 refine bJ ?_
 refine ac (jx Z (am ?_))
 refine jn (ae (ac (jd Z (jf [19,6,0,1,2,3] Z (jn (zc Z (fun z19=>?_) (fun z19=>?_)))))))
 exact absurd z19 (by rw[hb];decide)
 refine af (ae (ac (jb Z (jf [21,6,0,1,2,3] Z (jn (zc Z (fun z21=>?_) (fun z21=>?_)))))))
 exact absurd (bt z21) (by omega)
 refine af (ac (jd Z (js Z (st ((aQ O Z Z Z Z Z Z Z Z (dx hi)).cast (v':=ptr (Fl.cells ⟨(k:Nat),nx,ot⟩)) (by rw[he])) Z (js Z (jf [37,6,0,1,2,3] Z (jl Z (am ?_))))))))
 refine jo Z (am ?_)
 refine jn (ae (fJ [_,_,_,_,_,_,_,_,_,_,_] [p0,pz [0],pz [0,1],pz [0,1,2],pz (rg 0 4),pz (rg 0 5),pz (rg 0 6),p0,pz [7],pz (rg 0 9),pz (rg 0 10)] [] [_] (k4 Z (k4 Z (kc Z (ai ((aQ O Z Z Z Z Z Z Z Z (dx hk)).cast (v':=ptr (Sm.cells s)) (by rw[hbs])) (kc Z trivial))))) ?_))
 refine jw [9,8,37,6,0,1,2,3] Z (bJ ?_)
 refine ae (ac (jd Z (jf [51,9,8,37,6,0,1,2,3] Z (jn (ak (ac (jb Z (jn (zc Z (fun z52=>?_) (fun z52=>?_))))))))))
 exact absurd (bt z52) (by omega)
 refine ac (jb Z (jf [71,53,51,9,8,37,6,0,1,2,3] Z (jn (zc Z (fun z71=>?_) (fun z71=>?_)))))
 exact absurd (bt z71) (by omega)
 refine ac (jb Z (jf [110,53,51,9,8,37,6,0,1,2,3] Z (jn (zc Z (fun z110=>?_) (fun z110=>?_)))))
 exact absurd (bt z110) (by omega)
 refine ac (jb Z (jf [117,53,51,9,8,37,6,0,1,2,3] Z (jn (zc Z (fun z117=>?_) (fun z117=>?_)))))
 exact absurd (bt z117) (by omega)
 refine ac (jb Z (jf [129,53,51,9,8,37,6,0,1,2,3] Z (jn (zc Z (fun z129=>?_) (fun z129=>?_)))))
 exact absurd (bt z129) (by omega)
 refine ae (ac (jb Z (jf [142,53,51,9,8,37,6,0,1,2,3] Z (jn (zc Z (fun z142=>?_) (fun z142=>?_))))))
 exact absurd (bt z142) (by omega)
 refine ag (jb Z (jn (zc Z (fun z142=>?_) (fun z142=>?_))))
 refine ae (ac (jd Z (jb Z (jf [150,144,53,51,9,8,37,6,0,1,2,3] Z (ar 2 Z Z Z (fun hx=>nz hx Z (nz hx Z (AN.nil))) Z Z (st (aq O Z Z Z Z Z) Z (jf [153,144,53,51,9,8,37,6,0,1,2] Z (jn (zc Z (fun z153=>?_) (fun z153=>?_))))))))))
 exact absurd z153 (by rw[hkk];decide)
 refine af (ac (jd Z (jf [170,167,144,53,51,9,8,37,6,0,1,2] Z (ao O [500,501,502,6] (bin:=[gA (pP pre b post) (dB fl) frm g 1 2,bU g.paths,bV g.conds,hB w]) Z Z Z Z (rF (p:=(pP pre b post)) (fl:=(dB fl)) (frm:=frm) (g:=g) (w:=w) (t:=s.sum) (ds:=Sm.cells s) (j:=3) h1 h2 Z hw hs.1 (by omega)) Z Z Z Z Z Z (B0:=172000) Z Z (am ?_)))))
 refine jf [171,144,53,51,9,8,37,6,0,1,2] Z (jl Z (am ?_))
 refine jo Z (am ?_)
 refine aN (an (Ent.freeze 13 (e':=[(13,_),(0,_),(6,_),(8,_)]) Z (.cons Z (.c (.box (cs:=Tm.cells (aG s.sum w.vars).1) Z (ax Z))) (fe [0,6,8] Z)) (cb Z (.skip (cb Z (cw Z (cw Z (cb Z .nil))))))) ?_)
 refine aj O Z Z Z Z (zu (t:=(aG s.sum w.vars).1) h1 h2 (Small.of eU)) (ab Z) Z Z Z Z (B0:=174000) Z Z (jc Z (jf [175,174,13,0,6,8] Z (jl Z (am ?_))))
 refine jo Z (am ?_)
 refine js Z (jf [15,14,13,0,6,8] Z (aN (jd Z (jb Z (jf [181,176,15,14,13,0,6,8] Z (ar 2 Z Z Z (fun hx=>nz hx Z (nz hx Z (AN.nil))) Z Z (st ((ay O Z Z Z Z Z).cast (v':=eB ((aU w s.sum g).bad|| !(aL (aG s.sum w.vars).1).2)) (congrArg eB Gx)) Z (jb Z (jf [186,184,14,13,0,6,8] Z (jo Z (am ?_)))))))))))
 refine jf [14,13,0,6,8] Z (jn (ae (kx [_,_,_,_,_,_,_] [pn [] 0 1,pn [] 0 1,pn [1] 0 1,p0,p0,pe [3,4] 0,pe (rg 0 6) 1] [5,6] [_,_,_] [[],[501,502]] (ai (ka Z Z (kw Z Z)) (ai (ka Z Z (kw Z Z)) (ai (ka Z Z (kw Z Z)) (ka Z Z (ka Z Z (ai (ai (az (b0 O [500,501,502,6] (bin:=[gA (pP pre b post) (dB fl) frm ((aU w s.sum g).flag (!(aL (aG s.sum w.vars).1).2)) 1 2,bU ((aU w s.sum g).flag (!(aL (aG s.sum w.vars).1).2)).paths,bV ((aU w s.sum g).flag (!(aL (aG s.sum w.vars).1).2)).conds,hB w]) Z Z Z Z (t7 (p:=(pP pre b post)) (fl:=(dB fl)) (frm:=frm) (g:=((aU w s.sum g).flag (!(aL (aG s.sum w.vars).1).2))) (w:=w) (t:=(aG s.sum w.vars).1) h1 h2 hl) Z Z Z Z Z (B0:=193000) Z Z Z Z Z Z)) Z) (ai (ai (cn O [500,501,502] [501,502] (bin:=[gA (pP pre b post) (dB fl) frm (((aU w s.sum g).flag (!(aL (aG s.sum w.vars).1).2)).flag (w.fact (aG s.sum w.vars).1).long) 1 2,bU (((aU w s.sum g).flag (!(aL (aG s.sum w.vars).1).2)).flag (w.fact (aG s.sum w.vars).1).long).paths,bV (((aU w s.sum g).flag (!(aL (aG s.sum w.vars).1).2)).flag (w.fact (aG s.sum w.vars).1).long).conds]) Z Z Z Z (ih1) Z Z Z Z Z (B0:=194000) Z Z Z Z Z Z Z) Z) trivial))))))) ?_)))
 refine jw [14,13,0,6,8] Z (bJ ?_)
 refine ae (kx [_,_,_,_,_,_,_] [pn [] 0 1,pn [] 0 1,pn [1] 0 1,p0,p0,pe [3,4] 0,pe (rg 0 6) 1] [5,6] [_,_,_] [[],[194005,194006]] (ai (ka Z Z (kw Z Z)) (ai (ka Z Z (kw Z Z)) (ai (ka Z Z (kw Z Z)) (ka Z Z (ka Z Z (ai (ai (az (b0 O [500,194005,194006,6] (bin:=[gA (pP pre b post) (dB fl) frm g3 1 2,bU g3.paths,bV g3.conds,hB w]) Z Z Z Z (t7 (p:=(pP pre b post)) (fl:=(dB fl)) (frm:=frm) (g:=g3) (w:=w) (t:=(aL (aG s.sum w.vars).1).1) h1 h2 hl) Z Z Z Z Z (B0:=200000) Z Z Z Z Z Z)) Z) (ai (ai (cn O [500,194005,194006] [194005,194006] (bin:=[gA (pP pre b post) (dB fl) frm (g3.flag (w.fact (aL (aG s.sum w.vars).1).1).long) 1 2,bU (g3.flag (w.fact (aL (aG s.sum w.vars).1).1).long).paths,bV (g3.flag (w.fact (aL (aG s.sum w.vars).1).1).long).conds]) Z Z Z Z (ih2) Z Z Z Z Z (B0:=201000) Z Z Z Z Z Z Z) Z) trivial))))))) ?_)
 refine jw [14,13,0,6,8] Z (bJ ?_)
 refine dJ ?_
 refine⟨.inl Z,_,(aa 201005 505 Z Z).trans (aa 201006 506 Z Z),_,Z,Z,Z⟩
 exact absurd (b9 z142) (by omega)
theorem wF{s:Sm}(hb:g.bad=false)(hi:i<fl.length)(he:fl.getD i default=⟨(k:Nat),nx,ot⟩)(hk:k<b.length)(hbs:b.getD k default=s)(hv:w.vars.length=4)(hw:CtxOk w.vars)(hsv:s.kind=2∨s.kind=3→0≤s.var∧s.var≤3)(hs:s.sum.ok=true∧s.sum.xs.length≤4)(hx:s.index.ok=true∧s.index.xs.length≤4)(hl:w.facts.length≤1000)(hle:w.ev.length≤1000)(hsy:w.sym≤10)(hg:g.conds.length+2≤L)(hkl:s.kind≠7∧s.kind≠8)(hs3:s.kind=3→w.sym<10)(ih:MQ h1 h2 83 [.c (.pt 0 0 0),eI nx,hA (bN bp s w g).1,eB false] (gH (pP pre b post) (dB fl) frm (bN bp s w g).2) (aO (.tup []) (kA (pP pre b post) (dB fl) frm g4))):MQ h1 h2 83 [.c (.pt 0 0 0),eI (i:Nat),hA w,eB first] (gH (pP pre b post) (dB fl) frm g) (aO (.tup []) (kA (pP pre b post) (dB fl) frm g4)):=by
 refine MC.shift 500 Z (MC.keep [500,505,506] (bs:=[gA (pP pre b post) (dB fl) frm g4 505 506,bU g4.paths,bV g4.conds]) Z Z (jH 206 [500,501,502] h1 h2 Tryz.func83 Z fun O hF=>?_))
 refine bJ ?_
 refine ac (jx Z (am ?_))
 refine jn (ae (ac (jd Z (jn (zc Z (fun z19=>?_) (fun z19=>?_))))))
 exact absurd z19 (by rw[hb];decide)
 refine af (ae (ac (jb Z (jn (zc Z (fun z21=>?_) (fun z21=>?_))))))
 exact absurd (bt z21) (by omega)
 refine af (ac (jd Z (js Z (st ((aQ O Z Z Z Z Z Z Z Z (dx hi)).cast (v':=ptr (Fl.cells ⟨(k:Nat),nx,ot⟩)) (by rw[he])) Z (js Z (jl Z (am ?_)))))))
 refine jo Z (am ?_)
 refine jn (ae (fJ [_,_,_,_,_,_,_,_,_,_,_] [p0,pz [0],pz [0,1],pz [0,1,2],pz (rg 0 4),pz (rg 0 5),pz (rg 0 6),p0,pz [7],pz (rg 0 9),pz (rg 0 10)] [] [_] (k4 Z (k4 Z (kc Z (ai ((aQ O Z Z Z Z Z Z Z Z (dx hk)).cast (v':=ptr (Sm.cells s)) (by rw[hbs])) (kc Z trivial))))) ?_))
 refine jw [9,8,37,6,0,1,2,3] Z (bJ ?_)
 refine ae (ac (jd Z (jn ?_)))
 obtain⟨d,ed⟩: ∃d,d=bN bp s w g:=⟨_,rfl⟩
 rw[←ed]at ih
 refine mS ⟨[(0,.c (.pt 500 0 0)),(6,.c (.pt 6 0 0)),(8,.c (.pt 8 0 0))],[(6,hB d.1),(8,.box [.d (.int .i64 (k:Nat)),.d (.int .i64 nx),.d (.int .i64 ot)]),(500,gA (pP pre b post) (dB fl) frm d.2 901 902),(901,bU d.2.paths),(902,bV d.2.conds)]⟩ ?_ ?_
 refine ak (ac (jb Z (jn (zc Z (fun z52=>?_) (fun z52=>?_)))))
 refine ac (jd Z ?_)
 have hsv2:=hsv (.inl (bt z52))
 refine ao O [500,501,502,6] (bin:=[gA (pP pre b post) (dB fl) frm g 1 2,bU g.paths,bV g.conds,hB w]) Z Z Z Z (rF (p:=(pP pre b post)) (fl:=(dB fl)) (frm:=frm) (g:=g) (w:=w) (t:=s.sum) (ds:=Sm.cells s) (j:=3) h1 h2 Z hw hs.1 (by omega)) Z Z Z Z Z Z (B0:=59000) Z Z (am ?_)
 refine jl Z (am ?_)
 refine jo Z (am ?_)
 refine aN (jb Z (ip O (B0:=62000) Z Z Z Z (sM (ts:=w.vars) h1 h2) (ab Z) Z Z Z Z Z (am ?_)))
 refine js Z (jo Z (am ?_))
 refine jn (fJ [_,_,_,_,_,_,_,_,_] [p0,pz [0],p0,pz [2],pz [2,3],pz [2,3,4],p0,pz (rg 0 7),pe (rg 0 8) 0] [8] [_,_] (k4 Z (kc Z (kc Z (kc Z (ai (vI Z Z) (ai (cE (ex:=Tm.cells (w.vars.getD s.var.toNat default)) (xs':=(w.vars.set s.var.toNat (aG s.sum w.vars).1).map Tm.cells) O Z Z Z Z Z Z Z Z Z Z Z Z Z Z Z (GH (by omega) (by omega)) (GB (v:=(aG s.sum w.vars).1) (by omega) Z) Z) trivial)))))) ?_)
 rw[ed,bN,if_pos (bt z52)]
 exact⟨Z,((((ah [6,8,500,501,502,62000] (e':=[(0,_),(6,_),(8,_)]) Z Z ⟨Z,Z,Z,tv⟩ Z).trans (Ent.freeze 62000 (e':=[(0,_),(6,_),(8,_)]) Z (fe [0,6,8] Z) (.cons Z (.box (.cons (.row Z (by simp[hv])) (fk Z))) (cb Z (cb Z (cw Z (cw Z (.skip .nil)))))))).trans (aa 501 901 Z Z)).trans (aa 502 902 Z Z)).trans (Ent.to ⟨Z,Z,Z,tv⟩ Z)⟩
 refine ac (jb Z (jn (zc Z (fun z71=>?_) (fun z71=>?_))))
 refine ac (jd Z ?_)
 have hsv2:=hsv (.inr (bt z71))
 have hsy3:=hs3 (bt z71)
 refine ao O [500,501,502,6] (bin:=[gA (pP pre b post) (dB fl) frm g 1 2,bU g.paths,bV g.conds,hB w]) Z Z Z Z (zR (p:=(pP pre b post)) (fl:=(dB fl)) (frm:=frm) (g:=g) (w:=w) (t:=s.index) (ds:=Sm.cells s) (j:=5) h1 h2 Z hw hx.1 (by omega) hg) Z Z Z Z Z Z (B0:=78000) Z Z (am ?_)
 refine jn (ae (ac (jc Z (jn (zc Z (fun z80=>?_) (fun z80=>?_))))))
 exact absurd (bt z80) (by have:=hs3 (bt z71);omega)
 refine af (ac (jb Z (ji Z (hp (f6 O Z Z Z Z Z Z Z Z Z (by first|omega|(simp at *;omega)) (by first|omega|(simp at *;omega)) (by first|omega|(simp at *;omega)) (by first|omega|(dsimp only;omega)|(simp only[bo]at *;omega)) (by first|omega|(simp at *;omega)) Z Z Z) Z (am ?_)))))
 refine js Z (jl Z (am ?_))
 refine jo Z (am ?_)
 refine aN (jd Z (db Z Z (hp (bL (ex:=[.int .i64 0]) (xs':=((List.replicate w.sym 0++[1]:List Int)).map (fun n=>[D.int .i64 n])) O Z Z Z Z Z Z Z Z Z Z Z Z Z Z ph pg) Z (am ?_))))
 refine aN (an (Ent.freeze 87 (e':=[(0,_),(6,_),(8,_),(9,_),(11,_)]) Z (fe [0,6,8,9,11] Z) (cb Z (.cons Z (.box (ck Z (.cons (.row Z (by simp)) .nil))) (.skip (cb Z (cw Z (cb Z (cw Z .nil)))))))) ?_)
 refine jb Z (ip O (B0:=97000) Z Z Z Z (sM (ts:=w.vars) h1 h2) (ab Z) Z Z Z Z Z (am ?_))
 refine js Z (jo Z (am ?_))
 refine jn (ae (fJ [_,_,_,_,_,_,_,_,_] [p0,pz [0],p0,pz [2],pz [2,3],pz [2,3,4],p0,pz (rg 0 7),pe (rg 0 8) 0] [8] [_,_] (k4 Z (kc Z (kc Z (kc Z (ai (vI Z Z) (ai (cE (ex:=Tm.cells (w.vars.getD s.var.toNat default)) (xs':=(w.vars.set s.var.toNat (iC w.sym)).map Tm.cells) O Z Z Z Z Z Z Z Z Z Z Z Z Z Z Z (GH (by omega) (by omega)) (GB (v:=(iC w.sym)) (by omega) Z) Z) trivial)))))) ?_))
 refine jw [0,6,8,9,11] Z (bJ ?_)
 refine ag (jb Z (ji Z (js Z (jo Z (am ?_)))))
 refine jn ?_
 rw[ed,bN,if_neg (b9 z52),if_pos (bt z71),if_neg (by omega)]
 exact⟨Z,((((ah [6,8,500,501,78006,97000] (e':=[(0,_),(6,_),(8,_)]) Z Z ⟨Z,Z,Z,tv⟩ Z).trans (Ent.freeze 97000 (e':=[(0,_),(6,_),(8,_)]) Z (fe [0,6,8] Z) (.cons Z (.box (.cons (.row Z (by simp[hv])) (fk Z))) (cb Z (cb Z (cw Z (cw Z (.skip .nil)))))))).trans (aa 501 901 Z Z)).trans (aa 78006 902 Z Z)).trans (Ent.to ⟨Z,Z,Z,tv⟩ Z)⟩
 refine ac (jb Z (jn (zc Z (fun z110=>?_) (fun z110=>?_))))
 refine ag (jd Z (ao O [500,501,502,6] (bin:=[gA (pP pre b post) (dB fl) frm g 1 2,bU g.paths,bV g.conds,hB w]) Z Z Z Z (zR (p:=(pP pre b post)) (fl:=(dB fl)) (frm:=frm) (g:=g) (w:=w) (t:=s.index) (ds:=Sm.cells s) (j:=5) h1 h2 Z hw hx.1 (by omega) hg) Z Z Z Z Z Z (B0:=117000) Z Z (am ?_)))
 refine jn ?_
 rw[ed,bN,if_neg (b9 z52),if_neg (b9 z71),if_pos (bt z110)]
 exact⟨Z,(((ah [6,8,500,501,117006] (e':=[(0,_),(6,_),(8,_)]) Z Z ⟨Z,Z,Z,tv⟩ Z).trans (aa 501 901 Z Z)).trans (aa 117006 902 Z Z)).trans (Ent.to ⟨Z,Z,Z,tv⟩ Z)⟩
 refine ac (jb Z (jn (zc Z (fun z117=>?_) (fun z117=>?_))))
 refine jw [53,51,9,8,37,6,0,1,2,3] Z (rk [_,_,_,_,_,_,_,_,_,_,_] [p0,pz [0],pe [0,1] 0,pn [] 0 1,pn [3] 0 1,pn [3,4] 0 1,pn [3,4,5] 0 1,pn [3,4,5,6] 0 1,pe [0,1,2,3,4,5,6,7] 1,pn [0,1,2,3,4,5,6,7,8] 2 2,pe [0,1,2,3,4,5,6,7,8,9] 2] [2,8,10] 7 126 (.row false 1 [[.int .i64 s.event]]) [_,_] [_,_] [[],[122000],[]] (kf Z Z Z (kf Z Z Z (ai (ai (au (az (dg O (B0:=122000) Z Z Z Z (B4 (xs:=w.ev) h1 h2) (ab Z) Z Z Z Z Z)) (az (dg O (B0:=122000) Z Z Z Z (B4 (xs:=w.ev) h1 h2) (ab Z) Z Z Z Z Z))) Z) (ai (kf Z Z Z (kg Z Z Z)) (ai (kf Z Z Z (kg Z Z Z)) (ai (kf Z Z Z (kg Z Z Z)) (ai (kf Z Z Z (kg Z Z Z)) (ai (ai (ai (az (cD O Z Z Z Z Z Z Z Z Z Z Z Z Z Z)) Z) (ai (az (cD O Z Z Z Z Z Z Z Z Z Z Z Z Z Z)) Z)) (ai (ai (au trivial (bW (own:=true) (xs:=w.ev.map (fun n=>[D.int .i64 n])) (ys:=[[.int .i64 s.event]]) (zs:=(w.ev++[s.event]).map (fun n=>[D.int .i64 n])) (n:=(w.ev++[s.event]).length) O Z Z Z Z Z Z Z Z Z Z Z Z Z Z Z Z (.row Z (bA _).symm) (.whole Z Z (.inl (by simp[Scal,D.scalar]))) (by simp) Z (by simp;omega) (by simp;omega) (by simp) (by simp) Z)) Z) (ai (ai (au trivial (V Z)) Z) (ai (ai (au trivial (az (eS Z Z Z))) Z) trivial))))))))))) ?_)
 rw[ed,bN,if_neg (b9 z52),if_neg (b9 z71),if_neg (b9 z110),if_pos (bt z117)]
 exact⟨Z,((((ah [6,8,500,501,502,127] (e':=[(0,_),(6,_),(8,_)]) Z Z ⟨Z,Z,Z,tv⟩ Z).trans (Ent.freeze 127 (e':=[(0,_),(6,_),(8,_)]) Z (fe [0,6,8] Z) (.cons Z (.box (ck Z (ck Z (ck Z (.cons (.row Z (by simp)) .nil))))) (cb Z (cb Z (cw Z (cw Z (.skip .nil)))))))).trans (aa 501 901 Z Z)).trans (aa 502 902 Z Z)).trans (Ent.to ⟨Z,Z,Z,tv⟩ Z)⟩
 refine ac (jb Z (jn (zc Z (fun z129=>?_) (fun z129=>?_))))
 refine ac (jd Z (ao O [500,501,502,6] (bin:=[gA (pP pre b post) (dB fl) frm g 1 2,bU g.paths,bV g.conds,hB w]) Z Z Z Z (rF (p:=(pP pre b post)) (fl:=(dB fl)) (frm:=frm) (g:=g) (w:=w) (t:=s.sum) (ds:=Sm.cells s) (j:=3) h1 h2 Z hw hs.1 (by omega)) Z Z Z Z Z Z (B0:=136000) Z Z (am ?_)))
 refine jl Z (am ?_)
 refine jo Z (am ?_)
 refine aN (jb Z (ao O [500,501,502,6] (bin:=[gA (pP pre b post) (dB fl) frm (aU w s.sum g) 1 2,bU (aU w s.sum g).paths,bV (aU w s.sum g).conds,hB w]) Z Z Z Z (xh (p:=(pP pre b post)) (fl:=(dB fl)) (frm:=frm) (g:=(aU w s.sum g)) (w:=w) (t:=(aG s.sum w.vars).1) h1 h2 (by simp only[aU,Gs.flag,Gs.goal,cp,du];omega)) Z Z Z Z Z Z (B0:=139000) Z Z (am ?_)))
 refine jn (ag (jb Z (ao O [500,501,139006,6] (bin:=[gA (pP pre b post) (dB fl) frm ((aU w s.sum g).goal w (aG s.sum w.vars).1) 1 2,bU ((aU w s.sum g).goal w (aG s.sum w.vars).1).paths,bV ((aU w s.sum g).goal w (aG s.sum w.vars).1).conds,hB w]) Z Z Z Z (t7 (p:=(pP pre b post)) (fl:=(dB fl)) (frm:=frm) (g:=((aU w s.sum g).goal w (aG s.sum w.vars).1)) (w:=w) (t:=(aG s.sum w.vars).1) h1 h2 hl) Z Z Z Z Z Z (B0:=142000) Z Z (am ?_))))
 refine jo Z (am ?_)
 refine jn ?_
 rw[ed,bN,if_neg (b9 z52),if_neg (b9 z71),if_neg (b9 z110),if_neg (b9 z117),if_pos (bt z129)]
 exact⟨Z,(((ah [6,8,500,501,139006] (e':=[(0,_),(6,_),(8,_)]) Z Z ⟨Z,Z,Z,tv⟩ Z).trans (aa 501 901 Z Z)).trans (aa 139006 902 Z Z)).trans (Ent.to ⟨Z,Z,Z,tv⟩ Z)⟩
 refine ae (ac (jb Z (jn (zc Z (fun z142=>?_) (fun z142=>?_)))))
 exact absurd (bt z142) (by omega)
 refine ag (jb Z (jn (zc Z (fun z142=>?_) (fun z142=>?_))))
 exact absurd (bt z142) (by omega)
 refine af ?_
 rw[ed,bN,if_neg (b9 z52),if_neg (b9 z71),if_neg (b9 z110),if_neg (b9 z117),if_neg (b9 z129)]
 exact⟨Z,(((ah [6,8,500,501,502] (e':=[(0,_),(6,_),(8,_)]) Z Z ⟨Z,Z,Z,tv⟩ Z).trans (aa 501 901 Z Z)).trans (aa 502 902 Z Z)).trans (Ent.to ⟨Z,Z,Z,tv⟩ Z)⟩
 refine ag (jd Z (ao O [500,901,902] (bin:=[gA (pP pre b post) (dB fl) frm d.2 1 2,bU d.2.paths,bV d.2.conds]) Z Z Z Z (ih) Z Z Z Z Z Z (B0:=206000) Z Z (am ?_)))
 refine jn ?_
 show _∧_
 refine⟨.inr Z,_,(aa 206005 505 Z Z).trans (aa 206006 506 Z Z),_,Z,Z,Z⟩
theorem wG{s:Sm}(hb:g.bad=false)(hi:i<fl.length)(he:fl.getD i default=⟨(k:Nat),nx,ot⟩)(hk:k<b.length)(hbs:b.getD k default=s)(hk3:s.kind=3)(hv:w.vars.length=4)(hw:CtxOk w.vars)(hx:s.index.ok=true∧s.index.xs.length≤4)(hg:g.conds.length+2≤L)(hsy:w.sym=10):MQ h1 h2 83 [.c (.pt 0 0 0),eI (i:Nat),hA w,eB first] (gH (pP pre b post) (dB fl) frm g) (aO (.tup []) (kA (pP pre b post) (dB fl) frm (⟨(ce bp w s.index g).paths,(ce bp w s.index g).conds,true⟩:Gs))):=by
 refine MC.shift 500 Z (MC.keep [500,505,506] (bs:=[gA (pP pre b post) (dB fl) frm (⟨(ce bp w s.index g).paths,(ce bp w s.index g).conds,true⟩:Gs) 505 506,bU (⟨(ce bp w s.index g).paths,(ce bp w s.index g).conds,true⟩:Gs).paths,bV (⟨(ce bp w s.index g).paths,(ce bp w s.index g).conds,true⟩:Gs).conds]) Z Z (jH 206 [500,501,502] h1 h2 Tryz.func83 Z fun O hF=>?_))
 refine bJ ?_
 refine ac (jx Z (am ?_))
 refine jn (ae (ac (jd Z (jn (zc Z (fun z19=>?_) (fun z19=>?_))))))
 exact absurd z19 (by rw[hb];decide)
 refine af (ae (ac (jb Z (jn (zc Z (fun z21=>?_) (fun z21=>?_))))))
 exact absurd (bt z21) (by omega)
 refine af (ac (jd Z (js Z (st ((aQ O Z Z Z Z Z Z Z Z (dx hi)).cast (v':=ptr (Fl.cells ⟨(k:Nat),nx,ot⟩)) (by rw[he])) Z (js Z (jl Z (am ?_)))))))
 refine jo Z (am ?_)
 refine jn (ae (fJ [_,_,_,_,_,_,_,_,_,_,_] [p0,pz [0],pz [0,1],pz [0,1,2],pz (rg 0 4),pz (rg 0 5),pz (rg 0 6),p0,pz [7],pz (rg 0 9),pz (rg 0 10)] [] [_] (k4 Z (k4 Z (kc Z (ai ((aQ O Z Z Z Z Z Z Z Z (dx hk)).cast (v':=ptr (Sm.cells s)) (by rw[hbs])) (kc Z trivial))))) ?_))
 refine jw [9,8,37,6,0,1,2,3] Z (bJ ?_)
 refine ae (ac (jd Z (jn (ak (ac (jb Z (jn (zc Z (fun z52=>?_) (fun z52=>?_)))))))))
 exact absurd (bt z52) (by omega)
 refine ac (jb Z (jn (zc Z (fun z71=>?_) (fun z71=>?_))))
 refine ac (jd Z (ao O [500,501,502,6] (bin:=[gA (pP pre b post) (dB fl) frm g 1 2,bU g.paths,bV g.conds,hB w]) Z Z Z Z (zR (p:=(pP pre b post)) (fl:=(dB fl)) (frm:=frm) (g:=g) (w:=w) (t:=s.index) (ds:=Sm.cells s) (j:=5) h1 h2 Z hw hx.1 (by omega) hg) Z Z Z Z Z Z (B0:=78000) Z Z (am ?_)))
 refine jn (ae (ac (jc Z (jn (zc Z (fun z80=>?_) (fun z80=>?_))))))
 refine ac (jc Z (jo Z (am ?_)))
 refine jr ?_
 refine⟨.inl Z,_,(aa 501 505 Z Z).trans (aa 78006 506 Z Z),_,Z,Z,Z⟩
 exact absurd (b9 z80) (by omega)
 exact absurd (b9 z71) (by omega)
theorem lQ{g:Gs}:g.flag true=⟨g.paths,g.conds,true⟩:=by simp[Gs.flag]
theorem io{g:Gs}:g.flag false=g:=by simp[Gs.flag]
theorem eL: ∀{t:Tr},1≤t.nodes
 | .node _ _ _=>by simp[Tr.nodes]
structure EOk(E:Pe)(b:List Sm):Prop where
  post:TsOk E.post∧E.post.length≤6
  st: ∀k,k<b.length→bi (b.getD k default)=true
  lf: ∀k,k<b.length→(b.getD k default).kind=8→E.lf (bb b k)=(b.getD k default).facts
  num: ∀k:Nat,k<b.length→(b.getD k default).kind=8→E.num (k:Nat)=bb b k
theorem ta{t:Tm}(h:t.term=true):t.ok=true∧t.xs.length≤4:=by
 unfold Tm.term at h
 simp only[bC,decide_eq_true_eq]at h;exact⟨h.1,by omega⟩
theorem mW{ts:List Tm}(h:terms ts 6=true):TsOk ts∧ts.length≤6:=by
 unfold terms at h
 simp only[bC,decide_eq_true_eq,List.all_eq_true]at h
 exact⟨fun t ht=>ta (h.1 t ht),by omega⟩
theorem iN{s:Sm}(h:bi s=true):TsOk s.facts∧s.facts.length≤6:=by
 refine mW ?_
 unfold bi rv at h
 cases h1:s.sum.term<;>cases h2:s.index.term<;>cases h3:terms s.facts 6<;>simp[h1,h2,h3]at h ⊢
theorem GOk.end{frm:Int}{w:Pw}{to:Int}{fs:List Tm}{n m:Nat}{g:Gs}(h:GOk n g)(hb:g.bad=false)(hf:fs.length≤6):GOk (n+rn m) (dy frm w to fs g):=
  (EM h hb).le (by have:=v9 (m:=m);omega)
theorem gZ{E:Pe}{b:List Sm}{fl:List Fl}(hE:EOk E b){la:dv}{frm:Int}: ∀{n:Nat} {r:List Fr} {w:Pw} {g:Gs} {c:Nat} {i:Int},Pl b fl i r→GOk c g→GOk (c+rn (aF r)) (eM la E frm n r w g)
 | 0,r,w,g,c,i,hp,hg=>hg.le (Nat.le_add_right _ _)
 | n + 1,r,w,g,c,i,hp,hg=>by
  cases hb:g.bad with
  | true=>rw[cT hb];exact hg.le (Nat.le_add_right _ _)
  | false=>
   cases hp with
   | nil=>rw[f5 hb];exact hg.end hb hE.post.2
   | lp hi hs hk h8=>rw[i8 hb,hE.lf _ hk h8];exact hg.end hb (iN (hE.st _ hk)).2
   | @leaf i k r hi hs hk h0 h=>
    rw[e9 hb]
    refine(gZ hE (n:=n) h (tk hg)).le ?_
    have:=qE (m:=aF r)
    simp only[aF,Fr.nodes,Tr.nodes,Trs.nodes,Nat.add_zero]
    rw[Nat.add_comm 1];omega
   | @seq i k x y r h1 h=>
    rw[f3 hb h1]
    refine(gZ hE (n:=n) h hg).le ?_
    have:=cC (m:=aF (.st x:: .st y::r)) (n:=aF (.st (.node (b.getD k default) (k:Nat) [x,y])::r)) (by simp only[aF,Fr.nodes,Tr.nodes,Trs.nodes];omega)
    omega
   | @cond i k x y r hi hs hk h7 h1 h2=>
    rw[i9 hb (by omega)]
    have hx:=eL (t:=x);have hy:=eL (t:=y)
    refine(gZ hE (n:=n) h2 (gZ hE (n:=n) h1 hg.flag.flag.flag)).le ?_
    have e:=tC (m:=aF (.st (.node (b.getD k default) (k:Nat) [x,y])::r)-2)
    rw[show aF (.st (.node (b.getD k default) (k:Nat) [x,y])::r)-2+2=aF (.st (.node (b.getD k default) (k:Nat) [x,y])::r) by simp only[aF,Fr.nodes,Tr.nodes,Trs.nodes];omega]at e
    have e1:=cC (m:=aF (.st x::r)) (n:=aF (.st (.node (b.getD k default) (k:Nat) [x,y])::r)-2) (by simp only[aF,Fr.nodes,Tr.nodes,Trs.nodes];omega)
    have e2:=cC (m:=aF (.st y::r)) (n:=aF (.st (.node (b.getD k default) (k:Nat) [x,y])::r)-2) (by simp only[aF,Fr.nodes,Tr.nodes,Trs.nodes];omega)
    omega
   | loop hi hs hk h8=>rw[i7 hb];exact hg.end hb (iN (hE.st _ hk)).2
theorem iR{k:Int}(h:bl k=0):k≠1∧k≠7∧k≠8:=by
 refine⟨?_,?_,?_⟩<;>(rintro rfl;revert h;decide)
theorem nT{fl:List Fl}{i k:Nat}(hs:(fl.getD i default).stmt=(k:Nat)):fl.getD i default=⟨(k:Nat),(fl.getD i default).next,(fl.getD i default).other⟩:=by rw[←hs]
theorem lu{s:Sm}(h:bi s=true):(s.sum.ok=true∧s.sum.xs.length≤4)∧(s.index.ok=true∧s.index.xs.length≤4):=⟨ta (cV h).1,ta (cV h).2⟩
theorem vH{s:Sm}(h:bi s=true)(hk:s.kind=2∨s.kind=3):0≤s.var∧s.var≤3:=qc h (by unfold pL;rcases hk with h|h<;>rw[h]<;>decide)
theorem th{w:Pw}{t u:Tm}:(w.fact t).long=(w.fact u).long:=by simp[Pw.long,Pw.fact]
theorem pT{L:Nat}(h1:4096≤L)(h2:L≤1073741824){pre:List Tm}{b:List Sm}{fl:List Fl}{frm:Int}{E:Pe}(hE:EOk E b)(hbl:b.length≤1000): ∀{n:Nat} {r:List Fr} {w:Pw} {g:Gs} {c:Nat} {i:Int},Pl b fl i r→aF r<n→WOk n w→GOk c g→c+rn (aF r)≤L→
  MC Tryz.prog L 83 [.c (.pt 0 0 0),eI i,hA w,eB false] (gH (pP pre b E.post) (dB fl) frm g) (aO (.tup []) (kA (pP pre b E.post) (dB fl) frm (eM bp E frm n r w g)))
 | 0,r,w,g,c,i,hp,hn,hw,hg,hL=>absurd hn (Nat.not_lt_zero _)
 | n + 1,r,w,g,c,i,hp,hn,hw,hg,hL=>by
  have hge:=v9 (m:=aF r)
  have hgc:=hg.conds
  have hgp:=hg.paths
  cases hb:g.bad with
  | true=>rw[cT hb];exact yN h1 h2 hb
  | false=>
   cases hp with
   | nil=>rw[f5 hb];exact yM h1 h2 hb hw.ctx hw.vars hE.post.1 (by have:=hE.post.2;omega) (by omega)
   | @lp i k r hi hs hk h8=>
    rw[i8 hb,hE.lf _ hk h8]
    have hf:=iN (hE.st _ hk)
    exact q7 h1 h2 hb hi (nT hs) hk Z h8 hbl hw.ctx hw.vars hf.1 (by omega) (by omega)
   | @leaf i k r hi hs hk h0 h=>
    rw[e9 hb]
    have hst:=hE.st _ hk
    have hne:=iR h0
    have htm:=lu hst
    have hbd:=qE (m:=aF r)
    simp only[aF,Fr.nodes,Tr.nodes,Trs.nodes,Nat.add_zero,Nat.add_comm 1]at hL hn
    have hfa:=hw.facts;have hev:=hw.ev;have hsy:=hw.sym
    by_cases hfull:(b.getD k default).kind=3∧w.sym=10
    have e:(bN bp (b.getD k default) w g).2=⟨(ce bp w (b.getD k default).index g).paths,(ce bp w (b.getD k default).index g).conds,true⟩:=by
     unfold bN
     rw[if_neg (by omega),if_pos hfull.1,if_pos hfull.2,lQ]
    rw[cT (by rw[e]),e]
    exact wG h1 h2 hb hi (nT hs) hk Z hfull.1 hw.vars hw.ctx htm.2 (by omega) hfull.2
    exact wF h1 h2 hb hi (nT hs) hk Z hw.vars hw.ctx (vH hst) htm.1 htm.2 (by omega) (by omega) hsy (by omega) ⟨hne.2.1,hne.2.2⟩ (fun e=>by
     have: ¬w.sym=10:=fun e2=>hfull ⟨e,e2⟩
     omega) (pT h1 h2 hE hbl h (by omega) hw.leaf (tk hg) (by omega))
   | @seq i k x y r hk h=>
    rw[f3 hb hk]
    refine pT h1 h2 hE hbl h (by simp only[aF,Fr.nodes,Tr.nodes,Trs.nodes]at hn ⊢;omega) (hw.le (Nat.le_succ n)) hg ?_
    have:=cC (m:=aF (.st x:: .st y::r)) (n:=aF (.st (.node (b.getD k default) (k:Nat) [x,y])::r)) (by simp only[aF,Fr.nodes,Tr.nodes,Trs.nodes];omega)
    omega
   | @cond i k x y r hi hs hk h7 p1 p2=>
    have htm:=lu (hE.st _ hk)
    have hx:=eL (t:=x);have hy:=eL (t:=y)
    have hfa:=hw.facts
    have e:=tC (m:=aF (.st (.node (b.getD k default) (k:Nat) [x,y])::r)-2)
    rw[show aF (.st (.node (b.getD k default) (k:Nat) [x,y])::r)-2+2=aF (.st (.node (b.getD k default) (k:Nat) [x,y])::r) by simp only[aF,Fr.nodes,Tr.nodes,Trs.nodes];omega]at e
    have e1:=cC (m:=aF (.st x::r)) (n:=aF (.st (.node (b.getD k default) (k:Nat) [x,y])::r)-2) (by simp only[aF,Fr.nodes,Tr.nodes,Trs.nodes];omega)
    have e2:=cC (m:=aF (.st y::r)) (n:=aF (.st (.node (b.getD k default) (k:Nat) [x,y])::r)-2) (by simp only[aF,Fr.nodes,Tr.nodes,Trs.nodes];omega)
    rw[i9 hb (by omega),dC]
    have hg2:GOk c (((aU w (b.getD k default).sum g).flag (!(aL (aG (b.getD k default).sum w.vars).1).2)).flag (w.fact (aG (b.getD k default).sum w.vars).1).long):=hg.flag.flag.flag
    have hg3:=gZ hE (la:=bp) (frm:=frm) (n:=n) (w:=w.fact (aG (b.getD k default).sum w.vars).1) p1 hg2
    have hfe:=ug (la:=bp) (E:=E) (frm:=frm) (n:=n) (r:=.st x::r) (w:=w.fact (aG (b.getD k default).sum w.vars).1) (u:=w.fact (aL (aG (b.getD k default).sum w.vars).1).1) (g:=(aU w (b.getD k default).sum g).flag (!(aL (aG (b.getD k default).sum w.vars).1).2)) th
    refine By h1 h2 hb hi (nT hs) hk Z h7 hw.ctx hw.vars htm.1 (by omega) (g3:=eM bp E frm n (.st x::r) (w.fact (aG (b.getD k default).sum w.vars).1) (((aU w (b.getD k default).sum g).flag (!(aL (aG (b.getD k default).sum w.vars).1).2)).flag (w.fact (aG (b.getD k default).sum w.vars).1).long)) ?_ ?_
    exact pT h1 h2 hE hbl p1 (by simp only[aF,Fr.nodes,Tr.nodes,Trs.nodes]at hn ⊢;omega) hw.fact hg2 (by omega)
    rw[hfe]
    exact pT h1 h2 hE hbl p2 (by simp only[aF,Fr.nodes,Tr.nodes,Trs.nodes]at hn ⊢;omega) hw.fact hg3 (by omega)
   | @loop i k x r hi hs hk h8=>
    rw[i7 hb,hE.num _ hk h8]
    have hf:=iN (hE.st _ hk)
    exact q7 h1 h2 hb hi (nT hs) hk Z h8 hbl hw.ctx hw.vars hf.1 (by omega) (by omega)
theorem FE{E:Pe}(hE:EOk E b)(hbl:b.length≤1000){n:Nat}{r1 r2:List Fr}{c:Nat}(hb:g.bad=false)(hi:i<fl.length)(hs:(fl.getD i default).stmt=(k:Nat))(hk:k<b.length)(h8:(b.getD k default).kind=8)
  (p1:Pl b fl (fl.getD i default).next r1) (p2:Pl b fl (fl.getD i default).other r2) (hn1:aF r1<n) (hn2:aF r2<n) (hw:WOk (n+1) w) (hg:GOk c g) (hL:c+rn (aF r1)+rn (aF r2)≤L) :
  MQ h1 h2 83 [.c (.pt 0 0 0),eI (i:Nat),hA w,eB true] (gH (pP pre b E.post) (dB fl) frm g) (aO (.tup []) (kA (pP pre b E.post) (dB fl) frm (dC (eM bp E frm n r1) (eM bp E frm n r2) w (aG (b.getD k default).sum w.vars).1 (aU w (b.getD k default).sum g)))):=by
 have htm:=lu (hE.st _ hk)
 have hfa:=hw.facts
 rw[dC]
 have hg2:GOk c (((aU w (b.getD k default).sum g).flag (!(aL (aG (b.getD k default).sum w.vars).1).2)).flag (w.fact (aG (b.getD k default).sum w.vars).1).long):=hg.flag.flag.flag
 have hg3:=gZ hE (la:=bp) (frm:=frm) (n:=n) (w:=w.fact (aG (b.getD k default).sum w.vars).1) p1 hg2
 have hfe:=ug (la:=bp) (E:=E) (frm:=frm) (n:=n) (r:=r1) (w:=w.fact (aG (b.getD k default).sum w.vars).1) (u:=w.fact (aL (aG (b.getD k default).sum w.vars).1).1) (g:=(aU w (b.getD k default).sum g).flag (!(aL (aG (b.getD k default).sum w.vars).1).2)) th
 refine vg h1 h2 hb hi (nT hs) hk Z h8 hw.ctx hw.vars htm.1 (by omega) (g3:=eM bp E frm n r1 (w.fact (aG (b.getD k default).sum w.vars).1) (((aU w (b.getD k default).sum g).flag (!(aL (aG (b.getD k default).sum w.vars).1).2)).flag (w.fact (aG (b.getD k default).sum w.vars).1).long)) ?_ ?_
 exact pT h1 h2 hE hbl p1 hn1 hw.fact hg2 (by omega)
 rw[hfe]
 exact pT h1 h2 hE hbl p2 hn2 hw.fact hg3 (by omega)
end Go.Al
