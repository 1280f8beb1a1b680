/- Proofs of lists of sequents; the prover, in plain Lean. The reference proves. The program proves. Both prove the conditions of a program; what is found is accepted. -/
import Derived.Test.YtgaahipcjhjlbaaGreatH
import Derived.Test.YtgaahipcjhjlbaaGreatC
import Derived.Test.YtgaahipcjhjlbaaGreatM
set_option linter.unusedVariables false
set_option linter.unusedSimpArgs false
set_option maxRecDepth 10000
set_option maxHeartbeats 4000000
open Go.Proofs
namespace Go.Al
variable{L:Nat}(h1:4096≤L)(h2:L≤1073741824)
abbrev qg(ps:List (List Nd)):B:=.row true 1 (ps.map Df)
structure NdAt(n:Nat)(x:Nd):Prop where
  close:x.kind=1→n+1≤x.mul.length∧x.mul.length≤20
  fact:x.kind=3→0≤x.fact∧x.fact≤19
  kind:x.kind=1∨x.kind=2∨x.kind=3
structure MvOk(I5 to:Int→Int)(x:Nd):Prop where
  kind:x.kind=1∨x.kind=2∨x.kind=3
  fact:x.kind=3→0≤x.fact∧x.fact≤19
  len:x.kind=1→x.mul.length≤20
  cntb:x.kind=1→0≤I5 x.mul.length∧I5 x.mul.length≤1000
  rng:x.kind=1→∀i:Nat,i<x.mul.length→to i<I5 x.mul.length
abbrev dx(p:List Nd):B:=.row false 5 (p.map Nd.cells)
theorem D0{ts:List Nd}:MQ h1 h2 100 [nY ts] [] (Rows (.c (.rs 0 0 ts.length)) [zQ ts]):=by
 refine cH (jB 26 h1 h2 Tryz.func100 Z fun O hF=>?_)
 have hl:ts.length≤L:=by simpa[As.fact,A.fact,M.fact,D.fact,Ds.fact]using hF.1.1
 refine ae (js Z (ba (js Z (jn (af (ae (js Z (dh Z (js Z (jn (ao (aw (X:=Nat) (fun i=>⟨[(3,.c (.rs 900 0 i)),(6,nY ts),(7,eI ts.length),(8,eI i)],[(900,zQ (ts.take i))]⟩) (fun i=>i≤ts.length) (fun i=>ts.length-i) 0 ((cL 3 900 5 true Z Z).trans (Ent.to ⟨Z,Z,Z,Z,ap⟩ Z)) ?_ (fun i hi=>?_)))))))))))))
 exact cT _
 refine ae (js Z (jn (af (ah Z (fun z9=>?_) (fun z9=>?_)))))
 try simp only[bG]at z9
 refine aj (af (ao (ae (jD Z Z (js Z (jl Z (aq ?_)))))))
 refine jo Z (aq ?_)
 refine jn (af (fZ [_,_,_,_,_,_,_,_,_,_] [aF,ag [0],pe [0,1] 0,pn [] 0 1,pn [3] 0 1,pe (rg 0 5) 1,pn (rg 0 5) 1 2,pe (rg 0 7) 2,pn (rg 0 8) 3 3,pe (rg 0 9) 3] [2,5,7,9] [_,_,_,_,_] (kc Z (kc Z (ai (dA O (B0:=15000) Z Z Z Z (rP (t:=(ts.getD i default).term) h1 h2) (ac Z) Z Z Z Z Z) (ai (kc Z (V Z)) (ai (kc Z (V Z)) (ai (dA O (B0:=18000) Z Z Z Z (vL (xs:=(ts.getD i default).mul) h1 h2) (ac Z) Z Z Z Z Z) (ai (kc Z (V Z)) (ai (eS Z Z Z) (kc Z (ai (eS Z Z Z) trivial)))))))))) ?_))
 refine jw [5,11,9,3,6,7,8] Z (b0 ?_)
 refine ak (ab Z (ar (am [900,15000,18000] (e':=[(21,_),(20,_),(6,_),(7,_),(8,_)]) Z Z ⟨Z,Z,Z,Z,Z,ap⟩ Z) (aU (md (ds:=Nd.cells (ts.getD i default)) O Z Z Z Z Z Z Z Z Z Z (.d Z (.d Z (.d Z (.rs Z (bQ _).symm (.rs Z (bQ _).symm .nil))))) Z Z Z) Z (aq ?_))))
 refine aq ?_
 refine aU (cJ (zs:=(ts.take (i+1)).map Nd.cells) (n:=i+1) O Z Z Z Z Z Z Z Z Z Z Z Z Z Z Z Z (.row Z (by simp;omega)) Z Z (by decide) Z (by simp;omega) (by simp;omega) (by rw[List.take_succ_eq_append_getElem (by omega),List.map_append,aD (by omega)];rfl) (by simp;omega)) Z (aq ?_)
 refine aq ?_
 refine js Z (jn (ak (ji Z (js Z (jn ?_)))))
 refine⟨i+1,((am [23] (e':=[(3,_),(6,_),(7,_),(8,_)]) Z Z ⟨Z,Z,Z,Z,ap⟩ Z).trans (aa 23 900 Z Z)),by omega,by omega⟩
 try simp only[bG]at z9
 refine bg (ae (ab Z (jr ?_)))
 obtain rfl:i=ts.length:=by omega
 rw[List.take_length]
 refine⟨.inl Z,_,b9,_,Z,[900],by decide,Z,Z,Z⟩
structure Rw where
  c:Int
  xs:List Int
  ms:List Int
  deriving Inhabited
abbrev Rw.cells(r:Rw):List D:=[.int .i64 r.c,cY r.xs,cY r.ms]
abbrev Rw.tm(r:Rw):Tm:=⟨r.c,bM r.xs⟩
abbrev Rw.comb(r:Rw):List D:=[.int .i64 r.c,cY (bM r.xs),cY r.ms]
def kE(xs:List Int)(i:Nat):List Int:=(List.range i).map fun k=>xs.getD k 0
abbrev GK(xs:List Int):List Int:=kE xs 10
theorem ff{xs:List Int}{i:Nat}:(kE xs i).length=i:=by simp[kE]
theorem wB{xs:List Int}{i:Nat}:kE xs (i+1)=kE xs i++[xs.getD i 0]:=by simp[kE,List.range_succ]
def jJ(n i:Nat):List Int:=(List.replicate n (0:Int)).set i 1
theorem gU{n i:Nat}:(jJ n i).length=n:=by simp[jJ]
abbrev sS(ts:List Tm)(i:Nat):Rw:=⟨(ts.getD i default).c,GK (ts.getD i default).xs,jJ ts.length i⟩
def fT(ts:List Tm)(i:Nat):List Rw:=(List.range i).map (sS ts)
theorem cv{ts:List Tm}{i:Nat}:(fT ts i).length=i:=by simp[fT]
theorem oQ{ts:List Tm}{i:Nat}:fT ts (i+1)=fT ts i++[sS ts i]:=by simp[fT,List.range_succ]
abbrev ue(ts:List Tm):List Rw:=fT ts ts.length
theorem sr: ∀{ys:List Int},∃z:Nat,ys.reverse=(ys.dropWhile (· == 0)).reverse++List.replicate z 0
 | []=>⟨0,rfl⟩
 | y::ys=>by
  by_cases h:y=0
  subst h
  obtain⟨z,hz⟩:=sr (ys:=ys)
  refine⟨z+1,?_⟩
  rw[List.reverse_cons,hz,List.replicate_succ',gF]
  rfl
  refine⟨0,?_⟩
  rw[List.dropWhile_cons_of_neg (by simpa using h)]
  simp
theorem jM(xs:List Int): ∃z:Nat,xs=bM xs++List.replicate z 0:=by
 obtain⟨z,hz⟩:=sr (ys:=xs.reverse)
 rw[List.reverse_reverse]at hz
 exact⟨z,hz⟩
theorem e7(xs:List Int)(k:Nat):(bM xs).getD k 0=xs.getD k 0:=by
 obtain⟨z,hz⟩:=jM xs
 conv=>rhs;rw[hz]
 rw[List.getD_eq_getElem?_getD,List.getD_eq_getElem?_getD,List.getElem?_append]
 split
 rfl
 rename_i h
 rw[List.getElem?_eq_none (by omega),List.getElem?_replicate]
 split<;>rfl
theorem gE(xs:List Int):(bM xs).length≤xs.length:=by
 obtain⟨z,hz⟩:=jM xs
 have:=congrArg List.length hz
 rw[cG]at this
 omega
theorem AT{p:Int→Bool}(h0:p 0=true)(xs:List Int):(bM xs).all p=xs.all p:=by
 obtain⟨z,hz⟩:=jM xs
 conv=>rhs;rw[hz]
 rw[List.all_append]
 have:(List.replicate z (0:Int)).all p=true:=by
  rw[List.all_eq_true];intro x hx
  rw[List.eq_of_mem_replicate hx];exact h0
 rw[this,Bool.and_true]
theorem sq{f:Int→Int}: ∀{ys:List Int},(∀y∈ys,f y=0↔y=0)→(ys.map f).dropWhile (· == 0)=(ys.dropWhile (· == 0)).map f
 | [],_=>rfl
 | y::ys,h=>by
  by_cases h0:y=0
  have hf:f y=0:=(h y (by simp)).2 h0
  rw[List.map_cons,List.dropWhile_cons_of_pos (by simpa using hf),List.dropWhile_cons_of_pos (by simpa using h0)]
  exact sq fun z hz=>h z (by simp[hz])
  have hf:f y≠0:=fun e=>h0 ((h y (by simp)).1 e)
  rw[List.map_cons,List.dropWhile_cons_of_neg (by simpa using hf),List.dropWhile_cons_of_neg (by simpa using h0),List.map_cons]
theorem AR{f:Int→Int}{xs:List Int}(h: ∀x∈xs,f x=0↔x=0):bM (xs.map f)=(bM xs).map f:=by
 unfold bM
 rw[←List.map_reverse,sq (fun y hy=>h y (by simpa using hy)),List.map_reverse]
theorem wK{ys:List Int}:ys.dropWhile (· == 0)=[]∨∃y r,ys.dropWhile (· == 0)=y::r∧y≠0:=by
 induction ys with
 | nil=>exact .inl Z
 | cons y ys ih=>
  by_cases h:y=0
  rw[List.dropWhile_cons_of_pos (by simpa using h)];exact ih
  rw[List.dropWhile_cons_of_neg (by simpa using h)];exact .inr ⟨y,ys,rfl,h⟩
theorem AS(xs:List Int):bM xs=[]∨(bM xs).getD ((bM xs).length-1) default≠0:=by
 unfold bM
 rcases wK (ys:=xs.reverse)with h|⟨y,r,h,hy⟩
 rw[h];exact .inl Z
 rw[h]
 refine .inr ?_
 rw[List.reverse_cons]
 simp[hy]
theorem Dp{r:Rw}(hl:r.xs.length=10):r.tm.ok=(num r.c&&r.xs.all num):=by
 have h:r.tm.ok=true↔(num r.c&&r.xs.all num)=true:=by
  rw[EI,bS]
  have h1:=gE r.xs
  have h2:=AS r.xs
  have h3:(bM r.xs).all num=r.xs.all num:=AT (by decide) r.xs
  constructor
  rintro⟨a,b,_⟩
  exact⟨a,by rw[←h3];exact b⟩
  rintro⟨a,b⟩
  exact⟨a,by show(bM r.xs).all num=true;rw[h3];exact b,by show(bM r.xs).length≤10;omega,h2⟩
 cases h1:r.tm.ok<;>cases h2:(num r.c&&r.xs.all num)<;>simp_all
theorem nA(xs ys:List Int):bB (xs++ys)=ys.foldl (fun g x=>Nat.gcd g x.natAbs) (bB xs):=by unfold bB;rw[List.foldl_append]
theorem sf(xs:List Int)(x:Int):bB (xs++[x])=Nat.gcd (bB xs) x.natAbs:=by rw[nA];rfl
theorem Bx(x:Int):bB [x]=x.natAbs:=by show Nat.gcd 0 x.natAbs=_;rw[Nat.gcd_zero_left]
theorem Bv(x y:Int):bB [x,y]=Nat.gcd x.natAbs y.natAbs:=by show Nat.gcd (Nat.gcd 0 x.natAbs) y.natAbs=_;rw[Nat.gcd_zero_left]
theorem oZ: ∀{z g:Nat},(List.replicate z (0:Int)).foldl (fun g x=>Nat.gcd g x.natAbs) g=g
 | 0,g=>rfl
 | z+1,g=>by
  rw[List.replicate_succ,List.foldl_cons]
  show List.foldl _ (Nat.gcd g 0) _=g
  rw[Nat.gcd_zero_right];exact oZ
theorem yP(c:Int)(xs ms:List Int):bB (c::bM xs++ms)=bB (c::xs++ms):=by
 obtain⟨z,hz⟩:=jM xs
 conv=>rhs;rw[hz]
 show bB ((c::bM xs)++ms)=bB ((c::(bM xs++List.replicate z 0))++ms)
 rw[nA,nA (c::(bM xs++List.replicate z 0)),←List.cons_append,nA (c::bM xs) (List.replicate z 0),oZ]
theorem nI{B:Nat}: ∀{xs:List Int} {g:Nat},g≤B→(∀x∈xs,x.natAbs≤B)→xs.foldl (fun g x=>Nat.gcd g x.natAbs) g≤B
 | [],g,h,_=>h
 | x::xs,g,h,hx=>by
  rw[List.foldl_cons]
  refine nI ?_ (fun y hy=>hx y (by simp[hy]))
  have h1:=hx x (by simp)
  rcases Nat.eq_zero_or_pos x.natAbs with h0|h0
  show Nat.gcd g x.natAbs≤B
  rw[h0,Nat.gcd_zero_right];exact h
  exact Nat.le_trans (Nat.gcd_le_right _ h0) h1
theorem qB{B:Nat}{xs:List Int}(h: ∀x∈xs,x.natAbs≤B):bB xs≤B:=nI (cT _) h
theorem Bw{xs:List Int}{x:Int}(hx:x∈xs)(h:x≠0):0<bB xs:=by
 have:=iC hx
 rcases Nat.eq_zero_or_pos (bB xs)with h0|h0
 rw[h0]at this
 have:=Nat.eq_zero_of_zero_dvd this
 omega
 exact h0
theorem mo{x:Int}{g:Nat}(h:g ∣ x.natAbs)(hg:0<g):x.tdiv g=0↔x=0:=by
 constructor
 intro e
 have e1:(x.tdiv g).natAbs=0:=by rw[e];rfl
 rw[Int.natAbs_tdiv,Int.natAbs_natCast]at e1
 obtain⟨q,hq⟩:=h
 rw[hq]at e1
 change g*q/g=0 at e1
 rw[Nat.mul_div_cancel_left _ hg]at e1
 rw[e1,Nat.mul_zero]at hq
 omega
 intro e;subst e;simp
theorem og{x:Int}{g:Nat}(h:g ∣ x.natAbs)(hg:0<g)(hx:0<x):0<x.tdiv g:=by
 have h1:0≤x.tdiv g:=Int.tdiv_nonneg (by omega) (by omega)
 have h2:x.tdiv g≠0:=fun e=>by have:=(mo h hg).1 e;omega
 omega
def iR(n m:Int)(xs ys:List Int)(i:Nat):List Int:=(List.range i).map fun k=>n*xs.getD k default+m*ys.getD k default
theorem bV{n m:Int}{xs ys:List Int}{i:Nat}:(iR n m xs ys i).length=i:=by simp[iR]
theorem jQ{n m:Int}{xs ys:List Int}{i:Nat}:iR n m xs ys (i+1)=iR n m xs ys i++[n*xs.getD i default+m*ys.getD i default]:=by simp[iR,List.range_succ]
theorem pI{n m:Int}{xs ys:List Int}{i:Nat}{x:Int}(h:x∈iR n m xs ys i): ∃k,k<i∧x=n*xs.getD k default+m*ys.getD k default:=by
 unfold iR at h
 obtain⟨k,hk,rfl⟩:=List.mem_map.1 h
 exact⟨k,List.mem_range.1 hk,Z⟩
abbrev gI(p q:Rw)(k:Nat):Nat:=Nat.gcd (p.xs.getD k default).natAbs (q.xs.getD k default).natAbs
abbrev nR(p q:Rw)(k:Nat):Int:=(p.xs.getD k default).tdiv (gI p q k)
abbrev nQ(p q:Rw)(k:Nat):Int:=(-(q.xs.getD k default)).tdiv (gI p q k)
abbrev my(p q:Rw)(k:Nat):Rw:=⟨nQ p q k*p.c+nR p q k*q.c,iR (nQ p q k) (nR p q k) p.xs q.xs p.xs.length,iR (nQ p q k) (nR p q k) p.ms q.ms p.ms.length⟩
abbrev sU(r:Rw):Nat:=bB (r.c::r.xs++r.ms)
def nU(r:Rw)(g:Nat):Rw:=⟨r.c.tdiv g,r.xs.map (fun x=>x.tdiv g),r.ms.map fun x=>x.tdiv g⟩
abbrev eR(p q:Rw)(k:Nat):Rw:=nU (my p q k) (sU (my p q k))
def w9(r:Rw):Bool:=(num r.c&&r.xs.all num)&&r.ms.all num
structure ROk(n:Nat)(r:Rw):Prop where
  c:num r.c=true
  xs:r.xs.all num=true
  l:r.xs.length=10
  ms:r.ms.all co=true
  n:r.ms.length=n
  pos: ∃x∈r.ms,0<x
theorem yb{p:Int→Bool}{xs:List Int}(h:xs.all p=true)(h0:p 0=true)(k:Nat):p (xs.getD k default)=true:=by
 by_cases hk:k<xs.length
 rw[aD hk];exact List.all_eq_true.1 h _ (List.getElem_mem hk)
 rw[List.getD_eq_getElem?_getD,List.getElem?_eq_none (by omega)];exact h0
theorem ROk.get{n:Nat}{r:Rw}(h:ROk n r)(k:Nat): -1000000≤r.xs.getD k default∧r.xs.getD k default≤1000000:=I7.1 (yb h.xs (by decide) k)
theorem Kk{x:Int}:co x=true↔0≤x∧x≤1000000:=by simp[co]
theorem ROk.mul{n:Nat}{r:Rw}(h:ROk n r)(k:Nat):0≤r.ms.getD k default∧r.ms.getD k default≤1000000:=Kk.1 (yb h.ms (by decide) k)
theorem ROk.tm{n:Nat}{r:Rw}(h:ROk n r):r.tm.ok=true:=by rw[Dp h.l,h.c,h.xs];rfl
theorem tw{n:Nat}{p q:Rw}{k:Nat}(hp:ROk n p)(hq:ROk n q)(h1:0<p.xs.getD k default)(h2:q.xs.getD k default<0) :
    (0<gI p q k∧gI p q k≤1000000)∧(1≤nR p q k∧nR p q k≤1000000)∧(1≤nQ p q k∧nQ p q k≤1000000):=by
 have b1:=hp.get k
 have b2:=hq.get k
 have g1:0<gI p q k:=Nat.gcd_pos_of_pos_left _ (by omega)
 have g2:gI p q k≤(p.xs.getD k default).natAbs:=Nat.gcd_le_left _ (by omega)
 have d1:gI p q k ∣ (p.xs.getD k default).natAbs:=Nat.gcd_dvd_left _ _
 have d2:gI p q k ∣ (-(q.xs.getD k default)).natAbs:=by rw[Int.natAbs_neg];exact Nat.gcd_dvd_right _ _
 have m1:=og d1 g1 h1
 have m2:=og d2 g1 (x:= -(q.xs.getD k default)) (by omega)
 have m3:=eV (a:=p.xs.getD k default) (b:=gI p q k) (by omega)
 have m4:=eV (a:= -(q.xs.getD k default)) (b:=gI p q k) (by omega)
 exact⟨⟨g1,by omega⟩,⟨by show 1≤Int.tdiv _ _;omega,m3.2⟩,⟨by show 1≤Int.tdiv _ _;omega,m4.2⟩⟩
theorem gO{a b:Int}(h1: -1000000≤a∧a≤1000000)(h2: -1000000≤b∧b≤1000000): -1000000000000≤a*b∧a*b≤1000000000000:=
  fE (I7.2 h1) (I7.2 h2)
theorem s8{a b x y:Int}(h1:1≤a∧a≤1000000)(h2:1≤b∧b≤1000000)(hx: -1000000≤x∧x≤1000000)(hy: -1000000≤y∧y≤1000000) :
    -2000000000000≤a*x+b*y∧a*x+b*y≤2000000000000:=by
 have q1:=gO (a:=a) (b:=x) (by omega) hx
 have q2:=gO (a:=b) (b:=y) (by omega) hy
 omega
theorem Ak{n:Nat}{p q:Rw}{k:Nat}(hp:ROk n p)(hq:ROk n q)(h1:0<p.xs.getD k default)(h2:q.xs.getD k default<0) :
    (∀x∈(my p q k).c::(my p q k).xs++(my p q k).ms,-2000000000000≤x∧x≤2000000000000)∧(∀x∈(my p q k).ms,0≤x)∧(∃x∈(my p q k).ms,0<x):=by
 obtain⟨_,hm,hn⟩:=tw hp hq h1 h2
 refine⟨fun x hx=>?_,fun x hx=>?_,?_⟩
 rw[List.mem_append,List.mem_cons]at hx
 rcases hx with(rfl|hx)|hx
 exact s8 hn hm (I7.1 hp.c) (I7.1 hq.c)
 obtain⟨i,_,rfl⟩:=pI hx
 exact s8 hn hm (hp.get i) (hq.get i)
 obtain⟨i,_,rfl⟩:=pI hx
 have:=hp.mul i
 have:=hq.mul i
 exact s8 hn hm (by omega) (by omega)
 obtain⟨i,_,rfl⟩:=pI hx
 have:=Int.mul_nonneg (a:=nQ p q k) (b:=p.ms.getD i default) (by omega) (hp.mul i).1
 have:=Int.mul_nonneg (a:=nR p q k) (b:=q.ms.getD i default) (by omega) (hq.mul i).1
 omega
 obtain⟨x,hx,h0⟩:=hp.pos
 obtain⟨i,hi,rfl⟩:=List.mem_iff_getElem.1 hx
 refine⟨_,List.mem_map.2 ⟨i,List.mem_range.2 hi,Z⟩,?_⟩
 rw[←aD hi]at h0
 have:=Int.mul_pos (a:=nQ p q k) (b:=p.ms.getD i default) (by omega) h0
 have:=Int.mul_nonneg (a:=nR p q k) (b:=q.ms.getD i default) (by omega) (hq.mul i).1
 omega
theorem pM{n:Nat}{p q:Rw}{k:Nat}(hp:ROk n p)(hq:ROk n q)(h1:0<p.xs.getD k default)(h2:q.xs.getD k default<0) :
    0<sU (my p q k)∧sU (my p q k)≤2000000000000:=by
 obtain⟨a,_,⟨x,hx,h0⟩⟩:=Ak hp hq h1 h2
 exact⟨Bw (x:=x) (List.mem_append_right _ hx) (by omega),qB fun y hy=>by have:=a y hy;omega⟩
theorem uU{r:Rw}:sU r ∣ r.c.natAbs∧(∀x∈r.xs,sU r ∣ x.natAbs)∧∀x∈r.ms,sU r ∣ x.natAbs:=
  ⟨iC (by simp),fun x hx=>iC (by simp[hx]),fun x hx=>iC (by simp[hx])⟩
theorem q7{n:Nat}{p q:Rw}{k:Nat}(hp:ROk n p):(eR p q k).xs.length=10∧(eR p q k).ms.length=n:=
  ⟨by show(List.map _ (iR _ _ _ _ _)).length=10;rw[bQ,bV,hp.l],by show(List.map _ (iR _ _ _ _ _)).length=n;rw[bQ,bV,hp.n]⟩
theorem s6{n:Nat}{p q:Rw}{k:Nat}(hp:ROk n p)(hq:ROk n q)(h1:0<p.xs.getD k default)(h2:q.xs.getD k default<0)(h:w9 (eR p q k)=true):ROk n (eR p q k):=by
 obtain⟨a,b,⟨x,hx,h0⟩⟩:=Ak hp hq h1 h2
 have hg:=pM hp hq h1 h2
 have hd:=uU (r:=my p q k)
 simp only[w9,bS]at h
 refine⟨h.1.1,h.1.2,(q7 hp).1,?_,(q7 hp).2,?_⟩
 have h9:=List.all_eq_true.1 h.2
 rw[List.all_eq_true]
 intro y hy
 have h3:=I7.1 (h9 y hy)
 obtain⟨z,hz,rfl⟩:=List.mem_map.1 hy
 exact Kk.2 ⟨Int.tdiv_nonneg (b z hz) (by omega),h3.2⟩
 exact⟨_,List.mem_map.2 ⟨x,hx,Z⟩,og (hd.2.2 x hx) hg.1 h0⟩
theorem BD{r:Rw}(h:0<sU r):bM (r.xs.map fun x=>x.tdiv (sU r))=(bM r.xs).map fun x=>x.tdiv (sU r):=
  AR fun x hx=>mo (uU.2.1 x hx) h
def t4(p:Rw)(k b:Nat):List Rw→List Rw→Option (List Rw)
  | [],new=>some new
  | q :: qs,new=>if p.xs.getD k default≤0∨0≤q.xs.getD k default then t4 p k b qs new
    else if w9 (eR p q k)=true∧b+new.length≠60 then t4 p k b qs (new++[eR p q k])else none
def sO(k b:Nat)(rs:List Rw):List Rw→List Rw→Option (List Rw)
  | [],new=>some new
  | p :: ps,new=>match t4 p k b rs new with
    | none=>none
    | some y=>sO k b rs ps y
def dc(k:Nat)(rs:List Rw):List Rw:=rs.filter fun r=>decide (r.xs.getD k default=0)
abbrev fG(k:Nat)(rs:List Rw):Option (List Rw):=sO k (dc k rs).length rs rs []
def il:Nat→Nat→List Rw→List Rw→Option (List Rw×List Rw)
  | 0,_,rs,news=>some (rs,news)
  | f + 1,k,rs,news=>match fG k rs with
    | none=>none
    | some new=>il f (k+1) (dc k rs++new) (news++new)
abbrev dF(ts:List Tm):Option (List Rw×List Rw):=il 10 0 (ue ts) []
def AllR(n:Nat)(rs:List Rw):Prop:= ∀r∈rs,ROk n r
theorem AllR.nil{n:Nat}:AllR n []:=fun r h=>by cases h
theorem AllR.app{n:Nat}{a b:List Rw}(h1:AllR n a)(h2:AllR n b):AllR n (a++b):=fun r h=>by
 rcases List.mem_append.1 h with h|h
 exact h1 r h
 exact h2 r h
theorem AllR.snoc{n:Nat}{a:List Rw}{r:Rw}(h1:AllR n a)(h2:ROk n r):AllR n (a++[r]):=h1.app fun x hx=>by simp at hx;subst hx;exact h2
theorem AllR.get{n:Nat}{a:List Rw}(h:AllR n a){i:Nat}(hi:i<a.length):ROk n (a.getD i default):=by rw[aD hi];exact h _ (List.getElem_mem hi)
theorem uT{p:Rw}{k b:Nat}{rs new:List Rw}{j:Nat}(h:j<rs.length):t4 p k b (rs.drop j) new =
    if p.xs.getD k default≤0∨0≤(rs.getD j default).xs.getD k default then t4 p k b (rs.drop (j+1)) new
    else if w9 (eR p (rs.getD j default) k)=true∧b+new.length≠60 then t4 p k b (rs.drop (j+1)) (new++[eR p (rs.getD j default) k])else none:=by
 rw[List.drop_eq_getElem_cons h,aD h];rfl
theorem xQ{p:Rw}{k b:Nat}{rs new:List Rw}{j:Nat}(h:rs.length≤j):t4 p k b (rs.drop j) new=some new:=by
 rw[List.drop_of_length_le h];rfl
theorem nz{k b:Nat}{rs new:List Rw}{i:Nat}(h:i<rs.length):sO k b rs (rs.drop i) new =
    match t4 (rs.getD i default) k b rs new with
    | none=>none
    | some y=>sO k b rs (rs.drop (i+1)) y:=by
  rw[List.drop_eq_getElem_cons h,aD h];rfl
theorem xS{k b:Nat}{rs new:List Rw}{i:Nat}(h:rs.length≤i):sO k b rs (rs.drop i) new=some new:=by
 rw[List.drop_of_length_le h];rfl
theorem wa{n:Nat}{p:Rw}{k b:Nat}(hp:ROk n p): ∀{qs new y:List Rw},AllR n qs→AllR n new→b+new.length≤60→t4 p k b qs new=some y→AllR n y∧b+y.length≤60
 | [],new,y,_,hn,hl,h=>by
  simp only[t4,ef]at h;subst h;exact⟨hn,hl⟩
 | q::qs,new,y,hq,hn,hl,h=>by
  have hqs:AllR n qs:=fun r hr=>hq r (by simp[hr])
  unfold t4 at h
  split at h
  exact wa hp hqs hn hl h
  rename_i h0
  have hb:0<p.xs.getD k default∧q.xs.getD k default<0:=⟨by omega,by omega⟩
  split at h
  rename_i h3
  exact wa hp hqs (hn.snoc (s6 hp (hq q (by simp)) hb.1 hb.2 h3.1)) (by rw[cG,dL];omega) h
  cases h
theorem Av{n k b:Nat}{rs:List Rw}(hr:AllR n rs): ∀{ps new y:List Rw},AllR n ps→AllR n new→b+new.length≤60→sO k b rs ps new=some y→AllR n y∧b+y.length≤60
 | [],new,y,_,hn,hl,h=>by
  simp only[sO,ef]at h;subst h;exact⟨hn,hl⟩
 | p::ps,new,y,hq,hn,hl,h=>by
  unfold sO at h
  split at h
  cases h
  rename_i z hz
  obtain⟨h1,h2⟩:=wa (hq p (by simp)) hr hn hl hz
  exact Av hr (fun r h=>hq r (by simp[h])) h1 h2 h
theorem gy{k:Nat}{rs:List Rw}:(dc k rs).length≤rs.length:=List.length_filter_le _ _
theorem Bq{n k:Nat}{rs:List Rw}(h:AllR n rs):AllR n (dc k rs):=fun r hr=>h r ((List.mem_filter.1 hr).1)
theorem xN{k i:Nat}{rs:List Rw}(h:i<rs.length)(h0:(rs.getD i default).xs.getD k default=0):dc k (rs.take (i+1))=dc k (rs.take i)++[rs.getD i default]:=by
 unfold dc
 rw[List.take_succ_eq_append_getElem h,List.filter_append,←aD h,List.filter_cons_of_pos (by simpa using h0)];rfl
theorem xO{k i:Nat}{rs:List Rw}(h:i<rs.length)(h0:(rs.getD i default).xs.getD k default≠0):dc k (rs.take (i+1))=dc k (rs.take i):=by
 unfold dc
 rw[List.take_succ_eq_append_getElem h,List.filter_append,←aD h,List.filter_cons_of_neg (by simpa using h0),List.filter_nil,List.append_nil]
theorem oi{n k:Nat}{rs new:List Rw}(h:AllR n rs)(hl:rs.length≤60)(hs:fG k rs=some new):AllR n (dc k rs++new)∧(dc k rs++new).length≤60∧AllR n new∧new.length≤60:=by
 have h1:=gy (k:=k) (rs:=rs)
 obtain⟨h2,h3⟩:=Av h h .nil (by simp only[List.length_nil];omega) hs
 exact⟨(Bq h).app h2,by rw[cG];exact h3,h2,by omega⟩
theorem ku{f k:Nat}{rs news new:List Rw}(h:fG k rs=some new):il (f+1) k rs news=il f (k+1) (dc k rs++new) (news++new):=by
 rw[il,h]
theorem kv{f k:Nat}{rs news:List Rw}(h:fG k rs=none):il (f+1) k rs news=none:=by
 rw[il,h]
theorem u7{n:Nat}: ∀{f k:Nat} {rs news a b:List Rw},AllR n rs→rs.length≤60→AllR n news→il f k rs news=some (a,b)→AllR n a∧a.length≤60∧AllR n b∧b.length≤news.length+60*f
 | 0,k,rs,news,a,b,h1,h2,h3,h=>by
  simp only[il,ef,Prod.mk.injEq]at h
  obtain⟨rfl,rfl⟩:=h
  exact⟨h1,h2,h3,by omega⟩
 | f + 1,k,rs,news,a,b,h1,h2,h3,h=>by
  cases hs:fG k rs with
  | none=>rw[kv hs]at h;cases h
  | some new=>
   rw[ku hs]at h
   obtain⟨g1,g2,g3,g4⟩:=oi h1 h2 hs
   obtain⟨e1,e2,e3,e4⟩:=u7 g1 g2 (h3.app g3) h
   rw[cG]at e4
   exact⟨e1,e2,e3,by omega⟩
structure Fs(ts:List Tm):Prop where
  ok: ∀t∈ts,t.ok=true
  len:ts.length≤14
theorem Fs.ctx{ts:List Tm}(h:Fs ts):CtxOk ts:=⟨h.ok,by have:=h.len;omega⟩
theorem Fs.get{ts:List Tm}(h:Fs ts){i:Nat}(hi:i<ts.length):(ts.getD i default).ok=true:=h.ctx.get hi
theorem Fs.snoc{ts:List Tm}{t:Tm}(h:Fs ts)(ht:t.ok=true)(hl:ts.length≠14):Fs (ts++[t]):=⟨fun u hu=>by
 rcases List.mem_append.1 hu with hu|hu
 exact h.ok u hu
 simp at hu;subst hu;exact ht,by have:=h.len;rw[cG,dL];omega⟩
theorem Fs.all{ts:List Tm}(h:Fs ts):fS ts 14=true:=by
 have:=h.len
 simp only[fS,bS,decide_eq_true_eq,List.all_eq_true]
 exact⟨h.ok,by omega⟩
theorem Cv{n i:Nat}:(jJ n i).all co=true:=by
 rw[List.all_eq_true]
 intro x hx
 rcases List.mem_or_eq_of_mem_set hx with h|h
 rw[List.eq_of_mem_replicate h];decide
 rw[h];decide
theorem xF{ts:List Tm}(h:Fs ts){i:Nat}(hi:i<ts.length):ROk ts.length (sS ts i):=by
 have ht:=Small.of (h.get hi)
 refine⟨ht.c,?_,ff,Cv,gU,⟨1,?_,by decide⟩⟩
 rw[List.all_eq_true]
 intro x hx
 obtain⟨k,_,rfl⟩:=List.mem_map.1 hx
 exact ht.get k
 exact List.mem_iff_getElem.2 ⟨i,by rw[gU];exact hi,by simp[jJ]⟩
theorem qp{ts:List Tm}(h:Fs ts):AllR ts.length (ue ts):=fun r hr=>by
 obtain⟨i,hi,rfl⟩:=List.mem_map.1 hr
 exact xF h (List.mem_range.1 hi)
theorem Bf{xs:List Int}(h:xs.length≤10)(he:xs=[]∨xs.getD (xs.length-1) default≠0):bM (GK xs)=xs:=by
 have h1:GK xs=xs++List.replicate (10-xs.length) 0:=by
  refine List.ext_getElem (by simp[kE];omega) fun k h2 h3=>?_
  rw[List.getElem_append]
  have h5:(GK xs)[k]=xs.getD k 0:=by simp[kE]
  rw[h5]
  split
  rename_i h4;simp[h4]
  rename_i h4;simp[Nat.not_lt.1 h4]
 rw[h1]
 have h2: ∀z:Nat,bM (xs++List.replicate z 0)=bM xs:=by
  intro z
  induction z with
  | zero=>simp
  | succ z ih=>rw[List.replicate_succ',←gF,lS,ih]
 rw[h2,rY he]
theorem CC{ts:List Tm}(h:Fs ts){i:Nat}(hi:i<ts.length):(sS ts i).tm=ts.getD i default:=by
 obtain⟨_,_,h3,h4⟩:=EI.1 (h.get hi)
 show(⟨(ts.getD i default).c,bM (GK (ts.getD i default).xs)⟩:Tm)=_
 rw[Bf h3 h4]
theorem jT{ts:List Tm}(h:Fs ts){a b:List Rw}(he:dF ts=some (a,b)):AllR ts.length a∧a.length≤60∧AllR ts.length b∧b.length≤600:=by
 have:=h.len
 obtain⟨h1,h2,h3,h4⟩:=u7 (qp h) (by rw[cv];omega) .nil he
 exact⟨h1,h2,h3,by simpa using h4⟩
def ij:List Rw→Option Rw
  | []=>none
  | r::rs=>if r.c<0 then some r else ij rs
theorem rc{rs:List Rw}{i:Nat}(h:i<rs.length):ij (rs.drop i)=if(rs.getD i default).c<0 then some (rs.getD i default)else ij (rs.drop (i+1)):=by
 rw[List.drop_eq_getElem_cons h,aD h];rfl
theorem sk{rs:List Rw}{i:Nat}(h:rs.length≤i):ij (rs.drop i)=none:=by rw[List.drop_of_length_le h];rfl
def dE(ts:List Tm):List Int×Bool:=match dF ts with
  | none=>([],false)
  | some z=>match ij z.1 with
    | none=>([],false)
    | some r=>(r.ms,true)
theorem ou: ∀{rs:List Rw} {r:Rw},ij rs=some r→r∈rs
 | [],r,h=>by cases h
 | x::rs,r,h=>by
  unfold ij at h
  split at h
  simp only[ef]at h;subst h;simp
  exact List.mem_cons_of_mem _ (ou h)
theorem tu{ts:List Tm}(h:Fs ts)(h2:(dE ts).2=true):(dE ts).1.all co=true∧(dE ts).1.length=ts.length:=by
 unfold dE at h2 ⊢
 split at h2
 cases h2
 rename_i z hz
 split at h2
 cases h2
 rename_i r hr
 have:=(jT h (a:=z.1) (b:=z.2) hz).1 r (ou hr)
 exact⟨this.ms,this.n⟩
def iq(ts:List Tm)(t:Tm):Bool:=ts.any fun u=>decide (u=t)
def B3:Tm×Bool:=(⟨0,[]⟩,false)
def aM(ts:List Tm)(t:Tm):Tm×Bool:=if bB t.xs<2∨t.c.tmod (bB t.xs)=0 then B3 else((cq t).1,(cq t).2&& !iq ts (cq t).1)
theorem fv{ts:List Tm}{t:Tm}(h:(aM ts t).2=true):(aM ts t).1.ok=true:=by
 unfold aM at h ⊢
 split at h
 cases h
 rename_i h1
 rw[if_neg h1]
 simp only[bS]at h
 exact lW h.1
def kF(ts:List Tm):List Rw→Option Rw
  | []=>none
  | r::rs=>if(aM ts r.tm).2=true then some r else kF ts rs
theorem rd{ts:List Tm}{rs:List Rw}{i:Nat}(h:i<rs.length):kF ts (rs.drop i)=if(aM ts (rs.getD i default).tm).2=true then some (rs.getD i default)else kF ts (rs.drop (i+1)):=by
 rw[List.drop_eq_getElem_cons h,aD h];rfl
theorem sl{ts:List Tm}{rs:List Rw}{i:Nat}(h:rs.length≤i):kF ts (rs.drop i)=none:=by rw[List.drop_of_length_le h];rfl
theorem j1{ts:List Tm}: ∀{rs:List Rw} {r:Rw},kF ts rs=some r→r∈rs∧(aM ts r.tm).2=true
 | [],r,h=>by cases h
 | x::rs,r,h=>by
  unfold kF at h
  split at h
  rename_i h1
  simp only[ef]at h;subst h;exact⟨by simp,h1⟩
  exact⟨List.mem_cons_of_mem _ (j1 h).1,(j1 h).2⟩
def fm(ts:List Tm):Option Rw:=match dF ts with
  | none=>none
  | some z=>kF ts z.2
theorem km{ts:List Tm}(h:Fs ts){r:Rw}(hr:fm ts=some r):ROk ts.length r∧(aM ts r.tm).2=true:=by
 unfold fm at hr
 split at hr
 cases hr
 rename_i z hz
 exact⟨(jT h (a:=z.1) (b:=z.2) hz).2.2.1 r (j1 hr).1,(j1 hr).2⟩
def pW(ts:List Tm):Nat→Nat→Option Nat
  | 0,_=>none
  | f+1,i=>if(aM ts (ts.getD i default)).2=true then some i else pW ts f (i+1)
abbrev f6(ts:List Tm):Option Nat:=pW ts ts.length 0
theorem lY{ts:List Tm}: ∀{f i j:Nat},pW ts f i=some j→i≤j∧j<i+f∧(aM ts (ts.getD j default)).2=true
 | 0,i,j,h=>by cases h
 | f+1,i,j,h=>by
  unfold pW at h
  split at h
  rename_i h1
  simp only[ef]at h;subst h;exact⟨da _,by omega,h1⟩
  obtain⟨a,b,c⟩:=lY h
  exact⟨by omega,by omega,c⟩
abbrev ew(i:Nat):Nd:=⟨3,(i:Int),⟨0,[]⟩,[]⟩
abbrev dH(t:Tm):Nd:=⟨2,0,t,[]⟩
abbrev dp(ms:List Int):Nd:=⟨1,0,⟨0,[]⟩,ms⟩
abbrev fj(r:Rw):List Int:=r.ms++[(bB r.tm.xs:Int)]
def j9 : Nat→List Tm→Option (List Nd×List Nd)
  | 0,_=>none
  | f + 1, ts=>match f6 ts with
    | some i=>if ts.length=14 then none else(j9 f (ts++[(aM ts (ts.getD i default)).1])).map fun z=>(ew i::z.1,z.2)
    | none => if(dE ts).2=true then some ([dp (dE ts).1],[])else match fm ts with
      | none=>none
      | some r=>if ts.length=14 then none else if(aX (aM ts r.tm).1).2=true then
          (j9 f (ts++[(aM ts r.tm).1])).map fun z=>(dH (aM ts r.tm).1::z.1,z.2++[dp (fj r)])else none
abbrev Wk:=List Nd×Bool
def iQ(b:Int)(s:Wk)(n:Nd):Wk:=if(s.1.length:Int)=b∨n.mul.all co=false then(s.1,true)else(s.1++[n],s.2)
def eU(ts:List Tm)(s:Wk):Wk:=(s.1,if ts.length=14 then true else s.2)
def jC (b : Int):Nat→List Tm→Wk→Wk
  | 0,_,s=>s
  | f + 1, ts,s=>if s.2=true then s else match f6 ts with
    | some i=>jC b f (ts++[(aM ts (ts.getD i default)).1]) (eU ts (iQ b s (ew i)))
    | none => if(dE ts).2=true then iQ b s (dp (dE ts).1)else match fm ts with
      | none=>(s.1,true)
      | some r=>if(aX (aM ts r.tm).1).2=true then
          iQ b (jC b f (ts++[(aM ts r.tm).1]) (eU ts (iQ b s (dH (aM ts r.tm).1)))) (dp (fj r))else(s.1,true)
theorem iG{b:Int}{f:Nat}{ts:List Tm}{s:Wk}(h:s.2=true):jC b f ts s=s:=by
 cases f with
 | zero=>rfl
 | succ f=>rw[jC,if_pos h]
theorem mX{b:Int}{s:Wk}{n:Nd}(hb:(s.1.length:Int)≤b):((iQ b s n).1.length:Int)≤b:=by
 unfold iQ
 split
 exact hb
 rename_i h
 simp only[cG,dL];omega
theorem mY{b:Int}: ∀{f:Nat} {ts:List Tm} {s:Wk},(s.1.length:Int)≤b→((jC b f ts s).1.length:Int)≤b
 | 0,ts,s,h=>h
 | f+1,ts,s,h=>by
  rw[jC]
  split
  exact h
  split
  exact mY (mX (s:=s) h)
  split
  exact mX h
  split
  exact h
  split
  exact mX (mY (mX (s:=s) h))
  exact h
theorem kp{b:Int}{s:Wk}{n:Nd}(h:s.2=true):(iQ b s n).2=true:=by
 unfold iQ
 split
 rfl
 exact h
theorem sY{b:Int}{N:List Nd}{n:Nd}(hm:n.mul.all co=true)(hb:(N.length:Int)<b):iQ b (N,false) n=(N++[n],false):=by
 unfold iQ
 rw[if_neg]
 rintro(h|h)
 simp only at h;omega
 rw[hm]at h;cases h
theorem nd{b:Int}{s:Wk}{n:Nd}(hb:(s.1.length:Int)=b):(iQ b s n).2=true:=by
 unfold iQ;rw[if_pos (.inl hb)]
theorem AD{n:Nat}{r:Rw}(h:ROk n r):(fj r).all co=true:=by
 rw[List.all_append,h.ms,Bool.true_and]
 have h1:bB r.tm.xs≤1000000:=by
  have:=pN (xs:=r.tm.xs) (Small.of h.tm).xs (da _)
  rwa[List.take_length]at this
 show(co (bB r.tm.xs:Int)&&true)=true
 rw[Bool.and_true]
 exact Kk.2 ⟨by omega,by omega⟩
theorem vP{b:Int}: ∀{f:Nat} {ts:List Tm} {N:List Nd},Fs ts→15≤f+ts.length→(N.length:Int)≤b→
    (∀z,j9 f ts=some z→(N.length+(z.1++z.2).length:Int)≤b→jC b f ts (N,false)=(N++(z.1++z.2),false))∧
    ((∀z,j9 f ts=some z→b<(N.length+(z.1++z.2).length:Int))→(jC b f ts (N,false)).2=true)
 | 0,ts,N,h,hf,hb=>by have:=h.len;omega
 | f + 1,ts,N,h,hf,hb=>by
  rw[j9,jC]
  simp only[Bool.false_eq_true,if_false]
  cases ht:f6 ts with
  | some i=>
   obtain⟨_,hi,hs⟩:=lY ht
   have hx:=fv hs
   simp only
   by_cases hl:ts.length=14
   have e:(jC b f (ts++[(aM ts (ts.getD i default)).1]) (eU ts (iQ b (N,false) (ew i)))).2=true:=by
    have:(eU ts (iQ b (N,false) (ew i))).2=true:=by unfold eU;rw[if_pos hl]
    rw[iG this];exact this
   rw[if_pos hl]
   exact⟨fun z hz=>(by cases hz),fun _=>e⟩
   rw[if_neg hl]
   have hfs:=h.snoc hx hl
   by_cases hN:(N.length:Int)<b
   have e:eU ts (iQ b (N,false) (ew i))=(N++[ew i],false):=by
    rw[sY Z hN];unfold eU;rw[if_neg hl]
   rw[e]
   obtain⟨q1,q2⟩:=vP (f:=f) (N:=N++[ew i]) (b:=b) hfs (by rw[cG,dL];omega) (by rw[cG,dL];omega)
   refine⟨fun z hz hzl=>?_,fun hno=>?_⟩
   obtain⟨y,hy,rfl⟩:=Option.map_eq_some_iff.1 hz
   rw[q1 y hy (by simp only[cG,eH,dL,List.length_nil]at hzl ⊢;omega)]
   simp
   refine q2 fun y hy=>?_
   have:=hno (ew i::y.1,y.2) (by rw[hy];rfl)
   simp only[cG,eH,dL,List.length_nil]at this ⊢;omega
   have e:(eU ts (iQ b (N,false) (ew i))).2=true:=by
    unfold eU;rw[if_neg hl];exact nd (by show(N.length:Int)=b;omega)
   rw[iG e]
   refine⟨fun z hz hzl=>?_,fun _=>e⟩
   obtain⟨y,hy,rfl⟩:=Option.map_eq_some_iff.1 hz
   simp only[cG,eH]at hzl;omega
  | none=>
   simp only
   by_cases hr:(dE ts).2=true
   rw[if_pos hr,if_pos hr]
   have hm:=(tu h hr).1
   refine⟨fun z hz hzl=>?_,fun hno=>?_⟩
   simp only[ef]at hz;subst hz
   simp only[cG,eH,List.length_nil]at hzl
   rw[sY hm (by omega)];rfl
   have:=hno _ Z
   simp only[cG,eH,List.length_nil]at this
   exact nd (by show(N.length:Int)=b;omega)
   rw[if_neg hr,if_neg hr]
   cases hc:fm ts with
   | none=>exact⟨fun z hz=>(by cases hz),fun _=>rfl⟩
   | some r=>
    obtain⟨hro,hsr⟩:=km h hc
    have hx:=fv hsr
    simp only
    by_cases ho:(aX (aM ts r.tm).1).2=true
    rw[if_pos ho,if_pos ho]
    by_cases hl:ts.length=14
    have e:(eU ts (iQ b (N,false) (dH (aM ts r.tm).1))).2=true:=by unfold eU;rw[if_pos hl]
    rw[if_pos hl,iG e]
    exact⟨fun z hz=>(by cases hz),fun _=>kp e⟩
    rw[if_neg hl]
    have hfs:=h.snoc hx hl
    by_cases hN:(N.length:Int)<b
    have e:eU ts (iQ b (N,false) (dH (aM ts r.tm).1))=(N++[dH (aM ts r.tm).1],false):=by
     rw[sY Z hN];unfold eU;rw[if_neg hl]
    rw[e]
    have hb2:((N++[dH (aM ts r.tm).1]).length:Int)≤b:=by rw[cG,dL];omega
    obtain⟨q1,q2⟩:=vP (f:=f) (N:=N++[dH (aM ts r.tm).1]) hfs (by rw[cG,dL];omega) hb2
    refine⟨fun z hz hzl=>?_,fun hno=>?_⟩
    obtain⟨y,hy,rfl⟩:=Option.map_eq_some_iff.1 hz
    simp only[cG,eH,dL,List.length_nil]at hzl
    rw[q1 y hy (by simp only[cG,eH,dL,List.length_nil];omega)]
    rw[sY (AD hro) (by simp only[cG,eH,dL,List.length_nil];omega)]
    simp
    cases hy:j9 f (ts++[(aM ts r.tm).1])with
    | none=>exact kp (q2 fun y hy'=>by rw[hy]at hy';cases hy')
    | some y=>
     have h1:=hno _ (by rw[hy];rfl)
     simp only[cG,eH,dL,List.length_nil]at h1
     by_cases hle:((N++[dH (aM ts r.tm).1]).length+(y.1++y.2).length:Int)≤b
     have h2:=q1 y hy hle
     simp only[cG,eH,dL,List.length_nil]at hle
     rw[h2]
     refine nd ?_
     simp only[cG,eH,dL,List.length_nil];omega
     exact kp (q2 fun y' hy'=>by rw[hy]at hy';simp only[ef]at hy';subst hy';omega)
    have e:(eU ts (iQ b (N,false) (dH (aM ts r.tm).1))).2=true:=by
     unfold eU;rw[if_neg hl];exact nd (by show(N.length:Int)=b;omega)
    rw[iG e]
    refine⟨fun z hz hzl=>?_,fun _=>kp e⟩
    obtain⟨y,hy,rfl⟩:=Option.map_eq_some_iff.1 hz
    simp only[cG,eH]at hzl;omega
    rw[if_neg ho,if_neg ho]
    refine⟨fun z hz hzl=>?_,fun _=>rfl⟩
    split at hz<;>cases hz
def cN(s:Sq)(b:Int):List Nd×Bool:=if(aX s.goal).2=true then
    match j9 (15-(s.facts.length+1)) (s.facts++[(aX s.goal).1])with
    | none=>([],false)
    | some z=>if((z.1++z.2).length:Int)≤b then(z.1++z.2,true)else([],false)
  else([],false)
def kN(b:Int):Bool:=decide (1≤b)&&decide (b≤60)
def jG(s:Sq)(b:Int):List Nd×Bool:=if(dW s&&kN b)=true then cN s b else([],false)
def zo(ss:List Sq):Bool:=ss.all dW&&decide ((ss.length:Int)≤60)
def jq(b:Int):List Sq→List (List Nd)
  | []=>[]
  | s::ss=>if(cN s b).2=true then(cN s b).1::jq b ss else[]
theorem vi{b:Int}: ∀{ss:List Sq},(∀s∈ss,(cN s b).2=true)→jq b ss=ss.map fun s=>(cN s b).1
 | [],_=>rfl
 | s::ss,h=>by rw[jq,if_pos (h s (by simp)),vi fun x hx=>h x (by simp[hx])];rfl
theorem vg{b:Int}: ∀{ss rs:List Sq},(∀s∈ss,(cN s b).2=true)→jq b (ss++rs)=(ss.map fun s=>(cN s b).1)++jq b rs
 | [],_,_=>rfl
 | s::ss,rs,h=>by rw[List.cons_append,jq,if_pos (h s (by simp)),vg fun x hx=>h x (by simp[hx])];rfl
theorem y3{b:Int}{ss:List Sq}{i:Nat}(hi:i<ss.length)(h: ∀j (hj:j<ss.length),j<i→(cN ss[j] b).2=true)(h2:(cN (ss.getD i default) b).2=false) :
    jq b ss=(ss.take i).map fun s=>(cN s b).1:=by
 conv=>lhs;rw[←List.take_append_drop i ss]
 rw[vg (fun s hs=>?_),List.drop_eq_getElem_cons hi,←aD hi,jq,if_neg (by rw[h2];decide),List.append_nil]
 obtain⟨j,hj,rfl⟩:=List.mem_iff_getElem.1 hs
 rw[List.length_take]at hj
 rw[List.getElem_take]
 exact h j (by omega) (by omega)
theorem sI{b:Int}{ss:List Sq}(h: ∀j (hj:j<ss.length),(cN ss[j] b).2=true):jq b ss=ss.map fun s=>(cN s b).1:=vi fun s hs=>by
 obtain⟨j,hj,rfl⟩:=List.mem_iff_getElem.1 hs
 exact h j hj
theorem od{t:Tm}(h:t.ok=true)(hg: ¬bB t.xs<2):(cq t).2=true:=by rw[←gt h,f8,if_neg hg]
variable{xs ys:List Int}
theorem IF:MQ h1 h2 186 [ce xs,ce ys] [] (Plain (eB (decide (xs=ys)))):=by
 refine aL ?_ Z
 refine jB 26 h1 h2 Tryz.func186 Z fun O hF=>?_
 have hl:xs.length≤L:=by simpa[As.fact,A.fact,M.fact,D.fact,Ds.fact]using hF.1.1
 have hl2:ys.length≤L:=by simpa[As.fact,A.fact,M.fact,D.fact,Ds.fact]using hF.2.1.1
 refine ae (js Z (jn (af (ae (js Z (dh Z (js Z (dh Z (js Z (jn (ah Z (fun z10=>?_) (fun z10=>?_))))))))))))
 try simp only[bG]at z10
 refine ae (js Z (jr ?_))
 refine aJ Z ?_
 rw[decide_eq_false (fun e=>by subst e;simp at z10)]
 try simp only[bG]at z10
 refine aj (af (ae (js Z (jn (ao (aw (X:=Nat) (fun i=>⟨[(0,ce xs),(1,ce ys),(5,eI i)],[]⟩) (fun i=>i≤xs.length∧∀j,j<i→xs[j]? = ys[j]?) (fun i=>xs.length-i) 0 (Ent.env ⟨Z,Z,Z,ap⟩) ?_ (fun i hi=>?_)))))))
 exact⟨cT _,fun j hj=>absurd hj (Nat.not_lt_zero j)⟩
 refine af (ae (ab Z (dh Z (js Z (jn (ah Z (fun z14=>?_) (fun z14=>?_)))))))
 try simp only[bG]at z14
 refine aj (af (ao (af (fZ [_,_,_,_,_,_,_,_,_] [aF,aF,ag [0,1],ag [0,1,2],aF,aF,ag [4,5],ag [4,5,6],ag (rg 0 8)] [] [_] (kc Z (kc Z (ai (vN Z) (kc Z (kc Z (kc Z (ai (vN Z) (kc Z (kc Z trivial))))))))) ?_))))
 refine ah Z (fun z25=>?_) (fun z25=>?_)
 try simp only[bG]at z25
 refine ae (js Z (jr ?_))
 refine aJ Z ?_
 rw[decide_eq_false (fun e=>by subst e;simp at z25)]
 try simp only[bG]at z25
 refine aj (ak (js Z (ji Z (js Z (jn ?_)))))
 refine⟨i+1,Ent.env ⟨Z,Z,Z,ap⟩,⟨by omega,fun j hj=>?_⟩,by omega⟩
 rcases Nat.lt_or_ge j i with h|h
 exact hi.2 j h
 obtain rfl:j=i:=by omega
 rw[aD (by omega),aD (by omega)]at z25
 rw[List.getElem?_eq_getElem (by omega),List.getElem?_eq_getElem (by omega),z25]
 try simp only[bG]at z14
 refine bg (ae (js Z (jr ?_)))
 refine aJ Z ?_
 have e:xs=ys:=List.ext_getElem? fun j=>by
  rcases Nat.lt_or_ge j i with h|h
  ·
   exact hi.2 j h
  ·
   rw[List.getElem?_eq_none (by omega),List.getElem?_eq_none (by omega)]
 rw[decide_eq_true e]
variable{a:Tm}
theorem Gh{b:Tm}(h:a.c=b.c):MQ h1 h2 183 [ptr a.cells,ptr b.cells] [] (Plain (eB (decide (a=b)))):=by
 refine aL ?_ Z
 refine jB 25 h1 h2 Tryz.func183 Z fun O hF=>?_
 refine ae (js Z (jn (af (zl [_,_,_,_,_,_,_,_,_,_,_,_,_,_,_,_,_,_,_,_,_] [aF,ag [0],ag [0,1],ag [0,1,2],aF,ag [4],ag [4,5],ag [4,5,6],ag (rg 0 8),ag (rg 0 9),ag (rg 0 10),ag (rg 0 11),ag (rg 0 12),ag (rg 0 13),ag (rg 0 10),ag (rg 0 10++[14]),ag (rg 0 10++[14,15]),ag (rg 0 10++[14,15,16]),pe (rg 0 18) 0,pn (rg 0 19) 1 1,pn (rg 0 20) 1 1] [18] [_,_] (kc Z (kc Z (kc Z (kc Z (kc Z (kc Z (kc Z (kc Z (ai ((V Z).cast (v':=eB true) (by rw[decide_eq_true h])) (kc Z (kc Z (kc Z (kc Z (kc Z (kc Z (kc Z (kc Z (kc Z (ai (bv O (B0:=24000) Z Z Z Z (IF h1 h2) (ac Z) Z Z Z Z Z) (ai (bl O Z Z Z Z Z) (kc Z trivial))))))))))))))))))))) ?_))))
 refine ea ?_
 refine aJ Z ?_
 rw[show decide (a=b)=decide (a.xs=b.xs)from decide_eq_decide.2 ⟨fun e=>by rw[e],fun e=>by cases a;cases b;simp_all⟩]
theorem Gi{b:Tm}(h: ¬a.c=b.c):MQ h1 h2 183 [ptr a.cells,ptr b.cells] [] (Plain (eB (decide (a=b)))):=by
 refine aL ?_ Z
 refine jB 25 h1 h2 Tryz.func183 Z fun O hF=>?_
 refine ae (js Z (jn (af (zl [_,_,_,_,_,_,_,_,_,_,_,_,_,_,_,_,_,_,_,_,_] [aF,ag [0],ag [0,1],ag [0,1,2],aF,ag [4],ag [4,5],ag [4,5,6],ag (rg 0 8),ag (rg 0 9),ag (rg 0 10),ag (rg 0 11),ag (rg 0 12),ag (rg 0 13),ag (rg 0 10),ag (rg 0 10++[14]),ag (rg 0 10++[14,15]),ag (rg 0 10++[14,15,16]),ag (rg 0 18),ag (rg 0 19),ag (rg 0 20)] [] [_] (kc Z (kc Z (kc Z (kc Z (kc Z (kc Z (kc Z (kc Z (ai ((V Z).cast (v':=eB false) (by rw[decide_eq_false h])) (kc Z (ai ⟨Z,Z⟩ (ai ⟨Z,Z⟩ (ai ⟨Z,Z⟩ (ai ⟨Z,Z⟩ (ai ⟨Z,Z⟩ (ai ⟨Z,Z⟩ (ai ⟨Z,Z⟩ (ai ⟨Z,Z⟩ (ai ⟨Z,Z⟩ (ai (aT O Z Z Z Z Z) (kc Z trivial))))))))))))))))))))) ?_))))
 refine ea ?_
 refine aJ Z ?_
 rw[decide_eq_false (fun e=>h (by rw[e]))]
theorem IH{L:Nat}(h1:4096≤L)(h2:L≤1073741824){a b:Tm}:MC Tryz.prog L 183 [ptr a.cells,ptr b.cells] [] (Plain (eB (decide (a=b)))):=by
 by_cases h:a.c=b.c
 exact Gh h1 h2 h
 exact Gi h1 h2 h
variable{ts:List Tm}{t:Tm}
theorem DU:MQ h1 h2 172 [cb ts,ptr t.cells] [] (Plain (eB (iq ts t))):=by
 refine aL ?_ Z
 refine jB 17 h1 h2 Tryz.func172 Z fun O hF=>?_
 have hl:ts.length≤L:=by simpa[As.fact,A.fact,M.fact,D.fact,Ds.fact]using hF.1.1
 refine ae (js Z (jn (af (ae (js Z (jn (ao (aw (X:=Nat) (fun i=>⟨[(0,cb ts),(1,ptr t.cells),(5,eI i)],[]⟩) (fun i=>i≤ts.length∧∀j (h:j<ts.length),j<i→decide (ts[j]=t)=false) (fun i=>ts.length-i) 0 (Ent.env ⟨Z,Z,Z,ap⟩) ?_ (fun i hi=>?_)))))))))
 exact⟨cT _,fun j h hj=>absurd hj (Nat.not_lt_zero j)⟩
 refine af (ae (ab Z (dh Z (js Z (jn (ah Z (fun z9=>?_) (fun z9=>?_)))))))
 try simp only[bG]at z9
 refine aj (af (ao (ae (ab Z (jD Z Z (js Z (bP Z (IH (a:=ts.getD i default) (b:=t) h1 h2) 17000 Z (jn (ah Z (fun z16=>?_) (fun z16=>?_))))))))))
 try simp only[bG]at z16
 refine ae (js Z (jr ?_))
 refine aJ Z ?_
 rw[aD (by omega)]at z16
 rw[show iq ts t=true from List.any_eq_true.2 ⟨ts[i],List.getElem_mem _,decide_eq_true z16⟩]
 try simp only[bG]at z16
 refine aj (ak (js Z (ji Z (js Z (jn ?_)))))
 refine⟨i+1,Ent.env ⟨Z,Z,Z,ap⟩,⟨by omega,fun j h hj=>?_⟩,by omega⟩
 by_cases e:j=i
 subst e;rw[aD h]at z16;exact decide_eq_false z16
 exact hi.2 j h (by omega)
 try simp only[bG]at z9
 refine bg (ae (js Z (jr ?_)))
 refine aJ Z ?_
 rw [show iq ts t=false from List.any_eq_false.2 fun x hx=>by
  obtain⟨j,hj,rfl⟩:=List.mem_iff_getElem.1 hx
  simpa using hi.2 j hj (by omega)]
variable{b:Int}
theorem xr{a:Int}(ha:0≤a∧a≤4000000000000)(hb: -4000000000000≤b∧b≤4000000000000):MQ h1 h2 187 [eI a,eI b] [] (Plain (eI (Nat.gcd a.natAbs b.natAbs))):=by
 refine aL ?_ Z
 refine jB 18 h1 h2 Tryz.func187 Z fun O hF=>?_
 refine ae (js Z (ba (ab Z (ji Z (bP Z (Ha h1 h2) 10000 Z (js Z (jn (af (ao (aw (X:=Nat×Nat) (fun z=>⟨[(0,eI z.1),(1,eI z.2)],[]⟩) (fun z=>Nat.gcd z.1 z.2=Nat.gcd a.natAbs b.natAbs∧z.1≤4000000000000∧z.2≤4000000000000) (fun z=>z.2) (a.natAbs,b.natAbs) (Ent.env ⟨congrArg (fun z=>some (eI z)) (show a=(a.natAbs:Int) by omega),congrArg (fun z=>some (eI z)) (Ao b),ap⟩) ?_ (fun z hi=>?_)))))))))))
 exact⟨Z,by show a.natAbs≤_;omega,by show b.natAbs≤_;omega⟩
 have hz: -4000000000000≤(z.1:Int).tmod z.2∧(z.1:Int).tmod z.2≤4000000000000:=by have:=Nat.mod_le z.1 z.2;rw[←Int.ofNat_tmod];omega
 refine af (ae (ab Z (jn (ah Z (fun z11=>?_) (fun z11=>?_)))))
 try simp only[bG]at z11
 refine aj (ao (ae (ab Z (av (vR Z Z Z Z) Z (js Z (ba (ab Z (jn (ak (ab Z (jn ?_)))))))))))
 have hm:z.1%z.2<z.2:=Nat.mod_lt _ (by omega)
 refine⟨(z.2,z.1%z.2),Ent.env ⟨Z,Z,ap⟩,⟨?_,hi.2.2,by show z.1%z.2≤4000000000000;omega⟩,hm⟩
 show Nat.gcd z.2 (z.1%z.2)=_
 rw[←hi.1,Nat.gcd_comm z.2,←Nat.gcd_rec,Nat.gcd_comm]
 try simp only[bG]at z11
 refine bg (ae (ab Z (jr ?_)))
 refine aJ Z ?_
 have hz0:z.2=0:=by omega
 rw[←hi.1,hz0,Nat.gcd_zero_right]
theorem IO{r:Rw}(h:r.tm.ok=true):MQ h1 h2 149 [ptr r.cells] [] (Plain (db r.tm)):=by
 refine MC.data (jB 18 h1 h2 Tryz.func149 Z fun O hF=>?_)
 refine ae (jl Z (jn (af (rC [_,_,_,_,_,_,_,_,_,_,_,_,_,_,_] [aF,ag [0],ag [0,1],ag [0,1,2],aF,ag [4],ag [4,5],ag [4,5,6],pe [0,1,2,3,4,5,6,7] 0,pn [0,1,2,3,4,5,6,7,8] 1 1,pn [0,1,2,3,4,5,6,7,8,9] 1 1,pn [0,1,2,3,4,5,6,7,8,9] 1 2,pn [] 0 1,pe [0,1,2,3,4,5,6,7,8,9,10,12] 1,pn [0,1,2,3,4,5,6,7,8,9,10,11,12,13] 2 2] [8,13] 12 3 (.box [.d (.int .i64 0),.d .nils]) [_,_] [_] [] (kf Z Z Z (kf Z Z Z (kf Z Z Z (kf Z Z Z (kf Z Z Z (kf Z Z Z (kf Z Z Z (kf Z Z Z (ai (ai (aB (aI (bR O (B0:=15000) Z Z Z Z ((p8 (c:=r.c) (xs:=r.xs) h1 h2).plain (u:=.tup [db r.tm,eB true]) (by rw[mf,if_pos h])) (ac Z) Z Z Z Z Z)) (aI (bR O (B0:=15000) Z Z Z Z ((p8 (c:=r.c) (xs:=r.xs) h1 h2).plain (u:=.tup [db r.tm,eB true]) (by rw[mf,if_pos h])) (ac Z) Z Z Z Z Z))) Z) (kf Z Z Z (kf Z Z Z (ai (kf Z Z Z (kg Z Z Z)) (ai (ai (ai (aI (Eff.alloc O Z Z Z Z Z Z)) Z) (ai (aI (Eff.alloc O Z Z Z Z Z Z)) Z)) (ai (ai (aB trivial (aI (eS Z Z Z))) Z) (ai (ai (aB trivial (V Z)) Z) trivial))))))))))))))) ?_))))
 refine jw [3,2] Z (b0 ?_)
 refine ae (js Z (jo Z (jr ?_)))
 refine aJ Z ?_
 exact .v (.agg (aE Z))
theorem Ig{a:Nat}(hget:(ts.map Tm.cells)[a]? = some t.cells)(ht:Small t)(ht10:t.xs.length≤10):MQ h1 h2 171 [.c (.pt 0 a 0)] [(0,aN ts)] (bb (iZ (cq t)) [(0,aN ts)]):=by
 refine MC.shift 500 Z (gD (jH 55 [500] h1 h2 Tryz.func171 Z fun O hF=>?_))
 refine ae (jl Z (js Z (ba (js Z (du O Z Z Z Z (zz (t:=t) h1 h2 ht.xs) (.cons (.c (.pe Z hget)) .nil) Z Z Z Z Z (B0:=10000) Z (js Z (jn (af (ae (ab Z (jn (ah Z (fun z11=>?_) (fun z11=>?_)))))))))))))
 try simp only[bG]at z11
 refine ae (js Z (jo Z (js Z (jr ?_))))
 refine aJ Z ?_
 refine⟨?_,Z⟩
 rw[show cq t=(⟨0,[]⟩,false)from if_pos (by omega)]
 exact .tup (.cons (.agg (.cons .d (.cons .nils .nil))) (.cons (.c .d) .nil))
 try simp only[bG]at z11
 refine aj (ae ?_)
 have hxl:=ht10
 obtain⟨g,hg⟩: ∃g:Int,g=(bB t.xs:Int):=⟨_,rfl⟩
 rw[←hg]
 rw[←hg]at z11
 refine aU (bO O Z Z Z) Z (js Z (jn (af (ae (js Z (jn (ao (aw (X:=Nat) (fun i=>⟨[(0,.c (.pt 500 a 0)),(2,.c (.pt 2 0 0)),(4,eI g),(5,.c (.rs 900 0 i)),(6,eI i)],[(2,.box [.d (.int .i64 0),.d .nils]),(900,aO ((t.xs.map fun x=>x.tdiv g).take i)),(500,aN ts)]⟩) (fun i=>i≤t.xs.length) (fun i=>t.xs.length-i) 0 ((aa 13 900 Z Z).trans (Ent.to ⟨Z,Z,Z,Z,Z,ap⟩ Z)) ?_ (fun i hi=>?_)))))))))
 exact cT _
 refine af (ae (az Z (av (bt O (ex:=t.cells) Z Z Z Z hget Z) Z (dh Z (js Z (jn (ah Z (fun z20=>?_) (fun z20=>?_))))))))
 try simp only[bG]at z20
 refine aj (af (ao (ak ?_)))
 have hx:=eV (b:=g) (I7.1 (List.all_eq_true.1 ht.xs _ (List.getElem_mem (show i<t.xs.length by omega))))
 rw[←aD (by omega)]at hx
 refine az Z (av (bt O (ex:=t.cells) Z Z Z Z hget Z) Z (js Z (jD Z Z (ab Z (av (gf O Z Z Z Z (by omega) (by omega) (by omega)) Z (aU (bO O Z Z Z) Z (aU (cJ (zs:=((t.xs.map fun x=>x.tdiv g).take (i+1)).map fun n=>[.int .i64 n]) (n:=i+1) O Z Z Z Z Z Z Z Z Z Z Z Z Z Z Z Z (.row Z (by simp;omega)) Z Z (by decide) Z (by simp;omega) (by simp;omega) (by rw[List.take_succ_eq_append_getElem (by simp;omega),List.map_append,List.getElem_map,aD (by omega)];rfl) (by simp;omega)) Z (js Z (jn (ak (js Z (ji Z (js Z (jn ?_))))))))))))))
 refine⟨i+1,((am [2,34,500] (e':=[(0,_),(2,_),(4,_),(5,_),(6,_)]) Z Z ⟨Z,Z,Z,Z,Z,ap⟩ Z).trans (aa 34 900 Z Z)),by omega,by omega⟩
 try simp only[bG]at z20
 refine bg (ae ?_)
 have z0:=I7.1 ht.c
 have hq:=eV (b:=g) z0
 have hr:=i9 (b:=g) z0
 obtain rfl:i=t.xs.length:=by omega
 rw[List.take_of_length_le (by simp)]
 refine ar (Ent.freeze 900 (e':=[(2,_),(4,_),(5,_),(0,_)]) Z (.cons Z (.keep Z) (.cons Z (.keep Z) (.cons Z (.c (.row Z (by simp))) (fe [0] Z)))) (aZ Z (.skip (bh Z .nil)))) ?_
 refine aH Z (av (bt O (ex:=t.cells) Z Z Z Z hget Z) Z (js Z (av (vQ Z Z Z Z) Z (js Z (jn (af (ae (aH Z (av (bt O (ex:=t.cells) Z Z Z Z hget Z) Z (js Z (av (vR Z Z Z Z) Z (js Z (jn (ah Z (fun z47=>?_) (fun z47=>?_)))))))))))))))
 try simp only[bG]at z47
 refine ak (js Z (ji Z (js Z (ba (ab Z (an O Z Z Z Z (p8 (c:=_) (xs:=t.xs.map fun x=>x.tdiv g) h1 h2) (ac Z) Z Z Z Z (B0:=53000) Z Z (ab Z (jo Z (js Z (jr ?_))))))))))
 refine aJ Z ?_
 refine⟨?_,Z⟩
 rw[show cq t=mf (t.c.tdiv g-1) (t.xs.map fun x=>x.tdiv g) by rw[hg,cq,if_neg (by omega),if_pos (by rw[←hg];exact z47)]]
 exact .tup (.cons (.agg (aE Z)) (.cons (.c .d) .nil))
 try simp only[bG]at z47
 refine aj (ae (ab Z (an O Z Z Z Z (p8 (c:=_) (xs:=t.xs.map fun x=>x.tdiv g) h1 h2) (ac Z) Z Z Z Z (B0:=53000) Z Z (ab Z (jo Z (js Z (jr ?_)))))))
 refine aJ Z ?_
 refine⟨?_,Z⟩
 rw[show cq t=mf (t.c.tdiv g) (t.xs.map fun x=>x.tdiv g) by rw[hg,cq,if_neg (by omega),if_neg (by rw[←hg];omega)]]
 exact .tup (.cons (.agg (aE Z)) (.cons (.c .d) .nil))
theorem Gk{a:Nat}(hget:(ts.map Tm.cells)[a]? = some t.cells)(ht:t.ok=true):MQ h1 h2 147 [.c (.rs 0 0 ts.length),.c (.pt 0 a 0)] [(0,aN ts)] (bb (iZ (aM ts t)) [(0,aN ts)]):=by
 refine MC.shift 500 Z (gD (jH 35 [500] h1 h2 Tryz.func147 Z fun O hF=>?_))
 have hs:=Small.of ht
 have hc:=I7.1 hs.c
 have hr:=i9 (a:=t.c) (b:=bB t.xs) hc
 refine ae (jl Z (js Z (ba (js Z (du O Z Z Z Z (zz (t:=t) h1 h2 hs.xs) (.cons (.c (.pe Z hget)) .nil) Z Z Z Z Z (B0:=11000) Z (js Z (jf [6,5,4,0,1] Z (jn (af (ae (aH Z (jf [13,6,5,4,0,1] Z (aA 7 Z Z Z (fun hx=>ax hx Z (ax hx Z (ax hx Z (dD hx (bt O (ex:=t.cells) Z Z Z Z hget Z) Z (ax hx Z (dD hx (vR Z Z Z Z) Z (ax hx Z (AN.nil)))))))) Z Z (av (aG O Z Z Z Z Z) Z (jf [21,5,4,0,1] Z (jn (ah Z (fun z21=>?_) (fun z21=>?_))))))))))))))))))
 try simp only[bG]at z21
 refine ae (js Z (jf [22,5,4,0,1] Z (jo Z (js Z (jr ?_)))))
 refine aJ Z ?_
 refine⟨?_,Z⟩
 have hn:bB t.xs<2∨t.c.tmod (bB t.xs)=0:=by by_cases h9:bB t.xs<2;exact .inl h9;refine .inr ?_;simpa[show¬(bB t.xs:Int)<2 by omega]using z21
 rw[show aM ts t=B3 from if_pos hn]
 exact .tup (.cons (.agg (.cons .d (.cons .nils .nil))) (.cons (.c .d) .nil))
 try simp only[bG]at z21
 refine aj (ae ?_)
 have hn: ¬(bB t.xs<2∨t.c.tmod (bB t.xs)=0):=by intro h9;rcases h9 with h9|h9<;>simp[h9]at z21<;>omega
 have hok:=od ht (fun h=>hn (.inl h))
 refine js Z (jf [24,5,4,0,1] Z (au O [500] (bin:=[aN ts]) Z Z Z Z (Ig h1 h2 hget hs (qf ht)) Z Z Z Z Z Z (B0:=26000) Z Z (aq ?_)))
 refine aH Z (jf [27,26,5,4,0,1] Z (jl Z (jo Z (js Z (jf [8,7,5,4,0,1] Z (jn (af (jw [8,7,4,0,1] Z ?_))))))))
 rw[hok]
 refine zl [_,_,_,_,_,_,_,_,_] [pn [] 0 1,aF,ag [1],ag [1,2],pe [1,2,3] 0,pn (rg 1 4) 1 2,pn (rg 1 5) 1 2,pe (rg 0 5) 1,pn (rg 0 8) 2 2] [4,7] [_,_,_] (ai (kc Z (V Z)) (kc Z (kc Z (kc Z (ai (bv O (B0:=33000) Z Z Z Z (DU (ts:=ts) (t:=(cq t).1) h1 h2) (.cons (.c (.whole Z (bQ _).symm)) (.cons (.c (.pb (cs:=Tm.cells (cq t).1) Z (aE Z))) .nil)) Z Z Z Z Z) (ai (kc Z (V Z)) (ai (ai (bl O Z Z Z Z Z) (bl O Z Z Z Z Z)) (ai (eS Z Z Z) (kc Z trivial))))))))) ?_
 refine jw [5,7,4,1] Z (b0 ?_)
 refine ea ?_
 refine aJ Z ?_
 refine⟨?_,Z⟩
 rw[show aM ts t=((cq t).1,!iq ts (cq t).1) by unfold aM;rw[if_neg hn,hok];rfl]
 exact .tup (.cons (.agg (aE Z)) (.cons (.c .d) .nil))
theorem Gj(ht:t.ok=true):MQ h1 h2 147 [.c (.rs 0 0 ts.length),ptr t.cells] [(0,aN ts)] (bb (iZ (aM ts t)) [(0,aN ts)]):=by
 refine MC.shift 500 Z (gD (jH 35 [500] h1 h2 Tryz.func147 Z fun O hF=>?_))
 have hs:=Small.of ht
 have hc:=I7.1 hs.c
 have hr:=i9 (a:=t.c) (b:=bB t.xs) hc
 refine ae (jl Z (js Z (ba (js Z (bP Z (zz (t:=t) h1 h2 hs.xs) 11000 Z (js Z (jf [6,5,4,0,1] Z (jn (af (ae (aH Z (jf [13,6,5,4,0,1] Z (aA 7 Z Z Z (fun hx=>ax hx Z (ax hx Z (ax hx Z (ax hx Z (ax hx Z (dD hx (vR Z Z Z Z) Z (ax hx Z (AN.nil)))))))) Z Z (av (aG O Z Z Z Z Z) Z (jf [21,5,4,0,1] Z (jn (ah Z (fun z21=>?_) (fun z21=>?_))))))))))))))))))
 try simp only[bG]at z21
 refine ae (js Z (jf [22,5,4,0,1] Z (jo Z (js Z (jr ?_)))))
 refine aJ Z ?_
 refine⟨?_,Z⟩
 have hn:bB t.xs<2∨t.c.tmod (bB t.xs)=0:=by by_cases h9:bB t.xs<2;exact .inl h9;refine .inr ?_;simpa[show¬(bB t.xs:Int)<2 by omega]using z21
 rw[show aM ts t=B3 from if_pos hn]
 exact .tup (.cons (.agg (.cons .d (.cons .nils .nil))) (.cons (.c .d) .nil))
 try simp only[bG]at z21
 refine aj (ae ?_)
 have hn: ¬(bB t.xs<2∨t.c.tmod (bB t.xs)=0):=by intro h9;rcases h9 with h9|h9<;>simp[h9]at z21<;>omega
 have hok:=od ht (fun h=>hn (.inl h))
 refine js Z (jf [24,5,4,0,1] Z (an O Z Z Z Z (J3 (t:=t) h1 h2 hs) (ac Z) Z Z Z Z (B0:=26000) Z Z (aH Z (jf [27,26,5,4,0,1] Z (jl Z (jo Z (js Z (jf [8,7,5,4,0,1] Z (jn (af (jw [8,7,4,0,1] Z ?_)))))))))))
 rw[hok]
 refine zl [_,_,_,_,_,_,_,_,_] [pn [] 0 1,aF,ag [1],ag [1,2],pe [1,2,3] 0,pn (rg 1 4) 1 2,pn (rg 1 5) 1 2,pe (rg 0 5) 1,pn (rg 0 8) 2 2] [4,7] [_,_,_] (ai (kc Z (V Z)) (kc Z (kc Z (kc Z (ai (bv O (B0:=33000) Z Z Z Z (DU (ts:=ts) (t:=(cq t).1) h1 h2) (.cons (.c (.whole Z (bQ _).symm)) (.cons (.c (.pb (cs:=Tm.cells (cq t).1) Z (aE Z))) .nil)) Z Z Z Z Z) (ai (kc Z (V Z)) (ai (ai (bl O Z Z Z Z Z) (bl O Z Z Z Z Z)) (ai (eS Z Z Z) (kc Z trivial))))))))) ?_
 refine jw [5,7,4,1] Z (b0 ?_)
 refine ea ?_
 refine aJ Z ?_
 refine⟨?_,Z⟩
 rw[show aM ts t=((cq t).1,!iq ts (cq t).1) by unfold aM;rw[if_neg hn,hok];rfl]
 exact .tup (.cons (.agg (aE Z)) (.cons (.c .d) .nil))
abbrev nX(rs:List Rw):A:=.c (.d (.slc 3 (rs.map Rw.cells)))
abbrev rL(rs:List Rw):B:=.row false 3 (rs.map Rw.cells)
abbrev KA(r:Rw):A:=.agg (r.cells.map .d)
theorem uq{n i:Nat}:(List.replicate n [D.int .i64 0]).set (0+((i:Nat):Int).toNat) [D.int .i64 1]=(jJ n i).map fun n=>[D.int .i64 n]:=by
 unfold jJ
 rw[List.map_set,List.map_replicate,Nat.zero_add,Int.toNat_natCast]
theorem IL(hf:Fs ts):MQ h1 h2 173 [.c (.rs 0 0 ts.length)] [(0,aN ts)] (bb (nX (ue ts)) [(0,aN ts)]):=by
 refine MC.shift 500 Z (gD (jH 46 [500] h1 h2 Tryz.func173 Z fun O hF=>?_))
 have hlen:=hf.len
 refine ae (js Z (ba (aU (bp O Z Z Z Z Z Z Z Z Z Z Z) Z (aq ?_))))
 refine js Z (jn (af (ae (js Z (jn (ao (aw (X:=Nat) (fun i=>⟨[(0,.c (.rs 500 0 ts.length)),(3,.c (.rs 900 0 i)),(4,eI i)],[(900,rL (fT ts i)),(500,aN ts)]⟩) (fun i=>i≤ts.length) (fun i=>ts.length-i) 0 ((aa 7 900 Z Z).trans (Ent.to ⟨Z,Z,Z,ap⟩ Z)) ?_ (fun i hi=>?_))))))))
 exact cT _
 refine af (ae (ab Z (dv Z Z (js Z (jn (ah Z (fun z11=>?_) (fun z11=>?_)))))))
 try simp only[bG]at z11
 refine aj (af (ao (af ?_)))
 have hget:(ts.map Tm.cells)[0+((i:Nat):Int).toNat]? = some (ts.getD i default).cells:=by rw[Nat.zero_add,Int.toNat_natCast,List.getElem?_map,List.getElem?_eq_getElem (by omega),aD (by omega)];rfl
 refine rC [_,_,_,_,_,_,_,_,_,_,_] [pn [] 0 1,pn [] 0 1,pn [0,1] 0 1,pn [0,1,2] 0 1,pn [0,1,2,3] 0 1,aF,ag [5],pe [5,6] 0,pn [0,1,2,3,4,5,6,7] 1 1,pn [] 0 1,pe [0,1,2,3,4,5,6,7,8,9] 1] [7,10] 9 5 (.box [.d (.int .i64 0),.d .nils,.d .nils]) [_,_] [_] [] (ai (kf Z Z Z (kg Z Z Z)) (ai (kf Z Z Z (kg Z Z Z)) (ai (ai (ai (aB (vI Z Z) (vI Z Z)) Z) (ai (aB (vI Z Z) (vI Z Z)) Z)) (ai (kf Z Z Z (kg Z Z Z)) (ai (ai (ai (aB (bt O (ex:=(ts.getD i default).cells) Z Z Z Z hget Z) (bt O (ex:=(ts.getD i default).cells) Z Z Z Z hget Z)) Z) (ai (aB (bt O (ex:=(ts.getD i default).cells) Z Z Z Z hget Z) (bt O (ex:=(ts.getD i default).cells) Z Z Z Z hget Z)) Z)) (kf Z Z Z (ai (ai (aB (vI Z Z) (vI Z Z)) Z) (ai (ai (aB (aI (vm O Z Z Z Z Z Z Z Z Z (by first|omega|(simp at *;omega)) (by first|omega|(simp at *;omega)) (by first|omega|(simp at *;omega)) (by first|omega|(dsimp only;omega)|(simp only[bG]at *;omega)) (by first|omega|(simp at *;omega)) Z Z Z Z)) (aI (vm O Z Z Z Z Z Z Z Z Z (by first|omega|(simp at *;omega)) (by first|omega|(simp at *;omega)) (by first|omega|(simp at *;omega)) (by first|omega|(dsimp only;omega)|(simp only[bG]at *;omega)) (by first|omega|(simp at *;omega)) Z Z Z Z))) Z) (kf Z Z Z (ai (ai (ai (aI (Eff.alloc O Z Z Z Z Z Z)) Z) (ai (aI (Eff.alloc O Z Z Z Z Z Z)) Z)) (ai (ai (aB trivial (aI (eS Z Z Z))) Z) trivial))))))))))) ?_
 refine jw [5,11,0,3,4] Z (b0 ?_)
 refine af (ae (js Z (jn (ao (aw (X:=Nat) (fun j=>⟨[(0,.c (.rs 500 0 ts.length)),(3,.c (.rs 900 0 i)),(4,eI i),(5,.c (.pt 5 0 0)),(6,eI j)],[(5,.box [.d (.int .i64 (ts.getD i default).c),.rs 901 0 j,.rs 21 0 ts.length]),(21,.row true 1 (List.replicate ts.length [.int .i64 0])),(900,rL (fT ts i)),(500,aN ts),(901,aO (kE (ts.getD i default).xs j))]⟩) (fun j=>j≤10) (fun j=>10-j) 0 (((am [5,21,900,500] (e':=[(0,_),(3,_),(4,_),(5,_),(6,_)]) Z Z ⟨Z,Z,Z,Z,Z,ap⟩ Z).trans (cz 5 901 1 true 1 Z Z Z)).trans (Ent.to ⟨Z,Z,Z,Z,Z,ap⟩ Z)) ?_ (fun j hi=>?_))))))
 exact cT _
 refine af (ae (ab Z (jn (ah Z (fun z24=>?_) (fun z24=>?_)))))
 try simp only[bG]at z24
 refine aj (af (ao (kJ [_,_,_,_,_,_,_,_,_,_,_] [pn [] 0 2,pn [0] 0 2,aF,aF,ag [2,3],aF,pe (rg 2 4) 0,pe (rg 2 5) 1,pe (rg 0 8) 2,pn (rg 0 9) 3 3,pe (rg 0 10) 3] [6,7,8,10] [_,_,_,_,_] [[],[],[901,34],[]] (ai (ka Z Z (ka Z Z (kw Z Z))) (ai (ka Z Z (ka Z Z (kw Z Z))) (ka Z Z (ka Z Z (ai (ai (vI Z Z) Z) (ka Z Z (ai (ai (aI (bv O (B0:=34000) Z Z Z Z (Ei (t:=ts.getD i default) (i:=j) h1 h2 (by omega)) (.cons (.c (.pe Z hget)) (.cons (.c .d) .nil)) Z Z Z Z Z)) Z) (ai (ai (aI (jU O Z Z Z Z Z Z Z Z Z Z Z Z Z)) Z) (ai (ai (dJ (zs:=(kE (ts.getD i default).xs (j+1)).map fun n=>[.int .i64 n]) (n:=j+1) O Z Z Z Z Z Z Z Z Z Z Z Z Z Z Z Z (.row Z (by simp[ff])) Z Z (by decide) Z (by simp[ff];omega) (by simp[ff];omega) (by rw[wB,List.map_append];rfl) (by simp[ff]) Z) Z) (ka Z Z (ai (ai (aI (eS Z Z Z)) Z) trivial))))))))))) ?_)))
 refine jw [24,23,0,3,4,5,6] Z (b0 ?_)
 refine ak (js Z (ji Z (js Z (jn ?_))))
 refine⟨j+1,((am [5,21,900,500,35] (e':=[(0,_),(3,_),(4,_),(5,_),(6,_)]) Z Z ⟨Z,Z,Z,Z,Z,ap⟩ Z).trans (aa 35 901 Z Z)),by omega,by omega⟩
 try simp only[bG]at z24
 refine bg (ae ?_)
 obtain rfl:j=10:=by omega
 refine aH Z (dv Z Z (aU (ca (ex:=[.int .i64 0]) (xs':=(jJ ts.length i).map (fun n=>[D.int .i64 n])) O Z Z Z Z Z Z Z Z Z Z Z Z Z Z (by rw[Nat.zero_add,Int.toNat_natCast,List.getElem?_replicate,if_pos (by omega)]) uq) Z ?_))
 refine aq ?_
 refine jn (ak (ar (Ent.freeze 901 (e':=[(3,_),(5,_),(0,_),(4,_)]) Z (fe [3,5,0,4] Z) (.cons Z (.box (dw Z (.cons (.row Z (by simp[ff])) (fk Z)))) (bh Z (bh Z (bh Z (.skip .nil)))))) ?_))
 refine ar (Ent.freeze 21 (e':=[(3,_),(5,_),(0,_),(4,_)]) Z (fe [3,5,0,4] Z) (.cons Z (.box (dw Z (dw Z (.cons (.row Z (by simp[gU])) .nil)))) (.skip (bh Z (bh Z .nil))))) ?_
 refine ab Z (aU (bp O Z Z Z Z Z Z Z Z Z Z Z) Z (aq ?_))
 refine aU (cU (own:=false) (zs:=(fT ts (i+1)).map Rw.cells) (n:=i+1) O Z (.row Z (by simp[cv])) (.whole Z Z (.inr ⟨Z,Z⟩)) (by simp) Z (by simp[cv];omega) (by simp[cv];omega) (by rw[oQ,List.map_append];rfl) (by simp[cv])) Z (aq ?_)
 refine js Z (jn (ak (js Z (ji Z (js Z (jn ?_))))))
 refine⟨i+1,((am [44,500] (e':=[(0,_),(3,_),(4,_)]) Z Z ⟨Z,Z,Z,ap⟩ Z).trans (aa 44 900 Z Z)),by omega,by omega⟩
 try simp only[bG]at z11
 refine bg (ae (ab Z (jr ?_)))
 refine aJ Z ?_
 refine⟨?_,Z⟩
 obtain rfl:i=ts.length:=by omega
 exact .v (.c (.whole Z (by simp[cv])))
theorem Au{n m:Int}{xs ys:List Int}{i:Nat}:((iR n m xs ys (i+1)).map fun n=>[D.int .i64 n])[0+((i:Nat):Int).toNat]? = some [D.int .i64 (n*xs.getD i default+m*ys.getD i default)]:=by
 rw[Nat.zero_add,Int.toNat_natCast,jQ,List.map_append,List.getElem?_append_right (by simp[bV])]
 simp[bV]
def nT(c0:Bool)(xs:List Int)(g:Int)(i:Nat):Bool:=c0&&(xs.take i).all fun x=>num (x.tdiv g)
theorem GI{c0:Bool}{xs:List Int}{g:Int}:nT c0 xs g 0=c0:=by simp[nT]
theorem sm{c0:Bool}{xs:List Int}{g:Int}{i:Nat}(h:i<xs.length):nT c0 xs g (i+1)=(nT c0 xs g i&&num ((xs.getD i default).tdiv g)):=by
 unfold nT
 rw[List.take_succ_eq_append_getElem h,List.all_append,aD h,Bool.and_assoc]
 simp
theorem CK{r:Rw}{g:Nat}:w9 (nU r g)=nT (nT (num (r.c.tdiv g)) r.xs g r.xs.length) r.ms g r.ms.length:=by
 simp[w9,nU,nT,List.all_map,Function.comp_def]
theorem lG{a b B:Int}(h: -B≤a∧a≤B): -B≤a.tdiv b∧a.tdiv b≤B:=by
 have h1:(a.tdiv b).natAbs≤a.natAbs:=by rw[Int.natAbs_tdiv];exact Nat.div_le_self _ _
 omega
theorem n3{a b:Int}{xs ys:List Int}{i:Nat}(h1:1≤a∧a≤1000000)(h2:1≤b∧b≤1000000)(hx: ∀k,-1000000≤xs.getD k default∧xs.getD k default≤1000000)(hy: ∀k,-1000000≤ys.getD k default∧ys.getD k default≤1000000) :
    ∀x∈iR a b xs ys i,-2000000000000≤x∧x≤2000000000000:=fun x h=>by
 obtain⟨k,_,rfl⟩:=pI h
 exact s8 h1 h2 (hx k) (hy k)
theorem Dz{C:Int}{l:List Int}(hC: -2000000000000≤C∧C≤2000000000000)(hl: ∀x∈l,-2000000000000≤x∧x≤2000000000000):bB (C::l)≤2000000000000:=qB fun x hx=>by
 rcases List.mem_cons.1 hx with rfl|hx
 omega
 have:=hl x hx;omega
theorem Gt{a b:List Int}(ha: ∀x∈a,-2000000000000≤x∧x≤2000000000000)(hb: ∀x∈b,-2000000000000≤x∧x≤2000000000000): ∀x∈a++b,-2000000000000≤x∧x≤2000000000000:=fun x hx=>by
 rcases List.mem_append.1 hx with hx|hx
 exact ha x hx
 exact hb x hx
theorem Ap{xs:List Int}{g:Int}{i:Nat}(h:i<xs.length):((oK xs g (i+1)).map fun n=>[D.int .i64 n])[0+((i:Nat):Int).toNat]? = some [D.int .i64 ((xs.getD i default).tdiv g)]:=by
 rw[Nat.zero_add,Int.toNat_natCast,←jP h,List.map_set,List.getElem?_set]
 simp[mG,h]
theorem pH{xs:List Int}{i:Nat}(h:i<xs.length):xs.getD i default∈xs:=by rw[aD h];exact List.getElem_mem h
variable{n k:Nat}
theorem DT{p q:Rw}(hp:ROk n p)(hq:ROk n q)(hk:k<10)(hx:0<p.xs.getD k default)(hy:q.xs.getD k default<0)(hn:n≤1000):MQ h1 h2 184 [ptr p.cells,ptr q.cells,eI k] [] (Plain (.tup [KA (eR p q k),eB (w9 (eR p q k))])):=by
 refine MC.data (jB 196 h1 h2 Tryz.func184 Z fun O hF=>?_)
 obtain⟨hg0,hm0,hn0⟩:=tw hp hq hx hy
 have hb1:=hp.get k
 have hb2:=hq.get k
 have lp:=hp.l
 have lq:=hq.l
 have lpm:=hp.n
 have lqm:=hq.n
 have hd1:=eV (a:=p.xs.getD k default) (b:=((gI p q k:Nat):Int)) (by omega)
 have hd2:=eV (a:= -(q.xs.getD k default)) (b:=((gI p q k:Nat):Int)) (by omega)
 obtain⟨m,em⟩: ∃m,m=nR p q k:=⟨_,rfl⟩
 obtain⟨nn,en⟩: ∃m,m=nQ p q k:=⟨_,rfl⟩
 rw[←em]at hm0
 rw[←en]at hn0
 have z1:=gO (a:=nn) (b:=p.c) (by omega) (I7.1 hp.c)
 have z2:=gO (a:=m) (b:=q.c) (by omega) (I7.1 hq.c)
 have hpm: ∀j,-1000000≤p.ms.getD j default∧p.ms.getD j default≤1000000:=fun j=>by have:=hp.mul j;omega
 have hqm: ∀j,-1000000≤q.ms.getD j default∧q.ms.getD j default≤1000000:=fun j=>by have:=hq.mul j;omega
 refine ae (jl Z (aq ?_))
 refine js Z (ba (az Z (js Z ?_)))
 first|refine jD Z Z ?_|refine nN Z Z ?_|refine dv Z Z ?_
 refine ab Z (ba (az Z (js Z ?_)))
 first|refine jD Z Z ?_|refine nN Z Z ?_|refine dv Z Z ?_
 refine js Z (av ((bi O Z Z (by omega) (by omega)).cast (v':=eI (-(q.xs.getD k default))) (by rw[Int.zero_sub])) Z (js Z (ba (ab Z (bP Z ((xr (a:=p.xs.getD k default) (b:= -(q.xs.getD k default)) h1 h2 (by omega) (by omega)).plain (u:=eI (gI p q k)) (by rw[Int.natAbs_neg])) 35000 Z (js Z (ba (ab Z (av ((gf O Z Z Z Z (by omega) (by omega) (by omega)).cast (v':=eI m) (by rw[em])) Z (js Z (ba (ab Z (av ((gf O Z Z Z Z (by omega) (by omega) (by omega)).cast (v':=eI nn) (by rw[en])) Z (js Z (jn (af (rC [_,_,_,_,_,_,_,_,_,_,_,_,_,_,_,_] [aF,aF,ag [1],ag [1,2],ag [1,2,3],ag [0,1,2,3,4],aF,aF,ag [7],ag [7,8],ag [7,8,9],ag [6,7,8,9,10],ag [0,1,2,3,4,5,6,7,8,9,10,11],ag [0,1,2,3,4,5,6,7,8,9,10,11,12],aF,pe [0,1,2,3,4,5,6,7,8,9,10,11,12,13,14] 0] [15] 14 11 (.box [.d (.int .i64 0),.d .nils,.d .nils]) [_] [_] [] (kf Z Z Z (kf Z Z Z (kf Z Z Z (kf Z Z Z (kf Z Z Z (ai (ai (aB (vF Z) (vF Z)) Z) (kf Z Z Z (kf Z Z Z (kf Z Z Z (kf Z Z Z (kf Z Z Z (ai (ai (aB (vF Z) (vF Z)) Z) (ai (ai (aB (vF Z) (vF Z)) Z) (kf Z Z Z (ai (ai (aI (Eff.alloc O Z Z Z Z Z Z)) Z) (ai (ai (aB trivial (aI (eS Z Z Z))) Z) trivial)))))))))))))))) ?_)))))))))))))))))
 refine jw [11,9,8,10,7,6,0,1,2] Z (b0 ?_)
 refine ae ?_
 obtain⟨C,eC⟩: ∃C,C=nn*p.c+m*q.c:=⟨_,rfl⟩
 have hC: -2000000000000≤C∧C≤2000000000000:=by omega
 rw[←eC]
 refine ab Z (bP Z ((xr (a:=0) (b:=C) h1 h2 (by decide) (by omega)).plain (u:=eI (bB [C])) (by rw[Bx];exact congrArg (fun z:Nat=>eI z) (Nat.gcd_zero_left _))) 58000 Z (js Z (jn (af (ae (js Z (jn (ao (aw (X:=Nat) (fun i=>⟨[(0,ptr p.cells),(1,ptr q.cells),(6,.c (.pt 6 0 0)),(8,eI m),(9,eI nn),(10,eI (bB (C::iR nn m p.xs q.xs i))),(11,.c (.pt 11 0 0)),(12,eI i)],[(6,.box [.d (.int .i64 0),.d .nils,.d .nils]),(11,.box [.d (.int .i64 C),.rs 900 0 i,.d .nils]),(900,aO (iR nn m p.xs q.xs i))]⟩) (fun i=>i≤p.xs.length) (fun i=>p.xs.length-i) 0 ((cz 11 900 1 true 1 Z Z Z).trans (Ent.to ⟨Z,Z,Z,Z,Z,Z,Z,Z,ap⟩ Z)) ?_ (fun i hi=>?_))))))))))
 exact cT _
 refine af (ae (az Z (js Z ?_)))
 first|refine dh Z ?_|refine js Z ?_|refine dv Z Z ?_
 refine js Z (jn (ah Z (fun z64=>?_) (fun z64=>?_)))
 try simp only[bG]at z64
 refine aj (af (ao (af ?_)))
 have f1:=gO (a:=nn) (b:=p.xs.getD i default) (by omega) (hp.get i)
 have f2:=gO (a:=m) (b:=q.xs.getD i default) (by omega) (hq.get i)
 have hgl:=Dz hC (l:=iR nn m p.xs q.xs i) (n3 hn0 hm0 hp.get hq.get)
 refine kJ [_,_,_,_,_,_,_,_,_,_,_,_,_,_,_,_,_,_,_,_,_,_,_,_,_] [pn [] 0 1,pn [0] 0 1,aF,aF,ag [3],ag [3,4],ag [3,4,5],aF,ag (rg 3 5),ag (rg 3 6),ag (rg 2 8),aF,aF,ag [12],ag [12,13],ag [12,13,14],aF,ag (rg 12 5),ag (rg 12 6),ag (rg 11 8),ag (rg 2 18),pe (rg 2 19) 0,pe (rg 0 22) 1,pn (rg 0 23) 2 2,pe (rg 0 24) 2] [21,22,24] [_,_,_,_] [[],[900,88],[]] (ai (ka Z Z (kw Z Z)) (ai (ka Z Z (kw Z Z)) (ka Z Z (ka Z Z (ka Z Z (ka Z Z (ka Z Z (ka Z Z (ai (ai (vN Z) Z) (ka Z Z (ai (ai (vF Z) Z) (ka Z Z (ka Z Z (ka Z Z (ka Z Z (ka Z Z (ka Z Z (ai (ai (vN Z) Z) (ka Z Z (ai (ai (vF Z) Z) (ai (ai (vF Z) Z) (ai (ai (aI (jU O Z Z Z Z Z Z Z Z Z Z Z Z Z)) Z) (ai (ai (dJ (zs:=(iR nn m p.xs q.xs (i+1)).map fun n=>[.int .i64 n]) (n:=i+1) O Z Z Z Z Z Z Z Z Z Z Z Z Z Z Z Z (.row Z (by simp[bV])) Z Z (by decide) Z (by simp[bV];omega) (by simp[bV];omega) (by rw[jQ,List.map_append];rfl) (by simp[bV]) Z) Z) (ka Z Z (ai (ai (aI (eS Z Z Z)) Z) trivial))))))))))))))))))))))))) ?_
 refine jw [64,0,1,6,8,9,10,11,12] Z (b0 ?_)
 refine ak (az Z ?_)
 first|refine jD Z Z ?_|refine nN Z Z ?_|refine dv Z Z ?_
 refine av (bt O (ex:=[.int .i64 (nn*p.xs.getD i default+m*q.xs.getD i default)]) Z Z Z Z Au Z) Z (bP Z ((xr (a:=(bB (C::iR nn m p.xs q.xs i):Nat)) (b:=nn*p.xs.getD i default+m*q.xs.getD i default) h1 h2 (by omega) (by omega)).plain (u:=eI (bB (C::iR nn m p.xs q.xs (i+1)))) (by rw[Int.natAbs_natCast,jQ,←List.cons_append,sf])) 98000 Z (js Z (jn (ak (js Z ?_)))))
 first|refine ji Z ?_|refine dv Z Z ?_
 refine js Z (jn ?_)
 refine⟨i+1,((am [6,11,89] (e':=[(0,_),(1,_),(6,_),(8,_),(9,_),(10,_),(11,_),(12,_)]) Z Z ⟨Z,Z,Z,Z,Z,Z,Z,Z,ap⟩ Z).trans (aa 89 900 Z Z)),by omega,by omega⟩
 try simp only[bG]at z64
 refine bg (af (ae ?_))
 obtain rfl:i=p.xs.length:=by omega
 obtain⟨X,eX⟩: ∃X,X=iR nn m p.xs q.xs p.xs.length:=⟨_,rfl⟩
 have lXp:X.length=p.xs.length:=by rw[eX,bV]
 have hXb: ∀x∈X,-2000000000000≤x∧x≤2000000000000:=by rw[eX];exact n3 hn0 hm0 hp.get hq.get
 rw[←eX]
 refine js Z (jn (ao (aw (X:=Nat) (fun j=>⟨[(0,ptr p.cells),(1,ptr q.cells),(6,.c (.pt 6 0 0)),(8,eI m),(9,eI nn),(10,eI (bB (C::X++iR nn m p.ms q.ms j))),(11,.c (.pt 11 0 0)),(13,eI j)],[(6,.box [.d (.int .i64 0),.d .nils,.d .nils]),(11,.box [.d (.int .i64 C),.rs 900 0 p.xs.length,.rs 901 0 j]),(900,aO X),(901,aO (iR nn m p.ms q.ms j))]⟩) (fun j=>j≤p.ms.length) (fun j=>p.ms.length-j) 0 ((cz 11 901 1 true 2 Z Z Z).trans (Ent.to ⟨Z,Z,Z,Z,Z,congrArg (fun z=>some (eI (bB z))) (List.append_nil (C::X)).symm,Z,Z,ap⟩ Z)) ?_ (fun j hi=>?_))))
 exact cT _
 refine af (ae (az Z (js Z ?_)))
 first|refine dh Z ?_|refine js Z ?_|refine dv Z Z ?_
 refine js Z (jn (ah Z (fun z104=>?_) (fun z104=>?_)))
 try simp only[bG]at z104
 refine aj (af (ao (af ?_)))
 have f1:=gO (a:=nn) (b:=p.ms.getD j default) (by omega) (hpm j)
 have f2:=gO (a:=m) (b:=q.ms.getD j default) (by omega) (hqm j)
 have hgl:bB (C::X++iR nn m p.ms q.ms j)≤2000000000000:=Dz hC (Gt hXb (n3 hn0 hm0 hpm hqm))
 refine kJ [_,_,_,_,_,_,_,_,_,_,_,_,_,_,_,_,_,_,_,_,_,_,_,_,_] [pn [] 0 1,pn [0] 0 1,aF,aF,ag [3],ag [3,4],ag [3,4,5],aF,ag (rg 3 5),ag (rg 3 6),ag (rg 2 8),aF,aF,ag [12],ag [12,13],ag [12,13,14],aF,ag (rg 12 5),ag (rg 12 6),ag (rg 11 8),ag (rg 2 18),pe (rg 2 19) 0,pe (rg 0 22) 1,pn (rg 0 23) 2 2,pe (rg 0 24) 2] [21,22,24] [_,_,_,_] [[],[901,128],[]] (ai (ka Z Z (kw Z Z)) (ai (ka Z Z (kw Z Z)) (ka Z Z (ka Z Z (ka Z Z (ka Z Z (ka Z Z (ka Z Z (ai (ai (vN Z) Z) (ka Z Z (ai (ai (vF Z) Z) (ka Z Z (ka Z Z (ka Z Z (ka Z Z (ka Z Z (ka Z Z (ai (ai (vN Z) Z) (ka Z Z (ai (ai (vF Z) Z) (ai (ai (vF Z) Z) (ai (ai (aI (jU O Z Z Z Z Z Z Z Z Z Z Z Z Z)) Z) (ai (ai (dJ (zs:=(iR nn m p.ms q.ms (j+1)).map fun n=>[.int .i64 n]) (n:=j+1) O Z Z Z Z Z Z Z Z Z Z Z Z Z Z Z Z (.row Z (by simp[bV])) Z Z (by decide) Z (by simp[bV];omega) (by simp[bV];omega) (by rw[jQ,List.map_append];rfl) (by simp[bV]) Z) Z) (ka Z Z (ai (ai (aI (eS Z Z Z)) Z) trivial))))))))))))))))))))))))) ?_
 refine jw [104,0,1,6,8,9,10,11,13] Z (b0 ?_)
 refine ak (az Z ?_)
 first|refine jD Z Z ?_|refine nN Z Z ?_|refine dv Z Z ?_
 refine av (bt O (ex:=[.int .i64 (nn*p.ms.getD j default+m*q.ms.getD j default)]) Z Z Z Z Au Z) Z (bP Z ((xr (a:=(bB (C::X++iR nn m p.ms q.ms j):Nat)) (b:=nn*p.ms.getD j default+m*q.ms.getD j default) h1 h2 (by omega) (by omega)).plain (u:=eI (bB (C::X++iR nn m p.ms q.ms (j+1)))) (by rw[Int.natAbs_natCast,jQ,←gF,sf])) 138000 Z (js Z (jn (ak (js Z ?_)))))
 first|refine ji Z ?_|refine dv Z Z ?_
 refine js Z (jn ?_)
 refine⟨j+1,((am [6,11,900,129] (e':=[(0,_),(1,_),(6,_),(8,_),(9,_),(10,_),(11,_),(13,_)]) Z Z ⟨Z,Z,Z,Z,Z,Z,Z,Z,ap⟩ Z).trans (aa 129 901 Z Z)),by omega,by omega⟩
 try simp only[bG]at z104
 refine bg (ae ?_)
 obtain rfl:j=p.ms.length:=by omega
 obtain⟨Y,eY⟩: ∃Y,Y=iR nn m p.ms q.ms p.ms.length:=⟨_,rfl⟩
 have lYp:Y.length=p.ms.length:=by rw[eY,bV]
 have hYb: ∀x∈Y,-2000000000000≤x∧x≤2000000000000:=by rw[eY];exact n3 hn0 hm0 hpm hqm
 rw[←eY]
 obtain⟨G,eG⟩: ∃G,G=bB (C::X++Y):=⟨_,rfl⟩
 rw[←eG]
 have hG:0<G∧G≤2000000000000:=by rw[eG,eC,eX,eY,em,en];exact pM hp hq hx hy
 have hq0:=lG (b:=(G:Int)) hC
 refine aH Z ?_
 first|refine av (vQ Z Z Z Z) Z ?_|refine ji Z ?_
 refine js Z (jo Z (aq ?_))
 refine ba (ab Z (bP Z (zE h1 h2) 146000 Z (js Z (jn (af (ae (js Z (jn (ao (aw (X:=Nat) (fun i=>⟨[(6,.c (.pt 6 0 0)),(10,eI G),(11,.c (.pt 11 0 0)),(14,eB (nT (num (C.tdiv G)) X G i)),(15,eI i)],[(6,.box [.d (.int .i64 0),.d .nils,.d .nils]),(11,.box [.d (.int .i64 (C.tdiv G)),.rs 900 0 p.xs.length,.rs 901 0 p.ms.length]),(900,aO (oK X G i)),(901,aO Y)]⟩) (fun i=>i≤p.xs.length) (fun i=>p.xs.length-i) 0 (((am [6,11,900,901] (e':=[(6,_),(10,_),(11,_),(14,_),(15,_)]) Z Z ⟨Z,Z,Z,Z,Z,ap⟩ Z)).trans (Ent.to ⟨Z,Z,Z,congrArg (fun z=>some (eB z)) GI.symm,Z,ap⟩ (by rw[kY];rfl))) ?_ (fun i hi=>?_)))))))))))
 exact cT _
 refine af (ae (aH Z ?_))
 first|refine dh Z ?_|refine js Z ?_|refine dv Z Z ?_
 refine js Z (jn (ah Z (fun z150=>?_) (fun z150=>?_)))
 try simp only[bG]at z150
 refine aj (af (ao (ae ?_)))
 have hil:i<X.length:=by omega
 have hxi:=lG (b:=(G:Int)) (hXb _ (pH hil))
 refine aH Z ?_
 first|refine jD Z Z ?_|refine nN Z Z ?_|refine dv Z Z ?_
 refine av (bt O (ex:=[.int .i64 (X.getD i default)]) Z Z Z Z (by rw[Nat.zero_add];exact gk (by omega)) Z) Z (js Z ?_)
 first|refine av (vQ Z Z Z Z) Z ?_|refine ji Z ?_
 first|refine jD Z Z ?_|refine nN Z Z ?_|refine dv Z Z ?_
 refine aU (ca (ex:=[.int .i64 (X.getD i default)]) (xs':=(oK X G (i+1)).map (fun n=>[D.int .i64 n])) O Z Z Z Z Z Z Z Z Z Z Z Z Z Z (by rw[Nat.zero_add];exact gk (by omega)) (by rw[←jP (by omega),List.map_set,Nat.zero_add];rfl)) Z (aq ?_)
 refine jn (ak (ab Z (aA 6 Z Z Z (fun hx=>ax hx Z (ax hx Z (ax hx Z (dD hx (vI Z Z) Z (dD hx (bt O (ex:=[.int .i64 ((X.getD i default).tdiv G)]) Z Z Z Z (Ap (by omega)) Z) Z (bA O hx Z Z Z Z (zE h1 h2) (ac Z) Z Z Z Z Z Z Z (B0:=169000) Z (AN.nil))))))) Z Z ?_)))
 first|refine av (ay O Z Z Z Z Z) Z ?_|refine av (aG O Z Z Z Z Z) Z ?_|refine av (Val.pickB O Z Z Z Z Z) Z ?_
 refine js Z (jn (ak (js Z ?_)))
 first|refine ji Z ?_|refine dv Z Z ?_
 refine js Z (jn ?_)
 refine⟨i+1,Ent.to ⟨Z,Z,Z,congrArg (fun z=>some (eB z)) (by rw[sm (by omega),Bool.cond_false_right]),Z,ap⟩ Z,by omega,by omega⟩
 try simp only[bG]at z150
 refine bg (af (ae ?_))
 obtain rfl:i=p.xs.length:=by omega
 refine js Z (jn (ao (aw (X:=Nat) (fun j=>⟨[(6,.c (.pt 6 0 0)),(10,eI G),(11,.c (.pt 11 0 0)),(14,eB (nT (nT (num (C.tdiv G)) X G p.xs.length) Y G j)),(16,eI j)],[(6,.box [.d (.int .i64 0),.d .nils,.d .nils]),(11,.box [.d (.int .i64 (C.tdiv G)),.rs 900 0 p.xs.length,.rs 901 0 p.ms.length]),(900,aO (oK X G p.xs.length)),(901,aO (oK Y G j))]⟩) (fun j=>j≤p.ms.length) (fun j=>p.ms.length-j) 0 (((am [6,11,900,901] (e':=[(6,_),(10,_),(11,_),(14,_),(16,_)]) Z Z ⟨Z,Z,Z,Z,Z,ap⟩ Z)).trans (Ent.to ⟨Z,Z,Z,congrArg (fun z=>some (eB z)) GI.symm,Z,ap⟩ (by rw[kY];rfl))) ?_ (fun j hi=>?_))))
 exact cT _
 refine af (ae (aH Z ?_))
 first|refine dh Z ?_|refine js Z ?_|refine dv Z Z ?_
 refine js Z (jn (ah Z (fun z174=>?_) (fun z174=>?_)))
 try simp only[bG]at z174
 refine aj (af (ao (ae ?_)))
 have hjl:j<Y.length:=by omega
 have hyj:=lG (b:=(G:Int)) (hYb _ (pH hjl))
 refine aH Z ?_
 first|refine jD Z Z ?_|refine nN Z Z ?_|refine dv Z Z ?_
 refine av (bt O (ex:=[.int .i64 (Y.getD j default)]) Z Z Z Z (by rw[Nat.zero_add];exact gk (by omega)) Z) Z (js Z ?_)
 first|refine av (vQ Z Z Z Z) Z ?_|refine ji Z ?_
 first|refine jD Z Z ?_|refine nN Z Z ?_|refine dv Z Z ?_
 refine aU (ca (ex:=[.int .i64 (Y.getD j default)]) (xs':=(oK Y G (j+1)).map (fun n=>[D.int .i64 n])) O Z Z Z Z Z Z Z Z Z Z Z Z Z Z (by rw[Nat.zero_add];exact gk (by omega)) (by rw[←jP (by omega),List.map_set,Nat.zero_add];rfl)) Z (aq ?_)
 refine jn (ak (ab Z (aA 6 Z Z Z (fun hx=>ax hx Z (ax hx Z (ax hx Z (dD hx (vI Z Z) Z (dD hx (bt O (ex:=[.int .i64 ((Y.getD j default).tdiv G)]) Z Z Z Z (Ap (by omega)) Z) Z (bA O hx Z Z Z Z (zE h1 h2) (ac Z) Z Z Z Z Z Z Z (B0:=193000) Z (AN.nil))))))) Z Z ?_)))
 first|refine av (ay O Z Z Z Z Z) Z ?_|refine av (aG O Z Z Z Z Z) Z ?_|refine av (Val.pickB O Z Z Z Z Z) Z ?_
 refine js Z (jn (ak (js Z ?_)))
 first|refine ji Z ?_|refine dv Z Z ?_
 refine js Z (jn ?_)
 refine⟨j+1,Ent.to ⟨Z,Z,Z,congrArg (fun z=>some (eB z)) (by rw[sm (by omega),Bool.cond_false_right]),Z,ap⟩ Z,by omega,by omega⟩
 try simp only[bG]at z174
 refine bg (ae (ab Z (jo Z (aq ?_))))
 refine js Z (jr ?_)
 refine aJ Z ?_
 obtain rfl:j=p.ms.length:=by omega
 have e1:oK X G p.xs.length=X.map (fun x=>x.tdiv G):=by rw[←lXp];exact lN
 have e2:oK Y G p.ms.length=Y.map (fun x=>x.tdiv G):=by rw[←lYp];exact lN
 rw[e1,e2]
 rw[show eR p q k=nU ⟨C,X,Y⟩ G by subst eG;subst eY;subst eX;subst eC;subst em;subst en;rfl,CK]
 show VR _ _ (.tup [KA (nU ⟨C,X,Y⟩ G),eB (nT (nT (num (C.tdiv G)) X G X.length) Y G Y.length)])
 rw[lXp,lYp]
 exact .tup (.cons (.agg (.cons .d (.cons (.whole Z (by simp[nU,lXp])) (.cons (.whole Z (by simp[nU,lYp])) .nil)))) (.cons (.c .d) .nil))
def D7(k:Nat)(rs:List Rw):List Rw×Nat×Bool:=match fG k rs with
  | none=>([],0,false)
  | some new=>(dc k rs++new,(dc k rs).length,true)
theorem uA{k:Nat}{rs:List Rw}(h:fG k rs=none):D7 k rs=([],0,false):=by unfold D7;rw[h]
theorem qo{k:Nat}{rs new:List Rw}(h:fG k rs=some new):D7 k rs=(dc k rs++new,(dc k rs).length,true):=by unfold D7;rw[h]
theorem HK{k:Nat}{rs:List Rw}(h:(D7 k rs).2.2=true): ∃new,fG k rs=some new:=by
 cases hs:fG k rs with
 | none=>rw[uA hs]at h;cases h
 | some new=>exact⟨new,Z⟩
theorem HL{k:Nat}{rs:List Rw}(h:(D7 k rs).2.2=false):fG k rs=none:=by
 cases hs:fG k rs with
 | none=>rfl
 | some new=>rw[qo hs]at h;cases h
def BV(ts:List Tm):List Rw×List Rw×Bool:=match dF ts with
  | none=>([],[],false)
  | some z=>(z.1,z.2,true)
theorem qF{ts:List Tm}(h:dF ts=none):BV ts=([],[],false):=by unfold BV;rw[h]
theorem iE{ts:List Tm}{z:List Rw×List Rw}(h:dF ts=some z):BV ts=(z.1,z.2,true):=by unfold BV;rw[h]
theorem xj{ts:List Tm}(h:(BV ts).2.2=true): ∃z,dF ts=some z:=by
 cases hs:dF ts with
 | none=>rw[qF hs]at h;cases h
 | some z=>exact⟨z,Z⟩
theorem xk{ts:List Tm}(h:(BV ts).2.2=false):dF ts=none:=by
 cases hs:dF ts with
 | none=>rfl
 | some z=>rw[iE hs]at h;cases h
abbrev HO(z:List Rw×Nat×Bool):A:=.tup [nX z.1,eI z.2.1,eB z.2.2]
abbrev Dt(z:List Rw×List Rw×Bool):A:=.tup [nX z.1,nX z.2.1,eB z.2.2]
theorem Hj{a b:Int}(h:(bif decide (a≤0)then true else decide (0≤b))=true):a≤0∨0≤b:=by
 by_cases h1:a≤0
 exact .inl h1
 right;simpa[h1]using h
theorem Hk{a b:Int}(h:(bif decide (a≤0)then true else decide (0≤b))=false): ¬(a≤0∨0≤b):=by
 by_cases h1:a≤0
 simp[h1]at h
 rintro(h2|h2)
 exact h1 h2
 simp[h1,h2]at h
theorem DA{o:Bool}{n:Nat}(h:(bif !o then true else decide ((n:Int)=60))=true): ¬(o=true∧n≠60):=by
 rintro⟨h1,h2⟩
 simp[h1]at h;omega
theorem DB{o:Bool}{n:Nat}(h:(bif !o then true else decide ((n:Int)=60))=false):o=true∧n≠60:=by
 cases o with
 | false=>simp at h
 | true=>simp at h;exact⟨rfl,by omega⟩
theorem IK{rs:List Rw}(hr:AllR n rs)(hl60:rs.length≤60)(hk:k<10)(hn:n≤1000):MQ h1 h2 174 [nX rs,eI k] [] (Plain (HO (D7 k rs))):=by
 refine MC.data (jB 95 h1 h2 Tryz.func174 Z fun O hF=>?_)
 refine ae (aH Z (ba (aU (bp O Z Z Z Z Z Z Z Z Z Z Z) Z (aq ?_))))
 refine js Z (jn (af (ae (js Z (jn (ao (aw (X:=Nat) (fun i=>⟨[(0,nX rs),(1,eI k),(7,.c (.rs 900 0 (dc k (rs.take i)).length)),(8,eI i)],[(900,rL (dc k (rs.take i)))]⟩) (fun i=>i≤rs.length) (fun i=>rs.length-i) 0 ((aa 14 900 Z Z).trans (Ent.to ⟨Z,Z,Z,Z,ap⟩ Z)) ?_ (fun i hi=>?_))))))))
 exact cT _
 refine af (ae (ab Z (dh Z (js Z (jf [18,0,1,7,8] Z (jn (ah Z (fun z18=>?_) (fun z18=>?_))))))))
 refine aj (af (ao (ae ?_)))
 have hil:i<rs.length:=by have:=bK z18;omega
 have hri:=(hr.get hil).l
 refine ab Z (jD Z Z (aH Z (jD Z Z (ab Z (jf [29,18,0,1,7,8] Z (jn (ah Z (fun z29=>?_) (fun z29=>?_))))))))
 refine ak (aH Z (jD Z Z (js Z (jf [34,30,29,18,0,1,7,8] Z (aU (bp O Z Z Z Z Z Z Z Z Z Z Z) Z (aq ?_))))))
 refine jf [35,30,29,18,0,1,7,8] Z ?_
 have hki:=gy (k:=k) (rs:=rs.take (i+1))
 rw[List.length_take]at hki
 refine aU (cU (own:=false) (zs:=(dc k (rs.take (i+1))).map Rw.cells) (n:=(dc k (rs.take (i+1))).length) O Z (.row Z (bQ _).symm) (.whole Z Z (.inr ⟨Z,Z⟩)) (by simp) Z (by have:=gy (k:=k) (rs:=rs.take i);simp at this ⊢;omega) (by have:=gy (k:=k) (rs:=rs.take i);simp at this ⊢;omega) (by rw[xN hil (bK z29),List.map_append];rfl) (bQ _)) Z (aq ?_)
 refine js Z (jf [7,29,18,0,1,8] Z (jn (ak (js Z (ji Z (js Z (jf [8,7,29,18,0,1] Z (jn ?_))))))))
 refine⟨i+1,((am [36] (e':=[(0,_),(1,_),(7,_),(8,_)]) Z Z ⟨Z,Z,Z,Z,ap⟩ Z).trans (aa 36 900 Z Z)),by omega,by omega⟩
 refine aj (ak (js Z (ji Z (js Z (jf [8,29,18,0,1,7] Z (jn ?_))))))
 have hkf:=xO (k:=k) (i:=i) (rs:=rs) (by omega) (cu z29)
 rw[←hkf]
 refine⟨i+1,Ent.to ⟨Z,Z,Z,Z,ap⟩ Z,by omega,by omega⟩
 refine bg (ae ?_)
 have hie:i=rs.length:=by have:=cu z18;omega
 subst hie
 rw[List.take_length]
 have hkl:=gy (k:=k) (rs:=rs)
 obtain⟨KP,eK⟩: ∃KP,KP=dc k rs:=⟨_,rfl⟩
 rw[←eK]
 rw[←eK]at hkl
 refine js Z (dv Z Z (js Z (jf [9,18,0,1,7,8] Z (jn (af (ae (js Z (jn (ao (aw (X:=Nat×List Rw) (fun x=>⟨[(0,nX rs),(1,eI k),(7,.c (.rs 900 0 (KP.length+x.2.length))),(9,eI KP.length),(10,eI x.1)],[(900,rL (KP++x.2))]⟩) (fun x=>x.1≤rs.length∧sO k KP.length rs (rs.drop x.1) x.2=sO k KP.length rs rs []∧AllR n x.2∧KP.length+x.2.length≤60) (fun x=>rs.length-x.1) (0,[]) (Ent.to ⟨Z,Z,Z,Z,Z,ap⟩ (by rw[List.append_nil])) ?_ (fun x hi=>?_)))))))))))
 exact⟨cT _,Z,AllR.nil,by simp only[List.length_nil];omega⟩
 refine af (ae (ab Z (dh Z (js Z (jf [42,0,1,7,9,10] Z (jn (ah Z (fun z42=>?_) (fun z42=>?_))))))))
 refine aj (af (ao (ae ?_)))
 obtain⟨hx1,hx2,hx3,hx4⟩:=hi
 have hxl:x.1<rs.length:=by have:=bK z42;omega
 refine js Z (jn (ao (aw (X:=Nat×List Rw) (fun y=>⟨[(0,nX rs),(1,eI k),(7,.c (.rs 900 0 (KP.length+y.2.length))),(9,eI KP.length),(10,eI x.1),(11,eI y.1)],[(900,rL (KP++y.2))]⟩) (fun y=>y.1≤rs.length∧t4 (rs.getD x.1 default) k KP.length (rs.drop y.1) y.2=t4 (rs.getD x.1 default) k KP.length rs x.2∧AllR n y.2∧KP.length+y.2.length≤60) (fun y=>rs.length-y.1) (0,x.2) (Ent.to ⟨Z,Z,Z,Z,Z,Z,ap⟩ Z) ?_ (fun y hi=>?_))))
 exact⟨cT _,Z,hx3,hx4⟩
 refine af (ae (ab Z (dh Z (js Z (jf [48,0,1,7,9,10,11] Z (jn (ah Z (fun z48=>?_) (fun z48=>?_))))))))
 refine aj (af (ao (af (ae ?_))))
 obtain⟨hy1,hy2,hy3,hy4⟩:=hi
 have hyl:y.1<rs.length:=by have:=bK z48;omega
 have hpi:=hr.get hxl
 have hqj:=hr.get hyl
 have l1:=hpi.l
 have l2:=hqj.l
 have hgj:=uT (p:=(rs.getD x.1 default)) (k:=k) (b:=KP.length) (rs:=rs) (new:=y.2) (j:=y.1) hyl
 refine ab Z (jD Z Z (aH Z (jD Z Z (aH Z (jf [60,48,0,1,7,9,10,11] Z (aA 9 Z Z Z (fun hx=>ax hx Z (ax hx Z (dD hx (vN Z) Z (ax hx Z (ax hx Z (ax hx Z (dD hx (vN Z) Z (ax hx Z (ax hx Z (AN.nil)))))))))) Z Z (av (aG O Z Z Z Z Z) Z (jf [70,48,0,1,7,9,10,11] Z (jn (ah Z (fun z70=>?_) (fun z70=>?_)))))))))))
 refine bg (ak (js Z (ji Z (js Z (jf [11,70,48,0,1,7,9,10] Z (jn ?_))))))
 rw[if_pos (Hj z70)]at hgj
 refine⟨(y.1+1,y.2),Ent.to ⟨Z,Z,Z,Z,Z,Z,ap⟩ Z,⟨by show y.1+1≤_;omega,hgj.symm.trans hy2,hy3,hy4⟩,by show rs.length-(y.1+1)<rs.length-y.1;omega⟩
 refine aj (af ?_)
 have hcc:=Hk z70
 have hpk:0<(rs.getD x.1 default).xs.getD k default:=by omega
 have hqk:(rs.getD y.1 default).xs.getD k default<0:=by omega
 refine rC [_,_,_,_,_,_,_,_,_,_,_,_,_,_] [aF,aF,ag [0,1],aF,aF,ag [3,4],aF,pe [0,1,2,3,4,5,6] 0,pn [0,1,2,3,4,5,6,7] 1 1,pn [0,1,2,3,4,5,6,7,8] 1 1,pn [0,1,2,3,4,5,6,7,8] 1 2,pn [] 0 1,pe [0,1,2,3,4,5,6,7,8,9,11] 1,pn [0,1,2,3,4,5,6,7,8,9,10,11,12] 2 2] [7,12] 11 12 (.box [.d (.int .i64 0),.d .nils,.d .nils]) [_,_] [_] [] (kf Z Z Z (kf Z Z Z (ai (ai (aB (vN Z) (vN Z)) Z) (kf Z Z Z (kf Z Z Z (ai (ai (aB (vN Z) (vN Z)) Z) (kf Z Z Z (ai (ai (aB (aI (bR O (B0:=80000) Z Z Z Z (DT (p:=(rs.getD x.1 default)) (q:=(rs.getD y.1 default)) (k:=k) h1 h2 hpi hqj hk hpk hqk hn) (ac Z) Z Z Z Z Z)) (aI (bR O (B0:=80000) Z Z Z Z (DT (p:=(rs.getD x.1 default)) (q:=(rs.getD y.1 default)) (k:=k) h1 h2 hpi hqj hk hpk hqk hn) (ac Z) Z Z Z Z Z))) Z) (kf Z Z Z (kf Z Z Z (ai (kf Z Z Z (kg Z Z Z)) (ai (ai (ai (aI (Eff.alloc O Z Z Z Z Z Z)) Z) (ai (aI (Eff.alloc O Z Z Z Z Z Z)) Z)) (ai (ai (aB trivial (aI (eS Z Z Z))) Z) (ai (ai (aB trivial (V Z)) Z) trivial)))))))))))))) ?_
 refine jw [13,12,70,48,0,1,7,9,10,11] Z (b0 ?_)
 refine af (ae ?_)
 rw[if_neg hcc]at hgj
 refine aH Z (jf [84,12,70,48,0,1,7,9,10,11] Z (aA 3 Z Z Z (fun hx=>ax hx Z (dD hx (vI Z Z) Z (ax hx Z (AN.nil)))) Z Z (av (aG O Z Z Z Z Z) Z (jf [88,12,70,48,0,1,7,9,10,11] Z (jn (ah Z (fun z88=>?_) (fun z88=>?_)))))))
 refine ae (aH Z (jr ?_))
 refine aJ Z ?_
 have hno:=DA z88
 rw[if_neg hno]at hgj
 have hgi:=nz (k:=k) (b:=KP.length) (rs:=rs) (new:=x.2) (i:=x.1) hxl
 rw[←hy2,hgj]at hgi
 rw[uA (by show sO k (dc k rs).length rs rs []=none;rw[←eK,←hx2];exact hgi)]
 exact .tup (.cons (.c .nils) (.cons (.c .d) (.cons (.c .d) .nil)))
 refine aj (ak ?_)
 have hyes:=DB z88
 refine ab Z (aU (bp O Z Z Z Z Z Z Z Z Z Z Z) Z (aq ?_))
 refine jf [91,89,88,12,70,48,0,1,7,9,10,11] Z (aU (cU (own:=false) (xs:=(KP++y.2).map Rw.cells) (zs:=(KP++(y.2++[eR (rs.getD x.1 default) (rs.getD y.1 default) k])).map Rw.cells) (n:=KP.length+(y.2++[eR (rs.getD x.1 default) (rs.getD y.1 default) k]).length) O Z (.row Z (by simp)) (.whole Z Z (.inr ⟨Z,Z⟩)) (by simp) Z (by simp;omega) (by simp;omega) (by rw[←gF,List.map_append (l₁:=KP++y.2)];rfl) (by simp)) Z (aq ?_))
 refine js Z (jf [7,88,12,70,48,0,1,9,10,11] Z (jn (ak (js Z (ji Z (js Z (jf [11,7,88,12,70,48,0,1,9,10] Z (jn ?_))))))))
 rw[if_pos hyes]at hgj
 refine⟨(y.1+1,y.2++[eR (rs.getD x.1 default) (rs.getD y.1 default) k]),((am [92] (e':=[(0,_),(1,_),(7,_),(9,_),(10,_),(11,_)]) Z Z ⟨Z,Z,Z,Z,Z,Z,ap⟩ Z).trans (aa 92 900 Z Z)),⟨by show y.1+1≤_;omega,hgj.symm.trans hy2,hy3.snoc (s6 hpi hqj hpk hqk hyes.1),by simp only[cG,dL];omega⟩,by show rs.length-(y.1+1)<rs.length-y.1;omega⟩
 refine bg (ak (js Z (ji Z (js Z (jf [10,48,0,1,7,9,11] Z (jn ?_))))))
 obtain⟨hy1,hy2,hy3,hy4⟩:=hi
 have hye:rs.length≤y.1:=by have:=cu z48;omega
 rw[xQ hye]at hy2
 have hgi:=nz (k:=k) (b:=KP.length) (rs:=rs) (new:=x.2) (i:=x.1) (by omega)
 rw[←hy2]at hgi
 refine⟨(x.1+1,y.2),Ent.to ⟨Z,Z,Z,Z,Z,ap⟩ Z,⟨by show x.1+1≤_;omega,hgi.symm.trans hx2,hy3,hy4⟩,by show rs.length-(x.1+1)<rs.length-x.1;omega⟩
 refine bg (ae (az Z (js Z (jf [6,5,4,42,0,1,7,9,10] Z (jr ?_)))))
 refine aJ Z ?_
 obtain⟨hx1,hx2,hx3,hx4⟩:=hi
 have hxe:rs.length≤x.1:=by have:=cu z42;omega
 rw[xS hxe]at hx2
 rw[qo (new:=x.2) (by show sO k (dc k rs).length rs rs []=some x.2;rw[←eK,←hx2]),←eK]
 exact .tup (.cons (.c (.whole Z (by simp))) (.cons (.c .d) (.cons (.c .d) .nil)))
theorem DX(hf:Fs ts):MQ h1 h2 148 [.c (.rs 0 0 ts.length)] [(0,aN ts)] (bb (Dt (BV ts)) [(0,aN ts)]):=by
 refine MC.shift 500 Z (gD (jH 35 [500] h1 h2 Tryz.func148 Z fun O hF=>?_))
 have hlen:=hf.len
 refine ae (aH Z (ba (js Z (au O [500] (bin:=[aN ts]) Z Z Z Z (IL (ts:=ts) h1 h2 hf) Z Z Z Z Z Z (B0:=13000) Z Z (aq ?_)))))
 refine js Z (ba (aU (bp O Z Z Z Z Z Z Z Z Z Z Z) Z (aq ?_)))
 refine js Z (jn (af (ae (js Z (jn (ao (aw (X:=Nat×List Rw×List Rw) (fun x=>⟨[(5,nX x.2.1),(6,.c (.rs 900 0 x.2.2.length)),(7,eI x.1)],[(900,rL x.2.2),(500,aN ts)]⟩) (fun x=>x.1≤10∧il (10-x.1) x.1 x.2.1 x.2.2=dF ts∧AllR ts.length x.2.1∧x.2.1.length≤60∧AllR ts.length x.2.2∧x.2.2.length≤60*x.1) (fun x=>10-x.1) (0,ue ts,[]) ((aa 13 900 Z Z).trans (Ent.to ⟨Z,Z,Z,ap⟩ Z)) ?_ (fun x hi=>?_))))))))
 exact⟨cT _,Z,qp hf,by show(fT ts ts.length).length≤60;rw[cv];omega,AllR.nil,cT _⟩
 refine af (ae (ab Z (jn (ah Z (fun z15=>?_) (fun z15=>?_)))))
 refine aj (af (ao (ae ?_)))
 obtain⟨hx1,hx2,hx3,hx4,hx5,hx6⟩:=hi
 have hxl:x.1<10:=by have:=bK z15;omega
 refine ab Z (an O Z Z Z Z (IK (n:=ts.length) (rs:=x.2.1) (k:=x.1) h1 h2 hx3 hx4 hxl (by omega)) (ac Z) Z Z Z Z (B0:=22000) Z Z (az Z (aH Z (jn (af (ae (ab Z (jn (ah Z (fun z26=>?_) (fun z26=>?_))))))))))
 refine ae (aH Z (jr ?_))
 refine aJ Z ?_
 refine⟨?_,Z⟩
 have hs:=HL (k:=x.1) (rs:=x.2.1) (by simpa using z26)
 have he:dF ts=none:=by rw[←hx2,show 10-x.1=(10-(x.1+1))+1 by omega,kv hs]
 rw[qF he]
 exact .tup (.cons (.c .nils) (.cons (.c .nils) (.cons (.c .d) .nil)))
 refine aj (ae ?_)
 obtain⟨new,hs⟩:=HK (k:=x.1) (rs:=x.2.1) (by simpa using z26)
 have hso:=oi hx3 hx4 hs
 rw[qo hs]
 refine aH Z (av ((eF O Z Z ⟨by simp,by simp⟩).cast (v':=nX new) (by simp[List.map_append];exact List.take_of_length_le (by simp))) Z (aU (cU (own:=false) (xs:=x.2.2.map Rw.cells) (ys:=new.map Rw.cells) (zs:=(x.2.2++new).map Rw.cells) (n:=(x.2.2++new).length) O Z (.row Z (bQ _).symm) (.slc (.inl Z)) (by simp) Z (by simp;omega) (by simp;omega) (by simp) (by simp)) Z (aq ?_)))
 refine js Z (jn (ak (ab Z (jn (ak (js Z (ji Z (js Z (jn ?_)))))))))
 refine⟨(x.1+1,dc x.1 x.2.1++new,x.2.2++new),((am [31,500] (e':=[(5,_),(6,_),(7,_)]) Z Z ⟨Z,Z,Z,ap⟩ Z).trans (aa 31 900 Z Z)),⟨by show x.1+1≤10;omega,?_,hso.1,hso.2.1,hx5.app hso.2.2.1,?_⟩,by show 10-(x.1+1)<10-x.1;omega⟩
 show il (10-(x.1+1)) (x.1+1) _ _=_
 rw[←hx2,show 10-x.1=(10-(x.1+1))+1 by omega,ku hs]
 show(x.2.2++new).length≤60*(x.1+1)
 rw[cG];omega
 refine bg (ae (az Z (js Z (jr ?_))))
 refine aJ Z ?_
 refine⟨?_,Z⟩
 obtain⟨hx1,hx2,hx3,hx4,hx5,hx6⟩:=hi
 have hxe:x.1=10:=by have:=cu z15;omega
 rw[hxe]at hx2
 have he:dF ts=some x.2:=hx2.symm
 rw[iE he]
 exact .tup (.cons (.c .d) (.cons (.c (.whole Z (bQ _).symm)) (.cons (.c .d) .nil)))
abbrev zL(z:List Int×Bool):A:=.tup [ce z.1,eB z.2]
def ub(ts:List Tm):Tm×List Int×Int×Bool:=match fm ts with
  | none=>(⟨0,[]⟩,[],0,false)
  | some r=>((aM ts r.tm).1,r.ms,(bB r.tm.xs:Int),true)
abbrev Du(z:Tm×List Int×Int×Bool):A:=.tup [db z.1,ce z.2.1,eI z.2.2.1,eB z.2.2.2]
theorem oC{ts:List Tm}(h:fm ts=none):ub ts=(⟨0,[]⟩,[],0,false):=by unfold ub;rw[h]
theorem oB{ts:List Tm}{r:Rw}(h:fm ts=some r):ub ts=((aM ts r.tm).1,r.ms,(bB r.tm.xs:Int),true):=by unfold ub;rw[h]
theorem x3{ts:List Tm}(h:dF ts=none):fm ts=none:=by unfold fm;rw[h]
theorem pS{ts:List Tm}{z:List Rw×List Rw}(h:dF ts=some z):fm ts=kF ts z.2:=by unfold fm;rw[h]
theorem xG{ts:List Tm}(h:dF ts=none):dE ts=([],false):=by unfold dE;rw[h]
theorem Aj{ts:List Tm}{z:List Rw×List Rw}(h:dF ts=some z)(h2:ij z.1=none):dE ts=([],false):=by unfold dE;rw[h];simp only;rw[h2]
theorem Ai{ts:List Tm}{z:List Rw×List Rw}{r:Rw}(h:dF ts=some z)(h2:ij z.1=some r):dE ts=(r.ms,true):=by unfold dE;rw[h];simp only;rw[h2]
def t7(ts:List Tm):Int×Tm:=match f6 ts with
  | some i=>((i:Int),(aM ts (ts.getD i default)).1)
  | none=>(-1,⟨0,[]⟩)
abbrev Dr(z:Int×Tm):A:=.tup [eI z.1,db z.2]
theorem oe{ts:List Tm}{i:Nat}(h:f6 ts=some i):t7 ts=((i:Int),(aM ts (ts.getD i default)).1):=by unfold t7;rw[h]
theorem r3{ts:List Tm}(h:f6 ts=none):t7 ts=(-1,⟨0,[]⟩):=by unfold t7;rw[h]
theorem Ae{ts:List Tm}{i:Nat}(h:i<ts.length)(h2:(aM ts (ts.getD i default)).2=true):pW ts (ts.length-i) i=some i:=by
 rw[show ts.length-i=(ts.length-(i+1))+1 by omega,pW,if_pos h2]
theorem Af{ts:List Tm}{i:Nat}(h:i<ts.length)(h2:(aM ts (ts.getD i default)).2=false):pW ts (ts.length-i) i=pW ts (ts.length-(i+1)) (i+1):=by
 rw[show ts.length-i=(ts.length-(i+1))+1 by omega,pW,if_neg (by rw[h2];decide)]
theorem yO{ts:List Tm}{i:Nat}(h:i<ts.length):(ts.map Tm.cells)[0+((i:Nat):Int).toNat]? = some (ts.getD i default).cells:=by
 rw[Nat.zero_add,Int.toNat_natCast,List.getElem?_map,List.getElem?_eq_getElem h,aD h];rfl
theorem IT(hf:Fs ts):MQ h1 h2 104 [.c (.rs 0 0 ts.length)] [(0,aN ts)] (bb (zL (dE ts)) [(0,aN ts)]):=by
 refine MC.shift 500 Z (gD (jH 33 [500] h1 h2 Tryz.func104 Z fun O hF=>?_))
 refine ae (ab Z (ba (js Z (au O [500] (bin:=[aN ts]) Z Z Z Z (DX (ts:=ts) h1 h2 hf) Z Z Z Z Z Z (B0:=11000) Z Z (aq ?_)))))
 refine az Z (aH Z (jn (af (ae (ab Z (jn (ah Z (fun z15=>?_) (fun z15=>?_))))))))
 refine ae (ab Z (jr ?_))
 refine aJ Z ?_
 refine⟨?_,Z⟩
 rw[xG (xk (by simpa using z15))]
 exact .tup (.cons (.c .nils) (.cons (.c .d) .nil))
 refine aj (af (ae ?_))
 obtain⟨z,hz⟩:=xj (ts:=ts) (by simpa using z15)
 rw[iE hz]
 obtain⟨ha,hal,hb,hbl⟩:=jT hf (a:=z.1) (b:=z.2) hz
 refine js Z (jn (ao (aw (X:=Nat) (fun i=>⟨[(4,nX z.1),(7,eI i)],[(500,aN ts)]⟩) (fun i=>i≤z.1.length∧ij (z.1.drop i)=ij z.1) (fun i=>z.1.length-i) 0 (Ent.to ⟨Z,Z,ap⟩ Z) ?_ (fun i hi=>?_))))
 exact⟨cT _,Z⟩
 refine af (ae (ab Z (dh Z (js Z (jn (ah Z (fun z19=>?_) (fun z19=>?_)))))))
 refine aj (af (ao (ae ?_)))
 have hil:i<z.1.length:=by have:=bK z19;omega
 have hfc:=rc (rs:=z.1) hil
 refine ab Z (jD Z Z (aH Z (jn (ah Z (fun z27=>?_) (fun z27=>?_)))))
 refine ae (ab Z (jD Z Z (az Z (jr ?_))))
 refine aJ Z ?_
 refine⟨?_,Z⟩
 rw[if_pos (bK z27),hi.2]at hfc
 rw[Ai hz hfc]
 exact .tup (.cons (.c .d) (.cons (.c .d) .nil))
 refine aj (ak (js Z (ji Z (js Z (jn ?_)))))
 rw[if_neg (cu z27)]at hfc
 exact⟨i+1,Ent.to ⟨Z,Z,ap⟩ Z,⟨by omega,hfc.symm.trans hi.2⟩,by omega⟩
 refine bg (ae (ab Z (jr ?_)))
 refine aJ Z ?_
 refine⟨?_,Z⟩
 have hle:z.1.length≤i:=by have:=cu z19;omega
 have h9:=hi.2
 rw[sk hle]at h9
 rw[Aj hz h9.symm]
 exact .tup (.cons (.c .nils) (.cons (.c .d) .nil))
theorem IS(hf:Fs ts):MQ h1 h2 105 [.c (.rs 0 0 ts.length)] [(0,aN ts)] (bb (Du (ub ts)) [(0,aN ts)]):=by
 refine MC.shift 500 Z (gD (jH 46 [500] h1 h2 Tryz.func105 Z fun O hF=>?_))
 refine ae (jl Z (aq ?_))
 refine aH Z (ba (js Z (au O [500] (bin:=[aN ts]) Z Z Z Z (DX (ts:=ts) h1 h2 hf) Z Z Z Z Z Z (B0:=16000) Z Z (ar (Ent.to (e':=[(15,Dt (BV ts)),(0,.c (.rs 500 0 ts.length)),(2,.c (.pt 2 0 0))]) (H':=[(2,.box [.d (.int .i64 0),.d .nils]),(500,aN ts)]) ⟨Z,Z,Z,ap⟩ Z) (az Z (aH Z (jn (af (ae (ab Z (jn (ah Z (fun z20=>?_) (fun z20=>?_)))))))))))))
 refine ae (js Z (jo Z (aq ?_)))
 refine aH Z (jr ?_)
 refine aJ Z ?_
 refine⟨?_,Z⟩
 rw[oC (x3 (xk (by simpa using z20)))]
 exact .tup (.cons (.agg (.cons .d (.cons .nils .nil))) (.cons (.c .nils) (.cons (.c .d) (.cons (.c .d) .nil))))
 refine aj (af (ae ?_))
 obtain⟨z,hz⟩:=xj (ts:=ts) (by simpa using z20)
 rw[iE hz]
 obtain⟨ha,hal,hb,hbl⟩:=jT hf (a:=z.1) (b:=z.2) hz
 refine js Z (jn (ao (aw (X:=Nat) (fun i=>⟨[(0,.c (.rs 500 0 ts.length)),(2,.c (.pt 2 0 0)),(7,nX z.2),(9,eI i)],[(2,.box [.d (.int .i64 0),.d .nils]),(500,aN ts)]⟩) (fun i=>i≤z.2.length∧kF ts (z.2.drop i)=kF ts z.2) (fun i=>z.2.length-i) 0 (Ent.to ⟨Z,Z,Z,Z,ap⟩ Z) ?_ (fun i hi=>?_))))
 exact⟨cT _,Z⟩
 refine af (ae (ab Z (dh Z (js Z (jn (ah Z (fun z25=>?_) (fun z25=>?_)))))))
 refine aj (af (ao (ae ?_)))
 have hil:i<z.2.length:=by have:=bK z25;omega
 have hfc:=rd (ts:=ts) (rs:=z.2) hil
 have hro:=hb.get hil
 refine ab Z (jD Z Z (an O Z Z Z Z (IO (r:=z.2.getD i default) h1 h2 hro.tm) (ac Z) Z Z Z Z (B0:=32000) Z Z (jl Z (aq ?_))))
 refine jo Z (aq ?_)
 refine ba (ar (Ent.freeze 10 (e':=[(10,_),(0,_),(2,_),(7,_),(9,_)]) Z (.cons Z (.c (.box (cs:=Tm.cells (z.2.getD i default).tm) Z (aE Z))) (fe [0,2,7,9] Z)) (aZ Z (.skip (bh Z .nil)))) ?_)
 refine js Z (au O [500] (bin:=[aN ts]) Z Z Z Z (Gj (ts:=ts) (t:=(z.2.getD i default).tm) h1 h2 hro.tm) Z Z Z Z Z Z (B0:=35000) Z Z (ar (Ent.to (e':=[(34,iZ (aM ts (z.2.getD i default).tm)),(0,.c (.rs 500 0 ts.length)),(2,.c (.pt 2 0 0)),(7,nX z.2),(9,eI i),(10,ptr (Tm.cells (z.2.getD i default).tm))]) (H':=[(2,.box [.d (.int .i64 0),.d .nils]),(500,aN ts)]) ⟨Z,Z,Z,Z,Z,Z,ap⟩ Z) (aH Z (jl Z (aq ?_)))))
 refine jo Z (aq ?_)
 refine js Z (ba (js Z (jn (ah Z (fun z37=>?_) (fun z37=>?_)))))
 refine af (fZ [_,_,_,_,_,_,_,_,_,_,_] [pn [] 0 1,pn [] 0 2,pn [] 0 2,pn [1,2] 0 2,pn [1,2,3] 0 2,pn (rg 1 4) 0 2,pe [] 0,pe [0,6] 1,pn (rg 0 8) 2 2,pn (rg 0 9) 2 2,pn (rg 0 10) 2 2] [6,7] [_,_,_] (ai (kc Z (V Z)) (ai (kc Z (kc Z (V Z))) (ai (kc Z (kc Z (V Z))) (ai (ai (vN Z) (ai (vN Z) (vN Z))) (ai (kc Z (kc Z (V Z))) (ai (kc Z (kc Z (V Z))) (ai (bv O (B0:=45000) Z Z Z Z (zz (t:=(z.2.getD i default).tm) h1 h2 (Small.of hro.tm).xs) (ac Z) Z Z Z Z Z) (ai (eS Z Z Z) (kc Z (kc Z (kc Z trivial))))))))))) ?_)
 refine jw [5,4,3,37,12,11,0,2,7,9,10] Z (b0 ?_)
 refine ea ?_
 refine aJ Z ?_
 refine⟨?_,Z⟩
 rw[if_pos z37,hi.2,←pS hz]at hfc
 rw[oB hfc]
 exact .tup (.cons (.agg (aE Z)) (.cons (.c .d) (.cons (.c .d) (.cons (.c .d) .nil))))
 refine aj (ak (js Z (ji Z (js Z (jn ?_)))))
 rw[if_neg (by rw[z37];decide)]at hfc
 refine⟨i+1,((am [2,500] (e':=[(0,_),(2,_),(7,_),(9,_)]) Z Z ⟨Z,Z,Z,Z,ap⟩ Z).trans b9),⟨by omega,hfc.symm.trans hi.2⟩,by omega⟩
 refine bg (ae (js Z (jo Z (aq ?_))))
 refine aH Z (jr ?_)
 refine aJ Z ?_
 refine⟨?_,Z⟩
 have hle:z.2.length≤i:=by have:=cu z25;omega
 have h9:=hi.2
 rw[sl hle,←pS hz]at h9
 rw[oC h9.symm]
 exact .tup (.cons (.agg (.cons .d (.cons .nils .nil))) (.cons (.c .nils) (.cons (.c .d) (.cons (.c .d) .nil))))
theorem IU(hf:Fs ts):MQ h1 h2 103 [.c (.rs 0 0 ts.length)] [(0,aN ts)] (bb (Dr (t7 ts)) [(0,aN ts)]):=by
 refine MC.shift 500 Z (gD (jH 25 [500] h1 h2 Tryz.func103 Z fun O hF=>?_))
 have hlen:=hf.len
 refine ae (js Z (jl Z (aq ?_)))
 refine jn (af (ae (js Z (jn (ao (aw (X:=Nat) (fun i=>⟨[(0,.c (.rs 500 0 ts.length)),(3,.c (.pt 3 0 0)),(4,eI i)],[(3,.box [.d (.int .i64 0),.d .nils]),(500,aN ts)]⟩) (fun i=>i≤ts.length∧pW ts (ts.length-i) i=f6 ts) (fun i=>ts.length-i) 0 (Ent.to ⟨Z,Z,Z,ap⟩ Z) ?_ (fun i hi=>?_)))))))
 exact⟨cT _,Z⟩
 refine af (ae (ab Z (dv Z Z (js Z (jn (ah Z (fun z10=>?_) (fun z10=>?_)))))))
 refine aj (af (ao (ae ?_)))
 have hil:i<ts.length:=by have:=bK z10;omega
 have hget:=yO hil
 have hti:=hf.get hil
 refine aH Z (dv Z Z (au O [500] (bin:=[aN ts]) Z Z Z Z (Gk (ts:=ts) (t:=ts.getD i default) h1 h2 hget hti) Z Z Z Z Z Z (B0:=19000) Z Z (ar (Ent.to (e':=[(18,iZ (aM ts (ts.getD i default))),(0,.c (.rs 500 0 ts.length)),(3,.c (.pt 3 0 0)),(4,eI i)]) (H':=[(3,.box [.d (.int .i64 0),.d .nils]),(500,aN ts)]) ⟨Z,Z,Z,Z,ap⟩ Z) (aH Z (jl Z (aq ?_))))))
 refine jo Z (aq ?_)
 refine js Z (ba (js Z (jn (ah Z (fun z21=>?_) (fun z21=>?_)))))
 refine af (fZ [_,_,_,_] [aF,aF,ag [0],pe [0,1,2] 0] [3] [_,_] (kc Z (kc Z (kc Z (ai (eS Z Z Z) trivial)))) ?_)
 refine jw [2,21,6,5,0,3,4] Z (b0 ?_)
 refine ea ?_
 refine aJ Z ?_
 refine⟨?_,Z⟩
 have hg:=Ae hil z21
 rw[hi.2]at hg
 rw[oe hg]
 exact .tup (.cons (.c .d) (.cons (.agg (aE Z)) .nil))
 refine aj (ak (js Z (ji Z (js Z (jn ?_)))))
 have hg:=Af hil z21
 refine⟨i+1,((am [3,500] (e':=[(0,_),(3,_),(4,_)]) Z Z ⟨Z,Z,Z,ap⟩ Z).trans b9),⟨by omega,hg.symm.trans hi.2⟩,by omega⟩
 refine bg (ae (ab Z (jo Z (aq ?_))))
 refine jr ?_
 refine aJ Z ?_
 refine⟨?_,Z⟩
 have hie:i=ts.length:=by have:=cu z10;omega
 have h9:=hi.2
 rw[hie,Nat.sub_self]at h9
 rw[r3 h9.symm]
 exact .tup (.cons (.c .d) (.cons (.agg (.cons .d (.cons .nils .nil))) .nil))
abbrev f3(ts:List Tm):Option (List Nd×List Nd):=j9 (15-ts.length) ts
theorem yE{ts:List Tm}{i:Nat}(hl:ts.length=14)(h:f6 ts=some i):f3 ts=none:=by
 unfold f3;rw[show 15-ts.length=0+1 by omega,j9,h];simp only;rw[if_pos hl]
theorem A8{ts:List Tm}{i:Nat}(hl:ts.length<14)(h:f6 ts=some i):f3 ts=(f3 (ts++[(aM ts (ts.getD i default)).1])).map fun z=>(ew i::z.1,z.2):=by
 unfold f3;rw[cG,dL,show 15-ts.length=(15-(ts.length+1))+1 by omega,j9,h];simp only;rw[if_neg (by omega)]
theorem Ba{ts:List Tm}(hl:ts.length≤14)(h:f6 ts=none)(h2:(dE ts).2=true):f3 ts=some ([dp (dE ts).1],[]):=by
 unfold f3;rw[show 15-ts.length=(14-ts.length)+1 by omega,j9,h];simp only;rw[if_pos h2]
theorem qX{ts:List Tm}(hl:ts.length≤14)(h:f6 ts=none)(h2:(dE ts).2=false)(h3:fm ts=none):f3 ts=none:=by
 unfold f3;rw[show 15-ts.length=(14-ts.length)+1 by omega,j9,h];simp only;rw[if_neg (by rw[h2];decide),h3]
theorem wx{ts:List Tm}{r:Rw}(hl:ts.length=14)(h:f6 ts=none)(h2:(dE ts).2=false)(h3:fm ts=some r):f3 ts=none:=by
 unfold f3;rw[show 15-ts.length=0+1 by omega,j9,h];simp only;rw[if_neg (by rw[h2];decide),h3];simp only;rw[if_pos hl]
theorem ww{ts:List Tm}{r:Rw}(hl:ts.length≤14)(h:f6 ts=none)(h2:(dE ts).2=false)(h3:fm ts=some r)(h4:(aX (aM ts r.tm).1).2=false):f3 ts=none:=by
 unfold f3;rw[show 15-ts.length=(14-ts.length)+1 by omega,j9,h];simp only;rw[if_neg (by rw[h2];decide),h3];simp only;split
 rfl
 rw[if_neg (by rw[h4];decide)]
theorem A9{ts:List Tm}{r:Rw}(hl:ts.length<14)(h:f6 ts=none)(h2:(dE ts).2=false)(h3:fm ts=some r)(h4:(aX (aM ts r.tm).1).2=true):f3 ts=(f3 (ts++[(aM ts r.tm).1])).map fun z=>(dH (aM ts r.tm).1::z.1,z.2++[dp (fj r)]):=by
 unfold f3;rw[cG,dL,show 15-ts.length=(15-(ts.length+1))+1 by omega,j9,h];simp only;rw[if_neg (by rw[h2];decide),h3];simp only;rw[if_neg (by omega),if_pos h4]
theorem l5{s:Sq}{b:Int}(hok:(aX s.goal).2=true)(h:f3 (s.facts++[(aX s.goal).1])=none):cN s b=([],false):=by
 unfold f3 at h;rw[cG,dL]at h
 unfold cN;rw[if_pos hok,h]
theorem sa{s:Sq}{b:Int}{z:List Nd×List Nd}(hok:(aX s.goal).2=true)(h:f3 (s.facts++[(aX s.goal).1])=some z):cN s b=if((z.1++z.2).length:Int)≤b then(z.1++z.2,true)else([],false):=by
 unfold f3 at h;rw[cG,dL]at h
 unfold cN;rw[if_pos hok,h]
theorem uD{s:Sq}{b:Int}(hok:(aX s.goal).2=false):cN s b=([],false):=by
 unfold cN;rw[if_neg (by rw[hok];decide)]
theorem Ew{ts:List Tm}(h:0≤(t7 ts).1): ∃i,f6 ts=some i:=by
 cases ht:f6 ts with
 | some i=>exact⟨i,Z⟩
 | none=>rw[r3 ht]at h;exact absurd h (by decide)
theorem Ey{ts:List Tm}(h: ¬0≤(t7 ts).1):f6 ts=none:=by
 cases ht:f6 ts with
 | none=>rfl
 | some i=>rw[oe ht]at h;exact absurd (Int.natCast_nonneg i) h
theorem EX{ts:List Tm}(h:(ub ts).2.2.2=true): ∃r,fm ts=some r:=by
 cases ht:fm ts with
 | some r=>exact⟨r,Z⟩
 | none=>rw[oC ht]at h;cases h
theorem EY{ts:List Tm}(h:(ub ts).2.2.2=false):fm ts=none:=by
 cases ht:fm ts with
 | none=>rfl
 | some r=>rw[oB ht]at h;cases h
theorem Fs.snoc'{ts:List Tm}{t:Tm}(h:Fs ts)(ht:t.ok=true)(hl: ¬(ts.length:Int)=14):Fs (ts++[t]):=h.snoc ht (by omega)
theorem pE{s:Sq}(hs:dW s=true)(hok:(aX s.goal).2=true):Fs (s.facts++[(aX s.goal).1]):=by
 obtain⟨q1,q2,q3⟩:=fJ hs
 exact Fs.snoc ⟨q1,by omega⟩ (lM hok) (by omega)
abbrev rM(z:List Nd×Bool):A:=.tup [nY z.1,eB z.2]
theorem iA{H:List (Nat×B)}:VR H (.tup [.c (.d .nils),eB false]) (rM ([],false)):=.tup (.cons (.c .nils) (.cons (.c .d) .nil))
structure PvI(C:List Tm)(x:List Tm×List Nd×List Nd):Prop where
  f:Fs x.1
  a:x.2.1.length≤x.1.length
  b:x.2.2.length≤x.1.length
  e:(f3 x.1).map (fun z=>(x.2.1++z.1,z.2++x.2.2))=f3 C
theorem PvI.none{C:List Tm}{x:List Tm×List Nd×List Nd}(h:PvI C x)(hn:f3 x.1=none):f3 C=none:=by rw[←h.e,hn];rfl
theorem PvI.zero{C:List Tm}(h:Fs C):PvI C (C,[],[]):=⟨h,cT _,cT _,by
  simp only[List.nil_append,List.append_nil]
  cases f3 C<;>rfl⟩
theorem PvI.tig{C:List Tm}{x:List Tm×List Nd×List Nd}{i:Nat}(h:PvI C x)(hl: ¬(x.1.length:Int)=14)(hi:f6 x.1=some i):PvI C (x.1++[(aM x.1 (x.1.getD i default)).1],x.2.1++[ew i],x.2.2):=by
 have h14:=h.f.len
 refine⟨h.f.snoc' (fv (lY hi).2.2) hl,by simp only[cG,dL];have:=h.a;omega,by simp only[cG,dL];have:=h.b;omega,?_⟩
 rw[←h.e,A8 (by omega) hi]
 cases f3 (x.1++[(aM x.1 (x.1.getD i default)).1])<;>simp
theorem PvI.cut{C:List Tm}{x:List Tm×List Nd×List Nd}{r:Rw}(h:PvI C x)(hl: ¬(x.1.length:Int)=14)(h0:f6 x.1= .none)(h2:(dE x.1).2=false)(h3:fm x.1=some r)(h4:(aX (aM x.1 r.tm).1).2=true):PvI C (x.1++[(aM x.1 r.tm).1],x.2.1++[dH (aM x.1 r.tm).1],dp (fj r)::x.2.2):=by
 have h14:=h.f.len
 refine⟨h.f.snoc' (fv (km h.f h3).2) hl,by simp only[cG,dL];have:=h.a;omega,by simp only[cG,dL,eH];have:=h.b;omega,?_⟩
 rw[←h.e,A9 (by omega) h0 h2 h3 h4]
 cases f3 (x.1++[(aM x.1 r.tm).1])<;>simp
theorem JK{o:Bool}{n:Nat}(h:(bif !o then true else decide ((n:Int)=14))=true):o=false∨n=14:=by
 cases o with
 | false=>exact .inl Z
 | true=>simp at h;right;omega
theorem HV{o:Bool}{n:Nat}(h:(bif !o then true else decide ((n:Int)=14))=false):o=true∧¬(n:Int)=14:=by
 cases o with
 | false=>simp at h
 | true=>simp at h;exact⟨rfl,by omega⟩
variable{s:Sq}
theorem Ij(hg:Small s.goal)(hn:s.facts.length≤1000)(hok:(aX s.goal).2=true):MQ h1 h2 102 [ptr s.cells] [] (Rows (.tup [.c (.rs 0 0 (s.facts++[(aX s.goal).1]).length),eB true]) [aN (s.facts++[(aX s.goal).1])]):=by
 refine cH (jB 23 h1 h2 Tryz.func102 Z fun O hF=>?_)
 refine ae (ab Z (ba (aH Z (an O Z Z Z Z (zD (t:=s.goal) h1 h2 hg) (.cons (.c (.sub Z)) .nil) Z Z Z Z (B0:=11000) Z Z (aH Z (jl Z (jo Z (js Z (jn (af (ae (ab Z (jn (ah Z (fun z14=>?_) (fun z14=>?_)))))))))))))))
 try simp only[bG]at z14
 rw[hok]at z14;cases z14
 try simp only[bG]at z14
 refine aj (af (jw [4,0] Z (rC [_,_,_,_,_,_,_,_,_,_] [aF,ag [0],ag [0,1],ag [0,1,2],pe [0,1,2,3] 0,pn [] 0 1,pn [5] 0 1,pe [0,1,2,3,4,5,6] 1,pn [0,1,2,3,4,5,6,7] 2 2,pn [0,1,2,3,4,5,6,7,8] 2 2] [4,7] 6 21 (.row false 2 [Tm.cells (aX s.goal).1]) [_,_] [_] [[],[20000]] (kf Z Z Z (kf Z Z Z (kf Z Z Z (kf Z Z Z (ai (ai (aB (aI (el O (B0:=20000) Z Z Z Z (sW (ts:=s.facts) h1 h2) (ac Z) Z Z Z Z)) (aI (el O (B0:=20000) Z Z Z Z (sW (ts:=s.facts) h1 h2) (ac Z) Z Z Z Z))) Z) (ai (kf Z Z Z (kg Z Z Z)) (ai (ai (ai (aI (cQ O Z Z Z Z Z Z Z Z Z Z Z Z Z Z)) Z) (ai (aI (cQ O Z Z Z Z Z Z Z Z Z Z Z Z Z Z)) Z)) (ai (ai (aB trivial (cp (own:=false) (xs:=s.facts.map Tm.cells) (ys:=[Tm.cells (aX s.goal).1]) (zs:=(s.facts++[(aX s.goal).1]).map Tm.cells) (n:=(s.facts++[(aX s.goal).1]).length) O Z Z Z Z Z Z Z Z Z Z Z Z Z Z Z Z (.row Z (bQ _).symm) (.whole Z Z (.inr ⟨Z,Z⟩)) (by simp) Z (by simp;omega) (by simp;omega) (by simp) (by simp) Z)) Z) (ai (ai (aB trivial (V Z)) Z) (ai (ai (aB trivial (V Z)) Z) trivial)))))))))) ?_)))
 refine jw [3,2,4,0] Z (b0 ?_)
 refine ea ?_
 refine⟨.inl Z,_,b9,_,Z,[22],by decide,Z,Z,Z⟩
theorem Gp(hs:dW s=true)(hb:1≤b∧b≤60)(hok:(aX s.goal).2=true):MQ h1 h2 67 [ptr s.cells,eI b] [] (Plain (rM (cN s b))):=by
 refine MC.data (jB 104 h1 h2 Tryz.func67 Z fun O hF=>?_)
 obtain⟨hs1,hs2,hs3⟩:=fJ hs
 refine ae (ab Z (ba (js Z (iM O (B0:=21000) Z Z Z Z (Ij (s:=s) h1 h2 (Small.of hs3) (by omega) hok) (ac Z) Z Z Z Z Z (az Z (js Z (jn (af (ae (ab Z (jn (ah Z (fun z24=>?_) (fun z24=>?_)))))))))))))
 exact absurd z24 (by decide)
 refine aj (ae (aU (bp O Z Z Z Z Z Z Z Z Z Z Z) Z (aq ?_)))
 refine js Z (ba (aU (bp O Z Z Z Z Z Z Z Z Z Z Z) Z (aq ?_)))
 refine js Z (jn (af (ao (aw (X:=List Tm×List Nd×List Nd) (fun x=>⟨[(1,eI b),(6,.c (.rs 901 0 x.1.length)),(8,.c (.rs 902 0 x.2.1.length)),(9,.c (.rs 903 0 x.2.2.length))],[(902,dx x.2.1),(903,dx x.2.2),(901,aN x.1)]⟩) (fun x=>PvI (s.facts++[(aX s.goal).1]) x) (fun x=>15-x.1.length) ((s.facts++[(aX s.goal).1]),[],[]) (((((am [25,26,21000] (e':=[(1,_),(6,_),(8,_),(9,_)]) Z Z ⟨Z,Z,Z,Z,ap⟩ Z).trans (aa 25 902 Z Z)).trans (aa 26 903 Z Z)).trans (aa 21000 901 Z Z))) ?_ (fun x hi=>?_)))))
 exact PvI.zero (pE hs hok)
 refine ao (ae ?_)
 have hlen:=hi.f.len;have hla:=hi.a;have hlb:=hi.b
 refine js Z (au O [901] (bin:=[aN x.1]) Z Z Z Z (IU (ts:=x.1) h1 h2 hi.f) Z Z Z Z Z Z (B0:=30000) Z Z (ar (Ent.to (e':=[(29,Dr (t7 x.1)),(1,eI b),(6,.c (.rs 901 0 x.1.length)),(8,.c (.rs 902 0 x.2.1.length)),(9,.c (.rs 903 0 x.2.2.length))]) (H':=[(902,dx x.2.1),(903,dx x.2.2),(901,aN x.1)]) ⟨Z,Z,Z,Z,Z,ap⟩ Z) (aH Z (jl Z (aq ?_)))))
 refine js Z (jo Z (aq ?_))
 refine jn (af (ae (ab Z (jn (ah Z (fun z33=>?_) (fun z33=>?_))))))
 refine af (ae ?_)
 obtain⟨i,hti⟩:=Ew (bK z33)
 rw[oe hti]
 refine js Z (dv Z Z (js Z (jn (ah Z (fun z36=>?_) (fun z36=>?_)))))
 refine ae (ab Z (jr ?_))
 refine aJ Z ?_
 rw[l5 hok (hi.none (yE (by have:=bK z36;omega) hti))]
 exact iA
 refine aj (ae (aH Z (aU (bp O Z Z Z Z Z Z Z Z Z Z Z) Z (ar (Ent.rowLe 40 Z (NLess.cons (ys:=[]) (y:=Nd.cells (ew i)) (aQ (aQ (aQ (.cons (.nil (sz:=1)) (.cons (.nil (sz:=1)) .nil))))) .nil)) (aq ?_)))))
 refine aq ?_
 refine aU (cU (own:=false) (xs:=(x.2.1).map Nd.cells) (ys:=[Nd.cells (ew i)]) (zs:=(x.2.1++[ew i]).map Nd.cells) (n:=(x.2.1++[ew i]).length) O Z (.row Z (bQ _).symm) (.whole Z Z (.inr ⟨Z,Z⟩)) (by simp) Z (by simp only[bQ,cG,dL,eH,List.length_nil];omega) (by simp only[bQ,cG,dL,eH,List.length_nil];omega) (by rw[List.map_append];rfl) (bQ _)) Z (aq ?_)
 refine aq ?_
 refine js Z (ba (ab Z (aU (bp O Z Z Z Z Z Z Z Z Z Z Z) Z (aq ?_))))
 refine aU (cU (own:=false) (xs:=(x.1).map Tm.cells) (ys:=[Tm.cells (aM x.1 (x.1.getD i default)).1]) (zs:=(x.1++[(aM x.1 (x.1.getD i default)).1]).map Tm.cells) (n:=(x.1++[(aM x.1 (x.1.getD i default)).1]).length) O Z (.row Z (bQ _).symm) (.whole Z Z (.inr ⟨Z,Z⟩)) (by simp) Z (by simp only[bQ,cG,dL,eH,List.length_nil];omega) (by simp only[bQ,cG,dL,eH,List.length_nil];omega) (by rw[List.map_append];rfl) (bQ _)) Z (aq ?_)
 refine aq ?_
 refine js Z (jn (bg ?_))
 refine⟨(x.1++[(aM x.1 (x.1.getD i default)).1],x.2.1++[ew i],x.2.2),(((am [41,903,45] (e':=[(1,_),(6,_),(8,_),(9,_)]) Z Z ⟨Z,Z,Z,Z,ap⟩ Z).trans (aa 41 902 Z Z)).trans (aa 45 901 Z Z)),hi.tig (cu z36) hti,by simp only[cG,dL];have:=cu z36;omega⟩
 refine aj (ae ?_)
 have htn:=Ey (cu z33)
 refine ar (am [902,903,901] (e':=[(1,_),(6,_),(8,_),(9,_)]) Z Z ⟨Z,Z,Z,Z,ap⟩ Z) (js Z (au O [901] (bin:=[aN x.1]) Z Z Z Z (IT (ts:=x.1) h1 h2 hi.f) Z Z Z Z Z Z (B0:=49000) Z Z (ar (Ent.to (e':=[(48,zL (dE x.1)),(1,eI b),(6,.c (.rs 901 0 x.1.length)),(8,.c (.rs 902 0 x.2.1.length)),(9,.c (.rs 903 0 x.2.2.length))]) (H':=[(902,dx x.2.1),(903,dx x.2.2),(901,aN x.1)]) ⟨Z,Z,Z,Z,Z,ap⟩ Z) (az Z (js Z (jn (af (ae (js Z (jn (ah Z (fun z51=>?_) (fun z51=>?_))))))))))))
 refine ae (js Z ?_)
 have hrl:=(tu hi.f z51).2
 refine js Z (an O Z Z Z Z (uf (xs:=(dE x.1).1) h1 h2) (ac Z) Z Z Z Z (B0:=55000) Z Z (js Z (aU (bp O Z Z Z Z Z Z Z Z Z Z Z) Z (ar (Ent.rowLe 56 Z (NLess.cons (ys:=[]) (y:=Nd.cells (dp (dE x.1).1)) (aQ (aQ (aQ (.cons (.nil (sz:=1)) (.cons .refl .nil))))) .nil)) (aq ?_)))))
 refine aq ?_
 refine aU (cU (own:=false) (xs:=(x.2.1).map Nd.cells) (ys:=[Nd.cells (dp (dE x.1).1)]) (zs:=(x.2.1++[dp (dE x.1).1]).map Nd.cells) (n:=(x.2.1++[dp (dE x.1).1]).length) O Z (.row Z (bQ _).symm) (.whole Z Z (.inr ⟨Z,Z⟩)) (by simp) Z (by simp only[bQ,cG,dL,eH,List.length_nil];omega) (by simp only[bQ,cG,dL,eH,List.length_nil];omega) (by rw[List.map_append];rfl) (bQ _)) Z (aq ?_)
 refine aq ?_
 refine js Z (jn (bg (ae (ab Z (aU (cU (own:=false) (xs:=(x.2.1++[dp (dE x.1).1]).map Nd.cells) (zs:=(x.2.1++[dp (dE x.1).1]++x.2.2).map Nd.cells) (n:=(x.2.1++[dp (dE x.1).1]++x.2.2).length) O Z (.row Z (bQ _).symm) (.whole Z (bQ _).symm (.inr ⟨Z,Z⟩)) (by simp) Z (by simp only[bQ,cG,dL,eH,List.length_nil];omega) (by simp only[bQ,cG,dL,eH,List.length_nil];omega) (by rw[←List.map_append]) (bQ _)) Z (aq ?_))))))
 refine aq ?_
 refine js Z (jn (af (ae (js Z ?_))))
 have hz:=hi.e
 rw[Ba (by omega) htn z51]at hz
 have hpv:=sa (b:=b) hok hz.symm
 have hl9:(x.2.1++[dp (dE x.1).1]++x.2.2).length≤40:=by simp only[cG,dL];omega
 refine dv Z Z (ab Z (jn (ah Z (fun z102=>?_) (fun z102=>?_))))
 refine ae (ab Z (jr ?_))
 refine aJ Z ?_
 rw[hpv,if_neg (by have:=bK z102;simpa using this)]
 exact iA
 refine aj (ae (aH Z (jr ?_)))
 refine aJ Z ?_
 rw[hpv,if_pos (by have:=cu z102;simpa using this)]
 exact .tup (.cons (.c (.whole Z (by simp))) (.cons (.c .d) .nil))
 refine aj (ae ?_)
 have hrf:(dE x.1).2=false:=z51
 refine ar (am [902,903,901] (e':=[(1,_),(6,_),(8,_),(9,_)]) Z Z ⟨Z,Z,Z,Z,ap⟩ Z) (js Z (au O [901] (bin:=[aN x.1]) Z Z Z Z (IS (ts:=x.1) h1 h2 hi.f) Z Z Z Z Z Z (B0:=61000) Z Z (ar (Ent.to (e':=[(60,Du (ub x.1)),(1,eI b),(6,.c (.rs 901 0 x.1.length)),(8,.c (.rs 902 0 x.2.1.length)),(9,.c (.rs 903 0 x.2.2.length))]) (H':=[(902,dx x.2.1),(903,dx x.2.2),(901,aN x.1)]) ⟨Z,Z,Z,Z,Z,ap⟩ Z) (az Z (js Z (jl Z (aq ?_)))))))
 refine jo Z (aq ?_)
 refine aH Z (jn (af (ae (aH Z (aA 3 Z Z Z (fun hx=>ax hx Z (dD hx (vI Z Z) Z (ax hx Z (AN.nil)))) Z Z (av (aG O Z Z Z Z Z) Z (jn (ah Z (fun z71=>?_) (fun z71=>?_)))))))))
 refine ae (ab Z (jr ?_))
 refine aJ Z ?_
 rw[l5 hok (hi.none (by rcases JK z71 with h|h;exact qX hlen htn hrf (EY h);cases hcr:fm x.1 with|none=>exact qX hlen htn hrf hcr|some r=>exact wx h htn hrf hcr))]
 exact iA
 refine aj (ae ?_)
 obtain⟨hcT,h14⟩:=HV z71
 obtain⟨r,hcr⟩:=EX hcT
 obtain⟨hro,hsr⟩:=km hi.f hcr
 have hTo:=fv hsr
 have hrn:=hro.n
 rw[oB hcr]
 dsimp only
 refine ar (Ent.freeze 14 (e':=[(14,_),(15,_),(16,_),(1,_),(6,_),(8,_),(9,_)]) Z (.cons Z (.c (.box (cs:=Tm.cells (aM x.1 r.tm).1) Z (aE Z))) (fe [15,16,1,6,8,9] Z)) (.skip (bh Z (bh Z (bh Z .nil))))) ?_
 refine an O Z Z Z Z (zD (t:=(aM x.1 r.tm).1) h1 h2 (Small.of hTo)) (ac Z) Z Z Z Z (B0:=74000) Z Z (az Z (jn (af (ae (ab Z (jn (ah Z (fun z77=>?_) (fun z77=>?_))))))))
 refine ae (ab Z (jr ?_))
 refine aJ Z ?_
 rw[l5 hok (hi.none (ww hlen htn hrf hcr (by simpa using z77)))]
 exact iA
 refine aj (ae ?_)
 have hop:(aX (aM x.1 r.tm).1).2=true:=by simpa using z77
 refine aH Z (aU (bp O Z Z Z Z Z Z Z Z Z Z Z) Z (ar (Ent.rowLe 81 Z (NLess.cons (ys:=[]) (y:=Nd.cells (dH (aM x.1 r.tm).1)) (aQ (aQ (aQ (aQ (.cons (.nil (sz:=1)) .nil))))) .nil)) (aq ?_)))
 refine aq ?_
 refine aU (cU (own:=false) (xs:=(x.2.1).map Nd.cells) (ys:=[Nd.cells (dH (aM x.1 r.tm).1)]) (zs:=(x.2.1++[dH (aM x.1 r.tm).1]).map Nd.cells) (n:=(x.2.1++[dH (aM x.1 r.tm).1]).length) O Z (.row Z (bQ _).symm) (.whole Z Z (.inr ⟨Z,Z⟩)) (by simp) Z (by simp only[bQ,cG,dL,eH,List.length_nil];omega) (by simp only[bQ,cG,dL,eH,List.length_nil];omega) (by rw[List.map_append];rfl) (bQ _)) Z (aq ?_)
 refine aq ?_
 refine js Z (ba (ar (am [82,903,901] (e':=[(14,_),(15,_),(16,_),(1,_),(6,_),(8,_),(9,_)]) Z Z ⟨Z,Z,Z,Z,Z,Z,Z,ap⟩ Z) (js Z (iM O (B0:=85000) Z Z Z Z (Cc (xs:=r.ms) h1 h2) (ac Z) Z Z Z Z Z (js Z (aU (bO O Z Z Z) Z (aq ?_)))))))
 refine aq ?_
 refine aU (cJ (zs:=(fj r).map fun n=>[.int .i64 n]) (n:=(fj r).length) O Z Z Z Z Z Z Z Z Z Z Z Z Z Z Z Z (.row Z (bQ _).symm) Z Z (by decide) Z (by simp;omega) (by simp;omega) (List.map_append (f:=fun n=>[D.int .i64 n]) (l₁:=r.ms) (l₂:=[(bB r.tm.xs:Int)])).symm (bQ _)) Z (aq ?_)
 refine aq ?_
 refine ar (Ent.freeze 87 (e':=[(87,_),(14,_),(1,_),(6,_),(8,_),(9,_)]) Z (.cons Z (.c (.row Z (bQ _).symm)) (fe [14,1,6,8,9] Z)) (by first|exact .skip (bh Z (bh Z (bh Z .nil)))|exact bh Z (.skip (bh Z (bh Z .nil)))|exact bh Z (bh Z (.skip (bh Z .nil))))) ?_
 refine js Z (aU (bp O Z Z Z Z Z Z Z Z Z Z Z) Z (ar (Ent.rowLe 89 Z (NLess.cons (ys:=[]) (y:=Nd.cells (dp (fj r))) (aQ (aQ (aQ (.cons (.nil (sz:=1)) (.cons .refl .nil))))) .nil)) (aq ?_)))
 refine aq ?_
 refine js Z (aU (cU (own:=false) (xs:=[Nd.cells (dp (fj r))]) (ys:=(x.2.2).map Nd.cells) (zs:=(dp (fj r)::x.2.2).map Nd.cells) (n:=(dp (fj r)::x.2.2).length) O Z (.row Z Z) (.whole Z (bQ _).symm (.inr ⟨Z,Z⟩)) (by simp) Z (by simp only[bQ,cG,dL,eH,List.length_nil];omega) (by simp only[bQ,cG,dL,eH,List.length_nil];omega) Z (bQ _)) Z (aq ?_))
 refine aq ?_
 refine js Z (jn (ak (ab Z (aU (bp O Z Z Z Z Z Z Z Z Z Z Z) Z (aq ?_)))))
 refine aU (cU (own:=false) (xs:=(x.1).map Tm.cells) (ys:=[Tm.cells (aM x.1 r.tm).1]) (zs:=(x.1++[(aM x.1 r.tm).1]).map Tm.cells) (n:=(x.1++[(aM x.1 r.tm).1]).length) O Z (.row Z (bQ _).symm) (.whole Z Z (.inr ⟨Z,Z⟩)) (by simp) Z (by simp only[bQ,cG,dL,eH,List.length_nil];omega) (by simp only[bQ,cG,dL,eH,List.length_nil];omega) (by rw[List.map_append];rfl) (bQ _)) Z (aq ?_)
 refine aq ?_
 refine js Z (jn ?_)
 refine⟨(x.1++[(aM x.1 r.tm).1],x.2.1++[dH (aM x.1 r.tm).1],dp (fj r)::x.2.2),((((am [82,91,95] (e':=[(1,_),(6,_),(8,_),(9,_)]) Z Z ⟨Z,Z,Z,Z,ap⟩ Z).trans (aa 82 902 Z Z)).trans (aa 91 903 Z Z)).trans (aa 95 901 Z Z)),hi.cut h14 htn hrf hcr hop,by simp only[cG,dL];omega⟩
theorem Gq(hs:dW s=true)(hok:(aX s.goal).2=false):MQ h1 h2 67 [ptr s.cells,eI b] [] (Plain (rM (cN s b))):=by
 refine MC.data (jB 104 h1 h2 Tryz.func67 Z fun O hF=>?_)
 obtain⟨hs1,hs2,hs3⟩:=fJ hs
 refine ae (ab Z (ba (js Z (an O Z Z Z Z (Kb (s:=s) h1 h2 (Small.of hs3) (by omega)) (ac Z) Z Z Z Z (B0:=21000) Z Z (az Z (js Z (jn (af (ae (ab Z (jn (ah Z (fun z24=>?_) (fun z24=>?_)))))))))))))
 refine ae (ab Z (jr ?_))
 refine aJ Z ?_
 rw[uD hok]
 exact iA
 rw[wi,hok]at z24;cases z24
theorem IX{L:Nat}(h1:4096≤L)(h2:L≤1073741824){s:Sq}{b:Int}(hs:dW s=true)(hb:1≤b∧b≤60):MC Tryz.prog L 67 [ptr s.cells,eI b] [] (Plain (rM (cN s b))):=by
 cases hok:(aX s.goal).2 with
 | true=>exact Gp h1 h2 hs hb hok
 | false=>exact Gq h1 h2 hs hok
theorem Jd{a b:Bool}(h:(bif !a then true else !b)=true):(a&&b)=false:=by cases a<;>cases b<;>simp_all
theorem Je{a b:Bool}(h:(bif !a then true else !b)=false):a=true∧b=true:=by cases a<;>cases b<;>simp_all
theorem m8{b:Int}(h:kN b=true):1≤b∧b≤60:=by simpa[kN]using h
theorem qe{s:Sq}{b:Int}(h1:dW s=true)(h2:kN b=true):jG s b=cN s b:=by unfold jG;rw[h1,h2];rfl
theorem GL{a:Bool}(h:(!a)=true):a=false:=by simpa using h
theorem GA{a:Bool}(h:(!a)=false):a=true:=by simpa using h
theorem xu:MQ h1 h2 35 [eI b] [] (Plain (eB (kN b))):=by
 refine aL ?_ Z
 refine jB 5 h1 h2 Tryz.func35 Z fun O hF=>?_
 refine ae (js Z (ba (js Z (bP Z (GE h1 h2) 5000 Z (js Z (jr ?_))))))
 refine aJ Z ?_
 rfl
abbrev De(s:Sq)(b:Int):List D:=Df (cN s b).1
abbrev Dx(ss:List Sq)(b:Int):B:=.row false 1 (ss.map fun s=>De s b)
theorem ya{ss:List Sq}(h:ss.all dW=true){i:Nat}(hi:i<ss.length):dW (ss.getD i default)=true:=by rw[aD hi];exact List.all_eq_true.1 h _ (List.getElem_mem hi)
theorem vf{b:Int}{ss:List Sq}{i:Nat}(h:jq b ss=(ss.take i).map fun s=>(cN s b).1)(hi:i≤ss.length):(jq b ss).map Df=(ss.take i).map fun s=>De s b:=by rw[h,List.map_map];rfl
variable{ss:List Sq}
theorem D3(hs:ss.all dW=true)(hb:1≤b∧b≤60):MQ h1 h2 37 [mT ss,eI b] [] (Plain (qd (jq b ss))):=by
 refine MC.data (jB 31 h1 h2 Tryz.func37 Z fun O hF=>?_)
 have hl:ss.length≤L:=by simpa[As.fact,A.fact,M.fact,D.fact,Ds.fact]using hF.1.1
 refine ae (js Z (ba (aU (bp O Z Z Z Z Z Z Z Z Z Z Z) Z (aq ?_))))
 refine js Z (jn (af (ae (js Z (jn (ao (aw (X:=Nat) (fun i=>⟨[(0,mT ss),(1,eI b),(5,.c (.rs 900 0 i)),(6,eI i)],[(900,Dx (ss.take i) b)]⟩) (fun i=>i≤ss.length∧∀j (h:j<ss.length),j<i→(cN ss[j] b).2=true) (fun i=>ss.length-i) 0 ((aa 9 900 Z Z).trans (Ent.to ⟨Z,Z,Z,Z,ap⟩ Z)) ?_ (fun i hi=>?_))))))))
 exact⟨cT _,fun j h hj=>absurd hj (Nat.not_lt_zero j)⟩
 refine af (ae (ab Z (dh Z (js Z (jn (ah Z (fun z13=>?_) (fun z13=>?_)))))))
 refine aj (af (ao (ae ?_)))
 have hil:i<ss.length:=by have:=bK z13;omega
 refine ab Z (jD Z Z (js Z (an O Z Z Z Z (IX (s:=ss.getD i default) (b:=b) h1 h2 (ya hs hil) hb) (ac Z) Z Z Z Z (B0:=22000) Z Z (az Z (js Z (jn (af (ae (ab Z (jn (ah Z (fun z25=>?_) (fun z25=>?_))))))))))))
 refine bg (ae (ab Z (jr ?_)))
 refine aJ Z ?_
 have hst:=vf (y3 hil hi.2 (GL z25)) hi.1
 show VR _ _ (.c (.d (.slc 1 ((jq b ss).map Df))))
 rw[hst]
 exact .v (.c (.whole Z (by simp;omega)))
 refine aj (ak (ab Z (aU (bp O Z Z Z Z Z Z Z Z Z Z Z) Z (aq ?_))))
 refine aU (cU (own:=false) (xs:=(ss.take i).map fun s=>De s b) (ys:=[De (ss.getD i default) b]) (zs:=(ss.take (i+1)).map fun s=>De s b) (n:=i+1) O Z (.row Z (by simp;omega)) (.whole Z Z (.inr ⟨Z,Z⟩)) (by simp) Z (by simp;omega) (by simp;omega) (by rw[List.take_succ_eq_append_getElem hil,List.map_append,aD hil];rfl) (by simp;omega)) Z (aq ?_)
 refine js Z (jn (ak (js Z (ji Z (js Z (jn ?_))))))
 refine⟨i+1,((am [29] (e':=[(0,_),(1,_),(5,_),(6,_)]) Z Z ⟨Z,Z,Z,Z,ap⟩ Z).trans (aa 29 900 Z Z)),⟨by omega,fun j h hj=>?_⟩,by omega⟩
 by_cases e:j=i
 subst e;rw[aD h]at z25;exact GA z25
 exact hi.2 j h (by omega)
 refine bg (ae (ab Z (jr ?_)))
 refine aJ Z ?_
 obtain rfl:i=ss.length:=by have:=cu z13;omega
 have hst:=vf (b:=b) (ss:=ss) (i:=ss.length) (by rw[List.take_length];exact sI fun j hj=>hi.2 j hj hj) (da _)
 show VR _ _ (.c (.d (.slc 1 ((jq b ss).map Df))))
 rw[hst]
 exact .v (.c (.whole Z (by simp)))
theorem lI{ss:List Sq}(h:zo ss=true):ss.all dW=true∧ss.length≤60:=by
 unfold zo at h;rw[bS,decide_eq_true_eq]at h;exact⟨h.1,by omega⟩
theorem H4{x:Int}(hx: -4000000000000≤x∧x≤4000000000000):MQ h1 h2 170 [eI x] [] (Plain (eI x.natAbs)):=by
 refine aL ?_ Z
 refine jB 7 h1 h2 Tryz.func170 Z fun O hF=>?_
 refine ae (js Z (ba (ab Z (ji Z (ab Z (jr ?_))))))
 refine aJ Z ?_
 exact congrArg eI (show(if 0-x>x then 0-x else x)=(x.natAbs:Int) by split<;>omega)
theorem H7(ht: ∀x∈xs,-4000000000000≤x∧x≤4000000000000):MQ h1 h2 146 [ce xs] [] (Plain (eI (bB xs))):=by
 refine aL ?_ Z
 refine jB 26 h1 h2 Tryz.func146 Z fun O hF=>?_
 have hl:xs.length≤L:=by simpa[As.fact,A.fact,M.fact,D.fact,Ds.fact]using hF.1.1
 refine ae (js Z (ba (js Z (jn (af (ae (js Z (dh Z (js Z (jn (ao (aw (X:=Nat) (fun i=>⟨[(3,eI (bB (xs.take i))),(8,ce xs),(9,eI xs.length),(10,eI i)],[]⟩) (fun i=>i≤xs.length) (fun i=>xs.length-i) 0 (Ent.env ⟨Z,Z,Z,Z,ap⟩) ?_ (fun i hi=>?_)))))))))))))
 exact cT _
 refine ae (js Z (jn (af (ah Z (fun z11=>?_) (fun z11=>?_)))))
 try simp only[bG]at z11
 refine aj (af (ao (ae ?_)))
 have hi0:=hi
 have hx:=ht _ (List.getElem_mem (show i<xs.length by omega))
 rw[←aD (by omega)]at hx
 have hgs:=l7 (xs:=xs) (i:=i) (by omega)
 have hgl:bB (xs.take i)≤4000000000000:=qB fun x hx=>by have:=ht x (List.mem_of_mem_take hx);omega
 refine av (bf O Z Z Z Z Z Z Z Z (dO (by omega))) Z (ab Z (ba (ab Z (bP Z (H4 (x:=xs.getD i default) h1 h2 hx) 17000 Z (ab Z (jn (af (ao (aw (X:=Nat×Nat) (fun z=>⟨[(8,ce xs),(9,eI xs.length),(10,eI i),(6,eI z.1),(7,eI z.2)],[]⟩) (fun z=>Nat.gcd z.1 z.2=Nat.gcd (bB (xs.take i)) (xs.getD i default).natAbs∧z.1≤4000000000000∧z.2≤4000000000000) (fun z=>z.2) (bB (xs.take i),(xs.getD i default).natAbs) (Ent.env ⟨Z,Z,Z,Z,Z,ap⟩) ?_ (fun z hi=>?_))))))))))
 exact⟨Z,hgl,by show(xs.getD i default).natAbs≤4000000000000;omega⟩
 have hz: -4000000000000≤(z.1:Int).tmod z.2∧(z.1:Int).tmod z.2≤4000000000000:=by have:=Nat.mod_le z.1 z.2;rw[←Int.ofNat_tmod];omega
 refine af (ae (ab Z (jn (ah Z (fun z18=>?_) (fun z18=>?_)))))
 try simp only[bG]at z18
 refine aj (ao (oH O _ [_,_,_,_,_,_] [aF,aF,aF,ag [1,2],ag [0,1],ag (rg 0 5)] [] [[],[],[6],[6],[],[6]] [_] Z Z (by decide) (by decide) (by kernel_rfl) (kc Z (kc Z (kc Z (ai (j5 O Z Z Z Z (by omega) (by omega) (by omega)) (kc Z (kc Z trivial)))))) ?_))
 have hm:z.1%z.2<z.2:=Nat.mod_lt _ (by omega)
 refine⟨(z.2,z.1%z.2),Ent.env ⟨Z,Z,Z,Z,Z,ap⟩,⟨?_,hi.2.2,by show z.1%z.2≤4000000000000;omega⟩,hm⟩
 show Nat.gcd z.2 (z.1%z.2)=_
 rw[←hi.1,Nat.gcd_comm z.2,←Nat.gcd_rec,Nat.gcd_comm]
 try simp only[bG]at z18
 refine bg (ak (ab Z (jn (ak (ji Z (js Z (jn ?_)))))))
 have hz0:z.2=0:=by omega
 have hz1:z.1=bB (xs.take (i+1)):=by rw[hgs,←hi.1,hz0,Nat.gcd_zero_right]
 rw[hz1]
 exact⟨i+1,Ent.env ⟨Z,Z,Z,Z,ap⟩,by omega,by omega⟩
 try simp only[bG]at z11
 refine bg (ae (ab Z (jr ?_)))
 refine aJ Z ?_
 obtain rfl:i=xs.length:=by omega
 rw[List.take_length]
theorem EA{xs:List Int}{n:Nat}(h0:0<n)(h:n≤xs.length):(xs.map fun n=>[D.int .i64 n])[0+((n:Int)-1).toNat]? = some [D.int .i64 (xs.getD (n-1) default)]:=by
 rw[Nat.zero_add,show((n:Int)-1).toNat=n-1 by omega,List.getElem?_map,List.getElem?_eq_getElem (by omega),aD (by omega)];rfl
theorem H6{c:Int}(hl:xs.length≤L):MQ h1 h2 179 [.agg [.d (.int .i64 c),.rs 0 0 xs.length]] [(0,aO xs)] (bb (.agg [.d (.int .i64 c),.rs 0 0 (bM xs).length]) [(0,aO xs)]):=by
 refine MC.shift 500 Z (MC.keep [500] (bs:=[aO xs]) Z Z (jH 26 [500] h1 h2 Tryz.func179 Z fun O hF=>?_))
 refine ae (jx Z (jl Z (ba (ab Z (dv Z Z (js Z (jn (af (ao (aw (X:=Nat) (fun n=>⟨[(1,.c (.pt 1 0 0)),(2,.c (.pt 2 0 0)),(3,eI n)],[(1,.box [.d (.int .i64 c),.rs 500 0 xs.length]),(2,.box [.d (.int .i64 0),.d .nils]),(500,aO xs)]⟩) (fun n=>n≤xs.length∧bM (xs.take n)=bM xs) (fun n=>n) xs.length (Ent.env ⟨Z,Z,Z,ap⟩) ?_ (fun n hi=>?_)))))))))))
 exact⟨da _,by rw[List.take_length]⟩
 refine af (ae (aH Z (aA 7 Z Z Z (fun hx=>ax hx Z (ax hx Z (ax hx Z (dD hx (vF Z) Z (dD hx (vI Z Z) Z (dD hx (bt O (ex:=[.int .i64 (xs.getD (n-1) default)]) Z Z Z Z (EA (by first|omega|(simp at *;omega)) (by first|omega|(simp at *;omega))) Z) Z (ax hx Z (AN.nil)))))))) Z Z (av (ay O Z Z Z Z Z) Z (jn (ah Z (fun z17=>?_) (fun z17=>?_)))))))
 refine aj (ao (ak (js Z (ji Z (js Z (jn ?_))))))
 rw[Bool.cond_false_right,bS,decide_eq_true_eq,decide_eq_true_eq]at z17
 obtain⟨k,hk⟩: ∃k,n=k+1:=⟨n-1,by omega⟩
 subst hk
 have hk2:((k+1:Nat):Int)-1=k:=by omega
 refine⟨k,Ent.to ⟨Z,Z,by rw[hk2];rfl,ap⟩ Z,⟨by omega,?_⟩,Nat.lt_succ_self k⟩
 rw[←hi.2,n9 (by omega) (by simpa using z17.2)]
 refine bg (ae (aH Z ?_))
 have hd:bM (xs.take n)=xs.take n:=lU hi.1 (by
  rw[Bool.cond_false_right]at z17
  rcases Nat.eq_zero_or_pos n with h0|h0
  ·
   exact .inl h0
  ·
   refine .inr (fun h9=>?_)
   rw[h9]at z17;simp at z17;omega)
 have ht:(bM xs).length=n:=by have:=hi.1;rw[←hi.2,hd,List.length_take];omega
 refine av ((eF O Z Z ⟨by omega,by omega⟩).cast (v':=.c (.rs 500 0 (bM xs).length)) (by rw[ht];simp)) Z (js Z (jo Z (ba (js Z (jo Z (jr ?_))))))
 refine aJ Z ?_
 exact⟨Z,Z⟩
theorem H5{L:Nat}(h1:4096≤L)(h2:L≤1073741824){c:Int}{xs:List Int}{n:Nat}(hl:xs.length=n)(hn:n≤L):MC Tryz.prog L 179 [.agg [.d (.int .i64 c),.rs 0 0 n]] [(0,aO xs)] (bb (.agg [.d (.int .i64 c),.rs 0 0 (bM xs).length]) [(0,aO xs)]):=by
 subst hl;exact H6 h1 h2 (by omega)
variable{ms:List Int}
theorem Id(hc:CtxOk ts)(hm:ms.all num=true)(hle:ts.length≤ms.length):MQ h1 h2 157 [cb ts,ce ms] [] (Rows (.agg [.d (.int .i64 (bD Tm.c ts ms)),.rs 0 0 (bM (bU ts ms)).length]) [aO (bU ts ms)]):=by
 refine cH (jB 55 h1 h2 Tryz.func157 Z fun O hF=>?_)
 have hl:ms.length≤L:=by simpa[As.fact,A.fact,M.fact,D.fact,Ds.fact]using hF.2.1.1
 have hlc:=hc.len
 refine ae (jl Z (ba (aU (gn O Z Z Z Z Z Z Z Z Z (by first|omega|(simp at *;omega)) (by first|omega|(simp at *;omega)) (by first|omega|(simp at *;omega)) (by first|omega|(dsimp only;omega)|(simp only[bG]at *;omega)) (by first|omega|(simp at *;omega)) Z Z Z) Z (js Z (jl Z (jo Z (jn (af (ae (js Z (dh Z (js Z (jn (ao (aw (X:=Nat) (fun i=>⟨[(1,ce ms),(4,.c (.pt 4 0 0)),(5,.c (.pt 5 0 0)),(12,cb ts),(13,eI ts.length),(14,eI i)],[(4,.box [.d (.int .i64 0),.d .nils]),(5,.box [.d (.int .i64 (bD Tm.c (ts.take i) (ms.take i))),.rs 10 0 10]),(10,aO (bU (ts.take i) (ms.take i)))]⟩) (fun i=>i≤ts.length) (fun i=>ts.length-i) 0 (Ent.to ⟨Z,Z,Z,Z,Z,Z,ap⟩ Z) ?_ (fun i hi=>?_))))))))))))))))
 exact cT _
 refine ae (js Z (jn (af (ah Z (fun z15=>?_) (fun z15=>?_)))))
 try simp only[bG]at z15
 refine aj (af (ao (ae (js Z (jD Z Z (js Z (jl Z (js Z (jo Z (jn (af ?_)))))))))))
 have hi0:=hi
 have hts:=Small.of (hc.get (show i<ts.length by omega))
 have hd1:=kl (f:=Tm.c) (ts:=ts) (ms:=ms) (fun t ht=>(Small.of (hc.ok t ht)).c) hm hi (by omega)
 have hd2:=hJ (f:=Tm.c) (ts:=ts) (ms:=ms) (i:=i) (by omega) (by omega)
 have hmi:num (ms.getD i default)=true:=by rw[aD (by omega)];exact List.all_eq_true.1 hm _ (List.getElem_mem _)
 have hmu:=fE hmi hts.c
 refine fZ [_,_,_,_,_,_,_,_,_,_,_,_] [aF,ag [0],aF,aF,ag [2,3],ag [2,3,4],aF,ag [6],ag (rg 2 6),ag (rg 0 9),ag (rg 0 10),pe (rg 0 11) 0] [11] [_,_] (cw Z (ai (vN Z) (kc Z (kc Z (kc Z (ai (vF Z) (ai (vF Z) (kc Z (ai (eS Z Z Z) trivial))))))))) ?_
 refine jw [6,7,18,15,1,4,5,12,13,14] Z (b0 ?_)
 refine ae (ab Z (dh Z (js Z (jn (ao (aw (X:=Nat) (fun j=>⟨[(1,ce ms),(4,.c (.pt 4 0 0)),(5,.c (.pt 5 0 0)),(12,cb ts),(13,eI ts.length),(14,eI i),(6,eI i),(31,ce (ts.getD i default).xs),(32,eI (ts.getD i default).xs.length),(33,eI j)],[(4,.box [.d (.int .i64 0),.d .nils]),(5,.box [.d (.int .i64 (bD Tm.c (ts.take i) (ms.take i)+ms.getD i default*(ts.getD i default).c)),.rs 10 0 10]),(10,aO (fP ts ms i j))]⟩) (fun j=>j≤(ts.getD i default).xs.length) (fun j=>(ts.getD i default).xs.length-j) 0 (((am [4,5,10] (e':=[(1,_),(4,_),(5,_),(12,_),(13,_),(14,_),(6,_),(31,_),(32,_),(33,_)]) Z Z ⟨Z,Z,Z,Z,Z,Z,Z,Z,Z,Z,ap⟩ Z)).trans (Ent.to ⟨Z,Z,Z,Z,Z,Z,Z,Z,Z,Z,ap⟩ (by rw[ol];rfl))) ?_ (fun j hi=>?_)))))))
 exact cT _
 refine ae (js Z (jn (af (ah Z (fun z34=>?_) (fun z34=>?_)))))
 try simp only[bG]at z34
 refine aj (af (ao (ae (js Z (jD Z Z (aH Z (jn ?_)))))))
 have hjl:j<10:=by have:=qf (hc.get (show i<ts.length by omega));omega
 have hpj:=ni (ts:=ts) (ms:=ms) (i:=i) hjl
 have hps:=om (ts:=ts) (ms:=ms) (i:=i) hjl
 have hpl:=eP (ts:=ts) (ms:=ms) (i:=i) (j:=j)
 have hd3:=kl (f:=kb j) (ts:=ts) (ms:=ms) (fun t ht=>(Small.of (hc.ok t ht)).get j) hm hi0 (by omega)
 have hmx:=fE hmi (hts.get j)
 rw[show(ts.getD i default).xs.getD j 0=(ts.getD i default).xs.getD j default from Z]at hmx
 refine fZ [_,_,_,_,_,_,_,_,_,_,_,_,_,_] [aF,ag [0],aF,ag [0,1,2],ag (rg 0 4),aF,aF,ag [5,6],ag [5,6,7],aF,ag (rg 5 5),ag (rg 0 11),ag (rg 0 12),pe (rg 0 13) 0] [13] [_,_] (kc Z (kc Z (kc Z (ai (vI Z Z) (ai (bt O (ex:=[.int .i64 ((fP ts ms i j).getD j default)]) Z Z Z Z (vJ (by omega)) Z) (kc Z (kc Z (ai (vN Z) (kc Z (kc Z (ai (vF Z) (ai (vF Z) (ai (vI Z Z) (ai (cR (ex:=[.int .i64 ((fP ts ms i j).getD j default)]) (xs':=(fP ts ms i (j+1)).map (fun n=>[D.int .i64 n])) O Z Z Z Z Z Z Z Z Z Z Z Z Z Z Z (vJ (by omega)) (by rw[←hps,List.map_set];simp only[Int.toNat_natCast,Nat.zero_add];rfl) Z) trivial)))))))))))))) ?_
 refine jw [34,1,4,5,12,13,14,6,31,32,33] Z (b0 ?_)
 refine ak (ji Z (js Z (jn ?_)))
 refine⟨j+1,Ent.to ⟨Z,Z,Z,Z,Z,Z,Z,Z,Z,Z,ap⟩ Z,by omega,by omega⟩
 try simp only[bG]at z34
 refine bg (ak (ji Z (js Z (jn ?_))))
 refine⟨i+1,((am [4,5,10] (e':=[(1,_),(4,_),(5,_),(12,_),(13,_),(14,_)]) Z Z ⟨Z,Z,Z,Z,Z,Z,ap⟩ Z)).trans (Ent.to ⟨Z,Z,Z,Z,Z,Z,ap⟩ ?_),by omega,by omega⟩
 rw[hd2,←qq (j:=j) (by omega) (by omega) (by omega)];rfl
 try simp only[bG]at z15
 refine bg (ae ?_)
 obtain rfl:i=ts.length:=by omega
 rw[nG hle,sE hle]
 have hcl:(bU ts ms).length=10:=kB
 refine ar ((am [4,5,10] (e':=[(4,_),(5,_)]) Z Z ⟨Z,Z,ap⟩ Z)) (js Z (au O [10] (bin:=[aO (bU ts ms)]) Z Z Z Z (H5 (c:=bD Tm.c ts ms) (xs:=bU ts ms) (n:=10) h1 h2 hcl (by omega)) Z Z Z Z Z Z (B0:=55000) Z Z (aq ?_)))
 refine jo Z (jr ?_)
 refine⟨.inl Z,_,b9,_,Z,[10],by decide,Z,Z,Z⟩
theorem ui:MQ h1 h2 181 [db t,eI k] [] (Plain (eI (t.xs.getD k default))):=by
 refine aL ?_ Z
 refine jB 15 h1 h2 Tryz.func181 Z fun O hF=>?_
 have hl:t.xs.length≤L:=by simpa[As.fact,A.fact,M.fact,Ms.fact,D.fact,Ds.fact]using hF.1.2.1.1
 refine ae (jx Z (js Z (jn (af (ae (aH Z (dh Z (js Z (jn (ah Z (fun z9=>?_) (fun z9=>?_)))))))))))
 try simp only[bG]at z9
 refine ae (aH Z (jD Z Z (ab Z (jr ?_))))
 refine aJ Z ?_
 rfl
 try simp only[bG]at z9
 refine aj (ae (js Z (jr ?_)))
 refine aJ Z ?_
 rw[List.getD_eq_getElem?_getD,List.getElem?_eq_none (by omega)];rfl
theorem IG:MQ h1 h2 185 [ce xs,ce ys] [] (Plain (eB (decide (xs=ys)))):=by
 refine aL ?_ Z
 refine jB 26 h1 h2 Tryz.func185 Z fun O hF=>?_
 have hl:xs.length≤L:=by simpa[As.fact,A.fact,M.fact,D.fact,Ds.fact]using hF.1.1
 have hl2:ys.length≤L:=by simpa[As.fact,A.fact,M.fact,D.fact,Ds.fact]using hF.2.1.1
 refine ae (js Z (jn (af (ae (js Z (dh Z (js Z (dh Z (js Z (jn (ah Z (fun z10=>?_) (fun z10=>?_))))))))))))
 try simp only[bG]at z10
 refine ae (js Z (jr ?_))
 refine aJ Z ?_
 rw[decide_eq_false (fun e=>by subst e;simp at z10)]
 try simp only[bG]at z10
 refine aj (af (ae (js Z (dh Z (js Z (jn (ao (aw (X:=Nat) (fun i=>⟨[(0,ce xs),(1,ce ys),(12,eI xs.length),(13,eI i)],[]⟩) (fun i=>i≤xs.length∧∀j,j<i→xs[j]? = ys[j]?) (fun i=>xs.length-i) 0 (Ent.env ⟨Z,Z,Z,Z,ap⟩) ?_ (fun i hi=>?_)))))))))
 exact⟨cT _,fun j hj=>absurd hj (Nat.not_lt_zero j)⟩
 refine ae (js Z (jn (af (ah Z (fun z14=>?_) (fun z14=>?_)))))
 try simp only[bG]at z14
 refine aj (af (ao (ae (ab Z (jn (af (fZ [_,_,_,_,_,_,_,_,_] [aF,aF,ag [0,1],ag [0,1,2],aF,aF,ag [4,5],ag [4,5,6],ag (rg 0 8)] [] [_] (kc Z (kc Z (ai (vN Z) (kc Z (kc Z (kc Z (ai (vN Z) (kc Z (kc Z trivial))))))))) ?_)))))))
 refine ah Z (fun z24=>?_) (fun z24=>?_)
 try simp only[bG]at z24
 refine ae (js Z (jr ?_))
 refine aJ Z ?_
 rw[decide_eq_false (fun e=>by subst e;simp at z24)]
 try simp only[bG]at z24
 refine aj (ak (ji Z (js Z (jn ?_))))
 refine⟨i+1,Ent.env ⟨Z,Z,Z,Z,ap⟩,⟨by omega,fun j hj=>?_⟩,by omega⟩
 rcases Nat.lt_or_ge j i with h|h
 exact hi.2 j h
 obtain rfl:j=i:=by omega
 rw[aD (by omega),aD (by omega)]at z24
 rw[List.getElem?_eq_getElem (by omega),List.getElem?_eq_getElem (by omega),z24]
 try simp only[bG]at z14
 refine bg (ae (js Z (jr ?_)))
 refine aJ Z ?_
 have e:xs=ys:=List.ext_getElem? fun j=>by
  rcases Nat.lt_or_ge j i with h|h
  ·
   exact hi.2 j h
  ·
   rw[List.getElem?_eq_none (by omega),List.getElem?_eq_none (by omega)]
 rw[decide_eq_true e]
theorem Ev{a b:Tm}:(bif decide (a.c=b.c)then decide (a.xs=b.xs)else false)=decide (a=b):=by
 cases a;cases b;simp[Bool.cond_false_right]
def sT(t:Tm):List Tm→Nat→Int
  | [],_=> -1
  | u::us,i=>if t=u then(i:Int)else sT t us (i+1)
theorem yM{t:Tm}{ts:List Tm}{i:Nat}(h:i<ts.length):sT t (ts.drop i) i=if t=ts.getD i default then(i:Int)else sT t (ts.drop (i+1)) (i+1):=by
 rw[List.drop_eq_getElem_cons h,aD h];rfl
theorem Br{t:Tm}{ts:List Tm}{i:Nat}(h:ts.length≤i):sT t (ts.drop i) i= -1:=by rw[List.drop_of_length_le h];rfl
theorem uN{t:Tm}: ∀{us:List Tm} {i:Nat},decide (sT t us i≥0)=iq us t
 | [],_=>rfl
 | u::us,i=>by
  rw[sT,iq,List.any_cons]
  by_cases h:t=u
  rw[if_pos h,decide_eq_true h.symm,Bool.true_or];exact decide_eq_true (by omega)
  rw[if_neg h,show decide (u=t)=false from decide_eq_false (fun e=>h e.symm),Bool.false_or];exact uN
theorem IJ{b:Tm}:MQ h1 h2 180 [db a,db b] [] (Plain (eB (decide (a=b)))):=by
 refine aL ?_ Z
 refine jB 17 h1 h2 Tryz.func180 Z fun O hF=>?_
 refine ae (jx Z (jx Z (js Z (ba (az Z (ab Z (aA 5 Z Z Z (fun hx=>ax hx Z (ax hx Z (ax hx Z (ax hx Z (bA O hx Z Z Z Z (IG (xs:=a.xs) (ys:=b.xs) h1 h2) (ac Z) Z Z Z Z Z Z Z (B0:=16000) Z (AN.nil)))))) Z Z (av (ay O Z Z Z Z Z) Z (js Z (jr ?_))))))))))
 refine aJ Z ?_
 exact congrArg eB Ev
theorem Ie:MQ h1 h2 162 [cb ts,.c (.fb 180 (t.cells.map .d))] [] (Plain (eI (sT t ts 0))):=by
 refine aL ?_ Z
 refine jB 19 h1 h2 Tryz.func162 Z fun O hF=>?_
 have hl:ts.length≤L:=by simpa[As.fact,A.fact,M.fact,D.fact,Ds.fact]using hF.1.1
 refine ae (js Z (jn (af (ae (js Z (dh Z (js Z (jn (ao (aw (X:=Nat) (fun i=>⟨[(0,cb ts),(1,.c (.fb 180 (t.cells.map .d))),(7,eI ts.length),(8,eI i)],[]⟩) (fun i=>i≤ts.length∧sT t (ts.drop i) i=sT t ts 0) (fun i=>ts.length-i) 0 (Ent.env ⟨Z,Z,Z,Z,ap⟩) ?_ (fun i hi=>?_)))))))))))
 exact⟨cT _,Z⟩
 refine ae (js Z (jn (af (ah Z (fun z9=>?_) (fun z9=>?_)))))
 refine aj (af (ao (ae ?_)))
 have hil:i<ts.length:=by have:=bK z9;omega
 have hkc:=yM (t:=t) hil
 refine ab Z (ba (aH Z (jD Z Z (js Z (w7 O Z Z Z Z (IJ (a:=t) (b:=ts.getD i default) h1 h2) (ac Z) Z Z Z Z Z (B0:=17000) Z (jn (ah Z (fun z16=>?_) (fun z16=>?_))))))))
 refine ae (ab Z (jr ?_))
 refine aJ Z ?_
 rw[if_pos (bK z16),hi.2]at hkc
 rw[hkc]
 refine aj (ak (ji Z (js Z (jn ?_))))
 rw[if_neg (cu z16)]at hkc
 exact⟨i+1,Ent.env ⟨Z,Z,Z,Z,ap⟩,⟨by omega,hkc.symm.trans hi.2⟩,by omega⟩
 refine bg (ae (js Z (jr ?_)))
 refine aJ Z ?_
 have h9:=hi.2
 rw[Br (by have:=cu z9;omega)]at h9
 rw[←h9]
theorem Ih:MQ h1 h2 132 [cb ts,.c (.fb 180 (t.cells.map .d))] [] (Plain (eB (iq ts t))):=by
 refine aL ?_ Z
 refine jB 9 h1 h2 Tryz.func132 Z fun O hF=>?_
 refine ae (js Z (ba (ab Z (du O Z Z Z Z (Ie (ts:=ts) (t:=t) h1 h2) (.cons (.c .d) (.cons (.c (.fb (aE Z))) .nil)) Z Z Z Z Z (B0:=8000) Z (ab Z (jr ?_))))))
 refine aJ Z ?_
 exact congrArg eB uN
theorem IN:MQ h1 h2 166 [cb ts,db t] [] (Plain (eB (iq ts t))):=by
 refine aL ?_ Z
 refine jB 9 h1 h2 Tryz.func166 Z fun O hF=>?_
 refine ae (jx Z (js Z (ba (ab Z (av (y5 (ms:=t.cells.map .d) O Z Z Z Z Z) Z (du O Z Z Z Z (Ih (ts:=ts) (t:=t) h1 h2) (.cons (.c .d) (.cons (.c (.fb (aE Z))) .nil)) Z Z Z Z Z (B0:=9000) Z (js Z (jr ?_))))))))
 refine aJ Z ?_
 first|rfl|skip
theorem IM:MQ h1 h2 167 [cb ts] [] (Plain (eB (fS ts 14))):=by
 refine aL ?_ Z
 refine jB 5 h1 h2 Tryz.func167 Z fun O hF=>?_
 refine ae (js Z (ba (js Z (bP Z (El h1 h2) 5000 Z (js Z (jr ?_))))))
 refine aJ Z ?_
 first|rfl|skip
def jE(n:Nat):List Int:=(List.range n).map Int.ofNat
theorem dI{n:Nat}:(jE n).length=n:=by simp[jE]
theorem yv{n:Nat}:jE (n+1)=jE n++[(n:Int)]:=by simp[jE,List.range_succ]
theorem AV{n k:Nat}(h:k<n):(jE n).getD k default=k:=by rw[aD (by rw[dI];exact h)];simp[jE]
theorem DV(hn:n≤1000):MQ h1 h2 169 [eI n] [] (Plain (ce (jE n))):=by
 refine MC.data (jB 15 h1 h2 Tryz.func169 Z fun O hF=>?_)
 refine ae (js Z (ba (js Z (jn (af (ae (ab Z (jn (ao (aw (X:=Nat) (fun i=>⟨[(3,.c (.rs 900 0 i)),(5,eI n),(6,eI i)],[(900,aO (jE i))]⟩) (fun i=>i≤n) (fun i=>n-i) 0 ((cL 3 900 1 true Z Z).trans (Ent.to ⟨Z,Z,Z,ap⟩ Z)) ?_ (fun i hi=>?_)))))))))))
 exact cT _
 refine ae (js Z (jn (af (ah Z (fun z7=>?_) (fun z7=>?_)))))
 try simp only[bG]at z7
 refine aj (af (ao (ae (ab Z (jn (ak (ab Z (aU (bO O Z Z Z) Z (aq ?_)))))))))
 refine aU (cJ (zs:=((jE (i+1))).map fun n=>[.int .i64 n]) (n:=i+1) O Z Z Z Z Z Z Z Z Z Z Z Z Z Z Z Z (.row Z (by simp[dI])) Z Z (by decide) Z (by simp[dI];omega) (by simp[dI];omega) (by rw[yv,List.map_append];rfl) (by simp[dI])) Z (aq ?_)
 refine js Z (jn (ak (ji Z (js Z (jn ?_)))))
 refine⟨i+1,((am [12] (e':=[(3,_),(5,_),(6,_)]) Z Z ⟨Z,Z,Z,ap⟩ Z).trans (aa 12 900 Z Z)),by omega,by omega⟩
 try simp only[bG]at z7
 refine bg (ae (ab Z (jr ?_)))
 refine aJ Z ?_
 obtain rfl:i=n:=by omega
 exact .v (.c (.whole Z (by simp[dI])))
theorem DZ(ht:t.ok=true):MQ h1 h2 141 [db t,cb ts] [] (Plain (iZ (aM ts t))):=by
 refine MC.data (jB 35 h1 h2 Tryz.func141 Z fun O hF=>?_)
 have hs:=Small.of ht
 have hc:=I7.1 hs.c
 have hr:=i9 (a:=t.c) (b:=bB t.xs) hc
 refine ae (jx Z (aq ?_))
 refine jf [2,1] Z (jl Z (aq ?_))
 refine js Z (ba (ab Z (jf [10,5,4,2,1] Z (bP Z (B8 (xs:=t.xs) h1 h2 hs.xs) 12000 Z (js Z (jf [6,5,4,2,1] Z (jn (af (ae (aH Z (jf [14,6,5,4,2,1] Z (aA 5 Z Z Z (fun hx=>ax hx Z (ax hx Z (ax hx Z (dD hx (vR Z Z Z Z) Z (ax hx Z (AN.nil)))))) Z Z (av (aG O Z Z Z Z Z) Z (jf [20,5,4,2,1] Z (jn (ah Z (fun z20=>?_) (fun z20=>?_)))))))))))))))))
 refine ae (js Z (jf [21,5,4,2,1] Z (jo Z (aq ?_))))
 refine js Z (jr ?_)
 refine aJ Z ?_
 have hn:bB t.xs<2∨t.c.tmod (bB t.xs)=0:=by by_cases h9:bB t.xs<2;exact .inl h9;refine .inr ?_;simpa[show¬(bB t.xs:Int)≤1 by omega]using z20
 rw[show aM ts t=B3 from if_pos hn]
 exact .tup (.cons (.agg (.cons .d (.cons .nils .nil))) (.cons (.c .d) .nil))
 refine aj (ae (js Z (jf [23,5,4,2,1] Z (an O Z Z Z Z (Hd (t:=t) h1 h2 hs) (ac Z) Z Z Z Z (B0:=25000) Z Z (js Z ?_)))))
 have hn: ¬(bB t.xs<2∨t.c.tmod (bB t.xs)=0):=by intro h9;rcases h9 with h9|h9<;>simp[h9]at z20<;>omega
 have hok:=od ht (fun h=>hn (.inl h))
 rw[gt ht]
 refine ab Z (jf [26,25,5,4,2,1] Z (jl Z (aq ?_)))
 refine jo Z (aq ?_)
 refine js Z (jf [8,7,5,4,2,1] Z (jn (af (jw [8,7,4,2,1] Z ?_))))
 rw[hok]
 refine zl [_,_,_,_,_,_,_,_,_,_] [pn [] 0 1,aF,ag [1],ag [1,2],ag [1,2],pe (rg 1 4) 0,pn (rg 1 5) 1 2,pn (rg 1 6) 1 2,pe (rg 0 6) 1,pn (rg 0 9) 2 2] [5,8] [_,_,_] (ai (kc Z (V Z)) (kc Z (kc Z (kc Z (kc Z (ai (bv O (B0:=33000) Z Z Z Z (IN (ts:=ts) (t:=(cq t).1) h1 h2) (ac Z) Z Z Z Z Z) (ai (kc Z (V Z)) (ai (ai (bl O Z Z Z Z Z) (bl O Z Z Z Z Z)) (ai (eS Z Z Z) (kc Z trivial)))))))))) ?_
 refine jw [5,7,4,2] Z (b0 ?_)
 refine ea ?_
 refine aJ Z ?_
 rw[show aM ts t=((cq t).1,!iq ts (cq t).1) by unfold aM;rw[if_neg hn,hok];rfl]
 exact .tup (.cons (.agg (aE Z)) (.cons (.c .d) .nil))
abbrev GS(r:Rw):A:=.agg (r.comb.map .d)
theorem yu{xs:List Int}:xs.take (bM xs).length=bM xs:=by
 obtain⟨z,hz⟩:=jM xs
 exact(congrArg (fun l=>l.take (bM xs).length) hz).trans List.take_left
theorem AQ{xs:List Int}{x:Int}(h:x∈bM xs):x∈xs:=by
 obtain⟨z,hz⟩:=jM xs
 rw[hz];exact List.mem_append_left _ h
theorem HR{p q:Rw}{n m:Int}:bD Tm.c [p.tm,q.tm] [n,m]=n*p.c+m*q.c:=by
 show n*p.c+(m*q.c+0)=n*p.c+m*q.c
 omega
theorem ED{p q:Rw}{n m:Int}(hl:p.xs.length=10):bU [p.tm,q.tm] [n,m]=iR n m p.xs q.xs p.xs.length:=by
 show(List.range 10).map _=iR _ _ _ _ p.xs.length
 rw[hl]
 unfold iR
 apply List.map_congr_left
 intro i _
 show n*(bM p.xs).getD i 0+(m*(bM q.xs).getD i 0+0)=_
 rw[e7,e7]
 show n*p.xs.getD i default+(m*q.xs.getD i default+0)=_
 omega
theorem uL{C:Int}{X Y:List Int}{G:Nat}(hG:G=bB (C::X++Y))(h0:0<G)(hl:X.length=10) :
    GS (nU ⟨C,X,Y⟩ G)= .agg [.d (.int .i64 (C.tdiv G)),.d (cY ((bM X).map fun x=>x.tdiv G)),.d (cY (Y.map fun x=>x.tdiv G))]∧
    w9 (nU ⟨C,X,Y⟩ G)=((⟨C.tdiv G,(bM X).map fun x=>x.tdiv G⟩:Tm).ok&&(Y.map fun x=>x.tdiv G).all num):=by
 have e:bM (X.map fun x=>x.tdiv G)=(bM X).map fun x=>x.tdiv G:=by
  subst hG
  exact BD (r:=⟨C,X,Y⟩) h0
 constructor
 show A.agg [.d (.int .i64 (C.tdiv G)),.d (cY (bM (X.map fun x=>x.tdiv G))),.d (cY (Y.map fun x=>x.tdiv G))]=_
 rw[e]
 have h1:=Dp (r:=nU ⟨C,X,Y⟩ G) (by show(X.map _).length=10;rw[bQ,hl])
 have h2:(nU ⟨C,X,Y⟩ G).tm=⟨C.tdiv G,(bM X).map fun x=>x.tdiv G⟩:=by
  show(⟨C.tdiv G,bM (X.map fun x=>x.tdiv G)⟩:Tm)=_
  rw[e]
 rw[h2]at h1
 rw[h1];rfl
theorem xy{a b:Int}(ha: -1000000≤a∧a≤1000000)(hb: -1000000≤b∧b≤1000000):[a,b].all num=true:=by
 simp only[List.all_cons,List.all_nil,Bool.and_true,bS]
 exact⟨I7.2 ha,I7.2 hb⟩
theorem Cw{n:Nat}{p q:Rw}(hp:ROk n p)(hq:ROk n q):CtxOk [p.tm,q.tm]:=⟨fun t ht=>by
 rcases List.mem_cons.1 ht with rfl|ht
 exact hp.tm
 rw[List.mem_singleton.1 ht];exact hq.tm,by simp⟩
theorem se{xs:List Int}:Scal (xs.map fun n=>[D.int .i64 n]):=Scal.map fun _=>rfl
theorem II{p q:Rw}(hp:ROk n p)(hq:ROk n q)(hk:k<10)(hx:0<p.xs.getD k default)(hy:q.xs.getD k default<0)(hn:n≤1000):MQ h1 h2 182 [GS p,GS q,eI k] [] (Plain (.tup [GS (eR p q k),eB (w9 (eR p q k))])):=by
 refine MC.data (jB 120 h1 h2 Tryz.func182 Z fun O hF=>?_)
 obtain⟨hg0,hm0,hn0⟩:=tw hp hq hx hy
 have hb1:=hp.get k
 have hb2:=hq.get k
 have lp:=hp.l
 have lq:=hq.l
 have lpm:=hp.n
 have lqm:=hq.n
 have hd1:=eV (a:=p.xs.getD k default) (b:=((gI p q k:Nat):Int)) (by omega)
 have hd2:=eV (a:= -(q.xs.getD k default)) (b:=((gI p q k:Nat):Int)) (by omega)
 obtain⟨m,em⟩: ∃m,m=nR p q k:=⟨_,rfl⟩
 obtain⟨nn,en⟩: ∃m,m=nQ p q k:=⟨_,rfl⟩
 rw[←em]at hm0
 rw[←en]at hn0
 have z1:=gO (a:=nn) (b:=p.c) (by omega) (I7.1 hp.c)
 have z2:=gO (a:=m) (b:=q.c) (by omega) (I7.1 hq.c)
 have hpm: ∀j,-1000000≤p.ms.getD j default∧p.ms.getD j default≤1000000:=fun j=>by have:=hp.mul j;omega
 have hqm: ∀j,-1000000≤q.ms.getD j default∧q.ms.getD j default≤1000000:=fun j=>by have:=hq.mul j;omega
 refine ae (jx Z (aq ?_))
 refine ar (Ent.freeze 3 (e':=[(3,_),(1,_),(2,_)]) Z (.cons Z (.c (.box (cs:=Rw.comb p) Z (aE Z))) (fe [1,2] Z)) (.skip .nil)) ?_
 refine aq ?_
 refine jx Z (aq ?_)
 refine ar (Ent.freeze 4 (e':=[(4,_),(3,_),(2,_)]) Z (.cons Z (.c (.box (cs:=Rw.comb q) Z (aE Z))) (fe [3,2] Z)) (.skip .nil)) ?_
 refine aq ?_
 refine jl Z (aq ?_)
 refine js Z (jn (af (fZ [_,_,_,_,_,_,_,_,_,_,_] [aF,ag [0],aF,pe [0,1,2] 0,pn [] 0 1,pn [4] 0 1,pn [] 0 1,pe (rg 0 7) 1,pn (rg 0 8) 2 2,pn (rg 0 8) 2 2,pn (rg 0 10) 2 2] [3,7] [_,_,_] (kc Z (kc Z (kc Z (ai (bv O (B0:=20000) Z Z Z Z ((ui (t:=p.tm) (k:=k) h1 h2).plain (u:=eI (p.xs.getD k default)) (congrArg eI (e7 p.xs k))) (ac Z) Z Z Z Z Z) (ai (kc Z (V Z)) (ai (kc Z (V Z)) (ai (kc Z (V Z)) (ai (bv O (B0:=24000) Z Z Z Z ((ui (t:=q.tm) (k:=k) h1 h2).plain (u:=eI (q.xs.getD k default)) (congrArg eI (e7 q.xs k))) (ac Z) Z Z Z Z Z) (ai ((bi O Z Z (by omega) (by omega)).cast (v':=eI (-(q.xs.getD k default))) (by rw[Int.zero_sub])) (kc Z (kc Z trivial))))))))))) ?_)))
 refine jw [9,8,7,6,4,3] Z (b0 ?_)
 refine ae (ab Z (aU (bO O Z Z Z) Z (aq ?_)))
 refine du O Z Z Z Z ((B8 (xs:=[p.xs.getD k default,-(q.xs.getD k default)]) h1 h2 (xy hb1 (by omega))).plain (u:=eI (gI p q k)) (by rw[Bv,Int.natAbs_neg])) (.cons (.c (.whole Z Z)) .nil) Z Z Z Z Z (B0:=29000) Z (js Z (jn (af (oH O _ [_,_,_,_,_,_,_,_] [aF,aF,ag [0,1],aF,aF,ag [3,4],ag [0,1,2],ag (rg 0 7)] [] [[],[],[],[8],[8],[8],[],[8]] [_] Z Z (by decide) (by decide) (by kernel_rfl) (kc Z (kc Z (ai ((gf O Z Z Z Z (by omega) (by omega) (by omega)).cast (v':=eI m) (by rw[em])) (kc Z (kc Z (ai ((gf O Z Z Z Z (by omega) (by omega) (by omega)).cast (v':=eI nn) (by rw[en])) (kc Z (kc Z trivial)))))))) ?_))))
 refine ae (az Z (aU (bp O Z Z Z Z Z Z Z Z Z Z Z) Z (aq ?_)))
 refine ab Z (aU (bO O Z Z Z) Z (aq ?_))
 refine ci O (B0:=44000) Z Z Z Z (Id (ts:=[p.tm,q.tm]) (ms:=[nn,m]) h1 h2 (Cw hp hq) (xy (by omega) (by omega)) (da _)) (.cons (.c (.whole Z Z)) (.cons (.c (.whole Z Z)) .nil)) Z Z Z Z Z Z (aq ?_)
 obtain⟨C,eC⟩: ∃C,C=nn*p.c+m*q.c:=⟨_,rfl⟩
 have hC: -2000000000000≤C∧C≤2000000000000:=by omega
 obtain⟨X,eX⟩: ∃X,X=iR nn m p.xs q.xs p.xs.length:=⟨_,rfl⟩
 have lX:X.length=10:=by rw[eX,bV,lp]
 have hXb: ∀x∈X,-2000000000000≤x∧x≤2000000000000:=by rw[eX];exact n3 hn0 hm0 hp.get hq.get
 rw[HR,ED lp,←eC,←eX]
 refine ar (Ent.cut 44000 (bM X).length Z) (aq ?_)
 rw[←List.map_take,yu]
 obtain⟨XT,eT⟩: ∃XT,XT=bM X:=⟨_,rfl⟩
 rw[←eT]
 have lT:XT.length≤10:=by rw[eT,←lX];exact gE X
 have hTb: ∀x∈XT,-2000000000000≤x∧x≤2000000000000:=fun x hx=>hXb x (AQ (by rwa[eT]at hx))
 refine jl Z (aq ?_)
 refine aq ?_
 refine jo Z (aq ?_)
 refine ba (js Z (jn (af (ae (ab Z (dh Z (js Z (jn (ao (aw (X:=Nat) (fun i=>⟨[(3,ptr p.comb),(4,ptr q.comb),(6,.c (.pt 6 0 0)),(8,eI m),(9,eI nn),(11,.c (.pt 11 0 0)),(12,.c (.rs 900 0 i)),(46,eI p.ms.length),(47,eI i)],[(6,.box [.d (.int .i64 0),.d .nils,.d .nils]),(11,.box [.d (.int .i64 C),.rs 44000 0 XT.length]),(44000,aO XT),(900,aO (iR nn m p.ms q.ms i))]⟩) (fun i=>i≤p.ms.length) (fun i=>p.ms.length-i) 0 (((cL 12 900 1 true Z Z).trans (am [6,11,44000,900] (e':=[(3,_),(4,_),(6,_),(8,_),(9,_),(11,_),(12,_),(46,_),(47,_)]) Z Z ⟨Z,Z,Z,Z,Z,Z,Z,Z,Z,ap⟩ Z)).trans (Ent.to ⟨Z,Z,Z,Z,Z,Z,Z,Z,Z,ap⟩ Z)) ?_ (fun i hi=>?_)))))))))))
 exact cT _
 refine ae (js Z (jn (af (ah Z (fun z48=>?_) (fun z48=>?_)))))
 try simp only[bG]at z48
 refine aj (af (ao (ae (ab Z (jn ?_)))))
 have f1:=gO (a:=nn) (b:=p.ms.getD i default) (by omega) (hpm i)
 have f2:=gO (a:=m) (b:=q.ms.getD i default) (by omega) (hqm i)
 refine kJ [_,_,_,_,_,_,_,_,_,_,_,_,_,_,_,_,_,_,_] [pn [] 0 1,aF,aF,ag [2],aF,ag [2,3,4],ag (rg 2 4),ag (rg 1 6),aF,aF,ag [9],aF,ag [9,10,11],ag (rg 9 4),ag (rg 8 6),ag (rg 1 14),pe (rg 1 15) 0,pe (rg 0 17) 1,pn (rg 0 18) 2 2] [16,17] [_,_,_] [[],[900,66]] (ai (ka Z Z (kw Z Z)) (ka Z Z (ka Z Z (ka Z Z (ka Z Z (ai (ai (vN Z) Z) (ka Z Z (ai (ai (vF Z) Z) (ka Z Z (ka Z Z (ka Z Z (ka Z Z (ai (ai (vN Z) Z) (ka Z Z (ai (ai (vF Z) Z) (ai (ai (vF Z) Z) (ai (ai (aI (jU O Z Z Z Z Z Z Z Z Z Z Z Z Z)) Z) (ai (ai (dJ (zs:=(iR nn m p.ms q.ms (i+1)).map fun n=>[.int .i64 n]) (n:=i+1) O Z Z Z Z Z Z Z Z Z Z Z Z Z Z Z Z (.row Z (by simp[bV])) Z Z (by decide) Z (by simp[bV];omega) (by simp[bV];omega) (by rw[jQ,List.map_append];rfl) (by simp[bV]) Z) Z) (ka Z Z trivial))))))))))))))))))) ?_
 refine jw [12,49,48,3,4,6,8,9,11,46,47] Z (b0 ?_)
 refine ak (ji Z (js Z (jn ?_)))
 refine⟨i+1,((am [6,11,44000,67] (e':=[(3,_),(4,_),(6,_),(8,_),(9,_),(11,_),(12,_),(46,_),(47,_)]) Z Z ⟨Z,Z,Z,Z,Z,Z,Z,Z,Z,ap⟩ Z).trans (aa 67 900 Z Z)),by omega,by omega⟩
 try simp only[bG]at z48
 refine bg (ae ?_)
 obtain rfl:i=p.ms.length:=by omega
 obtain⟨Y,eY⟩: ∃Y,Y=iR nn m p.ms q.ms p.ms.length:=⟨_,rfl⟩
 have lYp:Y.length=p.ms.length:=by rw[eY,bV]
 have hYb: ∀x∈Y,-2000000000000≤x∧x≤2000000000000:=by rw[eY];exact n3 hn0 hm0 hpm hqm
 rw[←eY,←lYp]
 obtain⟨G,eG⟩: ∃G,G=bB (C::X++Y):=⟨_,rfl⟩
 have hG:0<G∧G≤2000000000000:=by rw[eG,eC,eX,eY,em,en];exact pM hp hq hx hy
 have hq0:=lG (b:=(G:Int)) hC
 have hall: ∀x∈C::XT++Y,-4000000000000≤x∧x≤4000000000000:=fun x hx=>by rcases List.mem_append.1 hx with hx|hx;(rcases List.mem_cons.1 hx with rfl|hx;omega;have:=hTb x hx;omega);have:=hYb x hx;omega
 refine ab Z (aU (bO O Z Z Z) Z (aq ?_))
 refine aq ?_
 refine ab Z (aU (cU (own:=true) (xs:=[[.int .i64 C]]) (ys:=XT.map (fun n=>[D.int .i64 n])) (zs:=(C::XT).map (fun n=>[D.int .i64 n])) (n:=(C::XT).length) O Z (.row Z Z) (.whole Z (bQ _).symm (.inl se)) (by simp) Z (by simp;omega) (by simp;omega) Z (bQ _)) Z (aq ?_))
 refine aq ?_
 refine js Z (aU (cU (own:=true) (xs:=(C::XT).map (fun n=>[D.int .i64 n])) (ys:=Y.map (fun n=>[D.int .i64 n])) (zs:=(C::XT++Y).map (fun n=>[D.int .i64 n])) (n:=(C::XT++Y).length) O Z (.row Z (bQ _).symm) (.whole Z (bQ _).symm (.inl se)) (by simp) Z (by simp;omega) (by simp;omega) (by rw[←List.map_append]) (bQ _)) Z (aq ?_))
 refine aq ?_
 refine du O Z Z Z Z ((H7 (xs:=C::XT++Y) h1 h2 hall).plain (u:=eI G) (by rw[eT,yP,←eG])) (.cons (.c (.whole Z (bQ _).symm)) .nil) Z Z Z Z Z (B0:=78000) Z (js Z (ba (aH Z (av (vQ Z Z Z Z) Z (js Z (jo Z (aq ?_)))))))
 refine jn (af (ae (ab Z (dv Z Z (js Z (jn (ao (aw (X:=Nat) (fun i=>⟨[(6,.c (.pt 6 0 0)),(10,eI G),(11,.c (.pt 11 0 0)),(12,.c (.rs 900 0 Y.length)),(85,eI XT.length),(86,eI i)],[(6,.box [.d (.int .i64 0),.d .nils,.d .nils]),(11,.box [.d (.int .i64 (C.tdiv G)),.rs 44000 0 XT.length]),(900,aO Y),(44000,aO (oK XT G i))]⟩) (fun i=>i≤XT.length) (fun i=>XT.length-i) 0 (((am [6,11,900,44000] (e':=[(6,_),(10,_),(11,_),(12,_),(85,_),(86,_)]) Z Z ⟨Z,Z,Z,Z,Z,Z,ap⟩ Z)).trans (Ent.to ⟨Z,Z,Z,Z,Z,Z,ap⟩ (by rw[kY];rfl))) ?_ (fun i hi=>?_)))))))))
 exact cT _
 refine ae (js Z (jn (af (ah Z (fun z87=>?_) (fun z87=>?_)))))
 try simp only[bG]at z87
 refine aj (af (ao (ae ?_)))
 have hil:i<XT.length:=by omega
 have hxi:=lG (b:=(G:Int)) (hTb _ (pH hil))
 refine ab Z (jn (ak (aH Z (dv Z Z (av (bt O (ex:=[.int .i64 (XT.getD i default)]) Z Z Z Z (by rw[Nat.zero_add];exact gk (by omega)) Z) Z (js Z (av (vQ Z Z Z Z) Z (dv Z Z (aU (ca (ex:=[.int .i64 (XT.getD i default)]) (xs':=(oK XT G (i+1)).map (fun n=>[D.int .i64 n])) O Z Z Z Z Z Z Z Z Z Z Z Z Z Z (by rw[Nat.zero_add];exact gk (by omega)) (by rw[←jP (by omega),List.map_set,Nat.zero_add];rfl)) Z (aq ?_))))))))))
 refine jn (ak (ji Z (js Z (jn ?_))))
 refine⟨i+1,Ent.to ⟨Z,Z,Z,Z,Z,Z,ap⟩ Z,by omega,by omega⟩
 try simp only[bG]at z87
 refine bg (af (ae ?_))
 obtain rfl:i=XT.length:=by omega
 rw[lN]
 refine js Z (dv Z Z (js Z (jn (ao (aw (X:=Nat) (fun j=>⟨[(6,.c (.pt 6 0 0)),(10,eI G),(11,.c (.pt 11 0 0)),(12,.c (.rs 900 0 Y.length)),(99,eI Y.length),(100,eI j)],[(6,.box [.d (.int .i64 0),.d .nils,.d .nils]),(11,.box [.d (.int .i64 (C.tdiv G)),.rs 44000 0 XT.length]),(900,aO (oK Y G j)),(44000,aO (XT.map fun x=>x.tdiv G))]⟩) (fun j=>j≤Y.length) (fun j=>Y.length-j) 0 (((am [6,11,900,44000] (e':=[(6,_),(10,_),(11,_),(12,_),(99,_),(100,_)]) Z Z ⟨Z,Z,Z,Z,Z,Z,ap⟩ Z)).trans (Ent.to ⟨Z,Z,Z,Z,Z,Z,ap⟩ (by rw[kY];rfl))) ?_ (fun j hi=>?_))))))
 exact cT _
 refine ae (js Z (jn (af (ah Z (fun z101=>?_) (fun z101=>?_)))))
 try simp only[bG]at z101
 refine aj (af (ao (ae ?_)))
 have hjl:j<Y.length:=by omega
 have hyj:=lG (b:=(G:Int)) (hYb _ (pH hjl))
 refine ab Z (jn (ak (ab Z (dv Z Z (av (bt O (ex:=[.int .i64 (Y.getD j default)]) Z Z Z Z (by rw[Nat.zero_add];exact gk (by omega)) Z) Z (js Z (av (vQ Z Z Z Z) Z (dv Z Z (aU (ca (ex:=[.int .i64 (Y.getD j default)]) (xs':=(oK Y G (j+1)).map (fun n=>[D.int .i64 n])) O Z Z Z Z Z Z Z Z Z Z Z Z Z Z (by rw[Nat.zero_add];exact gk (by omega)) (by rw[←jP (by omega),List.map_set,Nat.zero_add];rfl)) Z (aq ?_))))))))))
 refine jn (ak (ji Z (js Z (jn ?_))))
 refine⟨j+1,Ent.to ⟨Z,Z,Z,Z,Z,Z,ap⟩ Z,by omega,by omega⟩
 try simp only[bG]at z101
 refine bg (af ?_)
 cases hb23:(⟨C.tdiv G,XT.map fun x=>x.tdiv G⟩:Tm).ok with
 | true=>
  obtain rfl:j=Y.length:=by omega
  rw[lN]
  refine jh (Ent.freeze 44000 (e':=[(6,_),(11,_),(12,_)]) Z (fe [6,11,12] Z) (aZ Z (.cons Z (.box (dw Z (.cons (.row Z (by simp)) .nil))) (bh Z (.skip .nil))))) ?_
  refine jh (Ent.freeze 900 (e':=[(6,_),(11,_),(12,_)]) Z (.cons Z (.keep Z) (.cons Z (.keep Z) (.cons Z (.c (.row Z (by simp))) .nil))) (aZ Z (aZ Z (.skip .nil)))) ?_
  refine zl [_,_,_,_,_,_,_,_,_,_,_] [pn [] 0 2,pn [] 0 2,pn [0,1] 0 2,aF,pe [3] 0,pn [3,4] 1 1,pn [3,4,5] 1 1,pe (rg 3 4) 1,pn (rg 3 5) 2 3,pe (rg 0 8) 2,pn (rg 0 10) 3 3] [4,7,9] [_,_,_,_] (ai (kc Z (kc Z (V Z))) (ai (kc Z (kc Z (V Z))) (ai (kc Z (kc Z (V Z))) (kc Z (ai (bv O (B0:=116000) Z Z Z Z (mS (t:=⟨C.tdiv G,XT.map fun x=>x.tdiv G⟩) h1 h2) (ac Z) Z Z Z Z Z) (ai ((V Z).cast (v':=eB true) (congrArg eB hb23)) (kc Z (ai (bv O (B0:=119000) Z Z Z Z (vM (xs:=Y.map fun x=>x.tdiv G) h1 h2) (ac Z) Z Z Z Z Z) (ai (ai (bl O Z Z Z Z Z) (bl O Z Z Z Z Z)) (ai (eS Z Z Z) (kc Z trivial))))))))))) ?_
  refine jw [7,6,11,12] Z (b0 ?_)
  refine ea ?_
  refine aJ Z ?_
  obtain⟨q1,q2⟩:=uL eG hG.1 lX
  rw[show eR p q k=nU ⟨C,X,Y⟩ G by subst eG;subst eY;subst eX;subst eC;subst em;subst en;rfl,q1,q2,←eT,hb23,Bool.true_and]
  exact .tup (.cons (.agg (aE Z)) (.cons (.c .d) .nil))
 | false=>
  obtain rfl:j=Y.length:=by omega
  rw[lN]
  refine jh (Ent.freeze 44000 (e':=[(6,_),(11,_),(12,_)]) Z (fe [6,11,12] Z) (aZ Z (.cons Z (.box (dw Z (.cons (.row Z (by simp)) .nil))) (bh Z (.skip .nil))))) ?_
  refine jh (Ent.freeze 900 (e':=[(6,_),(11,_),(12,_)]) Z (.cons Z (.keep Z) (.cons Z (.keep Z) (.cons Z (.c (.row Z (by simp))) .nil))) (aZ Z (aZ Z (.skip .nil)))) ?_
  refine zl [_,_,_,_,_,_,_,_,_,_,_] [pn [] 0 1,pn [] 0 1,pn [0,1] 0 1,aF,pe [3] 0,pn [3,4] 1 1,pn [3,4,5] 0 2,pn (rg 3 4) 0 2,pn (rg 3 5) 1 2,pe (rg 0 8) 1,pn (rg 0 10) 2 2] [4,9] [_,_,_] (ai (kc Z (V Z)) (ai (kc Z (V Z)) (ai (kc Z (V Z)) (kc Z (ai (bv O (B0:=116000) Z Z Z Z (mS (t:=⟨C.tdiv G,XT.map fun x=>x.tdiv G⟩) h1 h2) (ac Z) Z Z Z Z Z) (ai ((V Z).cast (v':=eB false) (congrArg eB hb23)) (ai ⟨Z,Z⟩ (ai ⟨Z,Z⟩ (ai (ai (aT O Z Z Z Z Z) (aT O Z Z Z Z Z)) (ai (eS Z Z Z) (kc Z trivial))))))))))) ?_
  refine jw [7,6,11,12] Z (b0 ?_)
  refine ea ?_
  refine aJ Z ?_
  obtain⟨q1,q2⟩:=uL eG hG.1 lX
  rw[show eR p q k=nU ⟨C,X,Y⟩ G by subst eG;subst eY;subst eX;subst eC;subst em;subst en;rfl,q1,q2,←eT,hb23,Bool.false_and]
  exact .tup (.cons (.agg (aE Z)) (.cons (.c .d) .nil))
set_option maxHeartbeats 8000000
abbrev Ck(rs:List Rw):A:=.c (.d (.slc 3 (rs.map Rw.comb)))
abbrev kG(rs:List Rw):B:=.row false 3 (rs.map Rw.comb)
abbrev HQ(z:List Rw×List Rw×Bool):A:=.tup [Ck z.1,Ck z.2.1,eB z.2.2]
theorem qz{rs:List Rw}{i:Nat}(h:i<rs.length):(rs.map Rw.comb)[0+((i:Nat):Int).toNat]? = some (rs.getD i default).comb:=by
 rw[Nat.zero_add,Int.toNat_natCast,List.getElem?_map,List.getElem?_eq_getElem h,aD h];rfl
theorem yB{ts:List Tm}(h:Fs ts){i:Nat}(hi:i<ts.length):(sS ts i).comb=[.int .i64 (ts.getD i default).c,cY (ts.getD i default).xs,cY (jJ ts.length i)]:=by
 have e:(sS ts i).tm=ts.getD i default:=CC h hi
 have e1:bM (sS ts i).xs=(ts.getD i default).xs:=congrArg Tm.xs e
 show[D.int .i64 (ts.getD i default).c,cY (bM (sS ts i).xs),cY (jJ ts.length i)]=_
 rw[e1]
theorem DW(hf:Fs ts):MQ h1 h2 168 [cb ts,ce (jE 10)] [] (Plain (HQ (BV ts))):=by
 refine MC.data (jB 120 h1 h2 Tryz.func168 Z fun O hF=>?_)
 have hlen:=hf.len
 refine ae (aH Z (ba (ab Z (jn (af (ae (js Z (dh Z (js Z (jn (ao (aw (X:=Nat) (fun i=>⟨[(0,cb ts),(1,ce (jE 10)),(7,.c (.rs 900 0 i)),(8,.c (.d .nils)),(23,cb ts),(24,eI ts.length),(25,eI i)],[(900,kG (fT ts i))]⟩) (fun i=>i≤ts.length) (fun i=>ts.length-i) 0 ((cL 7 900 3 false Z Z).trans (Ent.to ⟨Z,Z,Z,Z,Z,Z,Z,ap⟩ Z)) ?_ (fun i hi=>?_)))))))))))))
 exact cT _
 refine ae (js Z (jn (af (ah Z (fun z26=>?_) (fun z26=>?_)))))
 refine aj (af (ao (ae ?_)))
 have hil:i<ts.length:=by have:=bK z26;omega
 refine js Z (jD Z Z (js Z (jf [29,27,26,0,1,7,8,23,24,25] Z (jl Z (aq ?_)))))
 refine js Z (jf [9,10,29,26,0,1,7,8,23,24,25] Z (jo Z (aq ?_)))
 refine ba (js Z (dh Z (jf [31,9,10,29,26,0,1,7,8,23,24,25] Z (aU (gn O Z Z Z Z Z Z Z Z Z (by first|omega|(simp at *;omega)) (by first|omega|(simp at *;omega)) (by first|omega|(simp at *;omega)) (by first|omega|(dsimp only;omega)|(simp only[bG]at *;omega)) (by first|omega|(simp at *;omega)) Z Z Z) Z (aq ?_)))))
 refine js Z (jf [11,9,10,29,26,0,1,7,8,23,24,25] Z (ba (ab Z (dv Z Z (jf [35,11,10,29,26,0,1,7,8,23,24,25] Z (aU (ca (ex:=[.int .i64 0]) (xs':=(jJ ts.length i).map (fun n=>[D.int .i64 n])) O Z Z Z Z Z Z Z Z Z Z Z Z Z Z (by rw[Nat.zero_add,Int.toNat_natCast,List.getElem?_replicate,if_pos (by omega)]) uq) Z ?_))))))
 refine aq ?_
 refine jn (ak (ar (Ent.freeze 32 (e':=[(0,_),(1,_),(7,_),(8,_),(10,_),(11,_),(23,_),(24,_),(25,_)]) Z (.cons Z (.keep Z) (.cons Z (.keep Z) (.cons Z (.keep Z) (.cons Z (.keep Z) (.cons Z (.keep Z) (.cons Z (.c (.row Z (by simp[gU]))) (fe [23,24,25] Z))))))) (aZ Z (.skip (bh Z .nil)))) ?_))
 refine az Z (jf [39,36,0,1,7,8,10,11,23,24,25] Z (aU (bp O Z Z Z Z Z Z Z Z Z Z Z) Z (aq ?_)))
 refine jf [40,36,0,1,7,8,10,11,23,24,25] Z (aU (cU (own:=false) (xs:=(fT ts i).map Rw.comb) (ys:=[[.int .i64 (ts.getD i default).c,cY (ts.getD i default).xs,cY (jJ ts.length i)]]) (zs:=(fT ts (i+1)).map Rw.comb) (n:=i+1) O Z (.row Z (by simp[cv])) (.whole Z Z (.inr ⟨Z,Z⟩)) (by simp) Z (by simp[cv];omega) (by simp[cv];omega) (by rw[oQ,List.map_append,←yB hf hil];rfl) (by simp[cv])) Z (aq ?_))
 refine aq ?_
 refine js Z (jf [7,0,1,8,10,11,23,24,25] Z (jn (ak (ji Z (js Z (jn ?_))))))
 refine⟨i+1,((am [41] (e':=[(0,_),(1,_),(7,_),(8,_),(23,_),(24,_),(25,_)]) Z Z ⟨Z,Z,Z,Z,Z,Z,Z,ap⟩ Z).trans (aa 41 900 Z Z)),by omega,by omega⟩
 refine bg (af (ae ?_))
 obtain rfl:i=ts.length:=by have:=cu z26;omega
 refine js Z (dh Z (js Z (jn (ao (aw (X:=Nat×List Rw×List Rw) (fun x=>⟨[(43,ce (jE 10)),(44,eI (jE 10).length),(45,eI x.1),(7,.c (.rs 900 0 x.2.1.length)),(8,.c (.rs 901 0 x.2.2.length))],[(900,kG x.2.1),(901,kG x.2.2)]⟩) (fun x=>x.1≤10∧il (10-x.1) x.1 x.2.1 x.2.2=dF ts∧AllR ts.length x.2.1∧x.2.1.length≤60∧AllR ts.length x.2.2∧x.2.2.length≤60*x.1) (fun x=>10-x.1) (0,ue ts,[]) ((cL 8 901 3 false Z Z).trans (Ent.to ⟨Z,Z,Z,congrArg (fun n=>some (A.c (.rs 900 0 n))) cv.symm,Z,ap⟩ Z)) ?_ (fun x hi=>?_))))))
 exact⟨cT _,Z,qp hf,by show(fT ts ts.length).length≤60;rw[cv];omega,AllR.nil,cT _⟩
 refine ae (js Z (jn (af (ah Z (fun z46=>?_) (fun z46=>?_)))))
 refine aj (af (ao (ae ?_)))
 obtain⟨hx1,hx2,hx3,hx4,hx5,hx6⟩:=hi
 have hxl:x.1<10:=by have:=bK z46;simp only[dI]at this;omega
 obtain⟨k,ek⟩: ∃k,k=x.1:=⟨_,rfl⟩
 obtain⟨rs,ers⟩: ∃k,k=x.2.1:=⟨_,rfl⟩
 obtain⟨NW,eNW⟩: ∃k,k=x.2.2:=⟨_,rfl⟩
 rw[←ek,←ers,←eNW]at hx2
 rw[←ers]at hx3 hx4
 rw[←eNW]at hx5 hx6
 rw[←ek]at hx6 hxl
 rw[←ek,←ers,←eNW]
 refine av (bf O Z Z Z Z Z Z Z Z (dO (by rw[dI];omega))) Z (av ((V Z).cast (v':=eI k) (congrArg eI (AV hxl))) Z (js Z (jf [13,46,43,44,45,7,8] Z (ba (js Z (jn (af (ae (js Z (dv Z Z (js Z (jn (ao (aw (X:=Nat) (fun i=>⟨[(43,ce (jE 10)),(44,eI (jE 10).length),(45,eI k),(7,.c (.rs 900 0 rs.length)),(8,.c (.rs 901 0 NW.length)),(13,eI k),(14,.c (.rs 902 0 (dc k (rs.take i)).length)),(49,.c (.rs 900 0 rs.length)),(50,eI rs.length),(51,eI i)],[(900,kG rs),(901,kG NW),(902,kG (dc k (rs.take i)))]⟩) (fun i=>i≤rs.length) (fun i=>rs.length-i) 0 ((cL 14 902 3 false Z Z).trans (Ent.to ⟨Z,Z,Z,Z,Z,Z,Z,Z,Z,Z,ap⟩ Z)) ?_ (fun i hi=>?_)))))))))))))))
 exact cT _
 refine ae (js Z (jn (af (ah Z (fun z52=>?_) (fun z52=>?_)))))
 refine aj (af (ao (ae ?_)))
 have hil:i<rs.length:=by have:=bK z52;omega
 have hget:=qz hil
 refine dv Z Z (av (bt O (ex:=(rs.getD i default).comb) Z Z Z Z hget Z) Z (jf [54,52,43,44,45,7,8,13,14,49,50,51] Z (jl Z (aq ?_))))
 refine jo Z (aq ?_)
 refine ba (aH Z (jf [57,56,16,54,52,43,44,45,7,8,13,14,49,50,51] Z (bP Z (((ui (t:=(rs.getD i default).tm) (k:=k) h1 h2).plain (u:=eI ((rs.getD i default).xs.getD k default)) (congrArg eI (e7 (rs.getD i default).xs k)))) 59000 Z (js Z (jf [59,16,54,52,43,44,45,7,8,13,14,49,50,51] Z (jn (ah Z (fun z59=>?_) (fun z59=>?_))))))))
 refine ak (ab Z (aU (bp O Z Z Z Z Z Z Z Z Z Z Z) Z (aq ?_)))
 refine jf [62,60,59,16,54,52,43,44,45,7,8,13,14,49,50,51] Z ?_
 have hki:=gy (k:=k) (rs:=rs.take (i+1))
 have hkj:=gy (k:=k) (rs:=rs.take i)
 rw[List.length_take]at hki hkj
 refine aU (cU (own:=false) (xs:=(dc k (rs.take i)).map Rw.comb) (ys:=[Rw.comb (rs.getD i default)]) (zs:=(dc k (rs.take (i+1))).map Rw.comb) (n:=(dc k (rs.take (i+1))).length) O Z (.row Z (bQ _).symm) (.whole Z Z (.inr ⟨Z,Z⟩)) (by simp) Z (by simp only[bQ,cG,dL,eH,List.length_nil];omega) (by simp only[bQ,cG,dL,eH,List.length_nil];omega) (by rw[xN hil (bK z59),List.map_append];rfl) (bQ _)) Z (aq ?_)
 refine aq ?_
 refine js Z (jf [14,59,16,54,52,43,44,45,7,8,13,49,50,51] Z (jn (ak (ji Z (js Z (jn ?_))))))
 refine⟨i+1,((am [900,901,63] (e':=[(43,_),(44,_),(45,_),(7,_),(8,_),(13,_),(14,_),(49,_),(50,_),(51,_)]) Z Z ⟨Z,Z,Z,Z,Z,Z,Z,Z,Z,Z,ap⟩ Z).trans (aa 63 902 Z Z)),by omega,by omega⟩
 refine aj (ak (ji Z (js Z (jn ?_))))
 have hkf:=xO (k:=k) (i:=i) (rs:=rs) hil (cu z59)
 rw[←hkf]
 refine⟨i+1,((am [900,901,902] (e':=[(43,_),(44,_),(45,_),(7,_),(8,_),(13,_),(14,_),(49,_),(50,_),(51,_)]) Z Z ⟨Z,Z,Z,Z,Z,Z,Z,Z,Z,Z,ap⟩ Z)).trans (Ent.to ⟨Z,Z,Z,Z,Z,Z,Z,Z,Z,Z,ap⟩ Z),by omega,by omega⟩
 refine bg (af (ae ?_))
 have hie:i=rs.length:=by have:=cu z52;omega
 subst hie
 rw[List.take_length]
 have hkl:=gy (k:=k) (rs:=rs)
 obtain⟨KP,eK⟩: ∃KP,KP=dc k rs:=⟨_,rfl⟩
 rw[←eK]
 rw[←eK]at hkl
 refine js Z (dv Z Z (js Z (jn (ao (aw (X:=Nat×List Rw) (fun y=>⟨[(43,ce (jE 10)),(44,eI (jE 10).length),(45,eI k),(7,.c (.rs 900 0 rs.length)),(8,.c (.rs 901 0 (NW++y.2).length)),(13,eI k),(14,.c (.rs 902 0 (KP++y.2).length)),(65,.c (.rs 900 0 rs.length)),(66,eI rs.length),(67,eI y.1)],[(900,kG rs),(901,kG (NW++y.2)),(902,kG (KP++y.2))]⟩) (fun y=>y.1≤rs.length∧sO k KP.length rs (rs.drop y.1) y.2=sO k KP.length rs rs []∧AllR ts.length y.2∧(KP++y.2).length≤60) (fun y=>rs.length-y.1) (0,[]) (((am [900,901,902] (e':=[(43,_),(44,_),(45,_),(7,_),(8,_),(13,_),(14,_),(65,_),(66,_),(67,_)]) Z Z ⟨Z,Z,Z,Z,Z,Z,Z,Z,Z,Z,ap⟩ Z)).trans (Ent.to ⟨Z,Z,Z,Z,(by simp only[List.append_nil];rfl),Z,(by simp only[List.append_nil];rfl),Z,Z,Z,ap⟩ (by simp only[List.append_nil];rfl))) ?_ (fun y hi=>?_))))))
 exact⟨cT _,Z,AllR.nil,by rw[List.append_nil];omega⟩
 refine ae (js Z (jn (af (ah Z (fun z68=>?_) (fun z68=>?_)))))
 refine aj (af (ao (ae ?_)))
 obtain⟨hy1,hy2,hy3,hy4⟩:=hi
 have hyl:y.1<rs.length:=by have:=bK z68;omega
 have hget:=qz hyl
 refine dv Z Z (av (bt O (ex:=(rs.getD y.1 default).comb) Z Z Z Z hget Z) Z (jf [70,68,43,44,45,7,8,13,14,65,66,67] Z (jl Z (aq ?_))))
 refine jo Z (aq ?_)
 refine ba (js Z (dv Z Z (js Z (jn (ao (aw (X:=Nat×List Rw) (fun z=>⟨[(43,ce (jE 10)),(44,eI (jE 10).length),(45,eI k),(7,.c (.rs 900 0 rs.length)),(8,.c (.rs 901 0 (NW++z.2).length)),(13,eI k),(14,.c (.rs 902 0 (KP++z.2).length)),(65,.c (.rs 900 0 rs.length)),(66,eI rs.length),(67,eI y.1),(18,.c (.pt 18 0 0)),(71,.c (.rs 900 0 rs.length)),(72,eI rs.length),(73,eI z.1)],[(18,.box ((rs.getD y.1 default).comb.map .d)),(900,kG rs),(901,kG (NW++z.2)),(902,kG (KP++z.2))]⟩) (fun z=>z.1≤rs.length∧t4 (rs.getD y.1 default) k KP.length (rs.drop z.1) z.2=t4 (rs.getD y.1 default) k KP.length rs y.2∧AllR ts.length z.2∧(KP++z.2).length≤60) (fun z=>rs.length-z.1) (0,y.2) (((am [18,900,901,902] (e':=[(43,_),(44,_),(45,_),(7,_),(8,_),(13,_),(14,_),(65,_),(66,_),(67,_),(18,_),(71,_),(72,_),(73,_)]) Z Z ⟨Z,Z,Z,Z,Z,Z,Z,Z,Z,Z,Z,Z,Z,Z,ap⟩ Z)).trans (Ent.to ⟨Z,Z,Z,Z,Z,Z,Z,Z,Z,Z,Z,Z,Z,Z,ap⟩ Z)) ?_ (fun z hi=>?_)))))))
 exact⟨cT _,Z,hy3,hy4⟩
 refine ae (js Z (jn (af (ah Z (fun z74=>?_) (fun z74=>?_)))))
 refine aj (af (ao (ae ?_)))
 obtain⟨hz1,hz2,hz3,hz4⟩:=hi
 have hzl:z.1<rs.length:=by have:=bK z74;omega
 have hgetz:=qz hzl
 have hpi:=hx3.get hyl
 have hqj:=hx3.get hzl
 have hkz:=hz4
 have hgj:=uT (p:=(rs.getD y.1 default)) (k:=k) (b:=KP.length) (rs:=rs) (new:=z.2) (j:=z.1) hzl
 refine dv Z Z (av (bt O (ex:=(rs.getD z.1 default).comb) Z Z Z Z hgetz Z) Z (jf [76,74,43,44,45,7,8,13,14,65,66,67,18,71,72,73] Z (jl Z (aq ?_))))
 refine jo Z (aq ?_)
 refine jn (af (ae (aH Z (jf [79,78,20,76,74,43,44,45,7,8,13,14,65,66,67,18,71,72,73] Z (bP Z (((ui (t:=(rs.getD y.1 default).tm) (k:=k) h1 h2).plain (u:=eI ((rs.getD y.1 default).xs.getD k default)) (congrArg eI (e7 (rs.getD y.1 default).xs k)))) 81000 Z (ab Z (jf [82,20,76,74,43,44,45,7,8,13,14,65,66,67,18,71,72,73] Z (aA 5 Z Z Z (fun hx=>ax hx Z (ax hx Z (ax hx Z (bA O hx Z Z Z Z (((ui (t:=(rs.getD z.1 default).tm) (k:=k) h1 h2).plain (u:=eI ((rs.getD z.1 default).xs.getD k default)) (congrArg eI (e7 (rs.getD z.1 default).xs k)))) (ac Z) Z Z Z Z Z Z Z (B0:=87000) Z (ax hx Z (AN.nil)))))) Z Z (av (aG O Z Z Z Z Z) Z (jf [88,20,76,74,43,44,45,7,8,13,14,65,66,67,18,71,72,73] Z (jn (ah Z (fun z88=>?_) (fun z88=>?_)))))))))))))
 refine bg (ak (ji Z (js Z (jn ?_))))
 rw[if_pos (Hj z88)]at hgj
 refine⟨(z.1+1,z.2),((am [18,900,901,902] (e':=[(43,_),(44,_),(45,_),(7,_),(8,_),(13,_),(14,_),(65,_),(66,_),(67,_),(18,_),(71,_),(72,_),(73,_)]) Z Z ⟨Z,Z,Z,Z,Z,Z,Z,Z,Z,Z,Z,Z,Z,Z,ap⟩ Z)).trans (Ent.to ⟨Z,Z,Z,Z,Z,Z,Z,Z,Z,Z,Z,Z,Z,Z,ap⟩ Z),⟨by show z.1+1≤_;omega,hgj.symm.trans hz2,hz3,hz4⟩,by show rs.length-(z.1+1)<rs.length-z.1;omega⟩
 refine aj (ae ?_)
 have hcc:=Hk z88
 rw[if_neg hcc]at hgj
 have hpk:0<(rs.getD y.1 default).xs.getD k default:=by omega
 have hqk:(rs.getD z.1 default).xs.getD k default<0:=by omega
 refine aH Z (an O Z Z Z Z (II (n:=ts.length) (p:=(rs.getD y.1 default)) (q:=(rs.getD z.1 default)) (k:=k) h1 h2 hpi hqj hxl hpk hqk (by omega)) (ac Z) Z Z Z Z (B0:=94000) Z Z (aH Z (jf [95,94,88,20,76,74,43,44,45,7,8,13,14,65,66,67,18,71,72,73] Z (jl Z (aq ?_)))))
 refine jo Z (aq ?_)
 refine js Z (jf [22,21,88,20,76,74,43,44,45,7,8,13,14,65,66,67,18,71,72,73] Z (jn (af (ae (aH Z (jf [98,21,88,20,76,74,43,44,45,7,8,13,14,65,66,67,18,71,72,73] Z (aA 3 Z Z Z (fun hx=>ax hx Z (dD hx (vI Z Z) Z (ax hx Z (AN.nil)))) Z Z (av (aG O Z Z Z Z Z) Z (jf [102,21,88,20,76,74,43,44,45,7,8,13,14,65,66,67,18,71,72,73] Z (jn (ah Z (fun z102=>?_) (fun z102=>?_))))))))))))
 refine ae (aH Z (jr ?_))
 refine aJ Z ?_
 have hno9:=DA z102
 have hno: ¬(w9 (eR (rs.getD y.1 default) (rs.getD z.1 default) k)=true∧KP.length+z.2.length≠60):=fun h=>hno9 ⟨h.1,by rw[cG];exact h.2⟩
 rw[if_neg hno]at hgj
 have hgi:=nz (k:=k) (b:=KP.length) (rs:=rs) (new:=y.2) (i:=y.1) hyl
 rw[←hz2,hgj]at hgi
 have hs:fG k rs=none:=by show sO k (dc k rs).length rs rs []=none;rw[←eK,←hy2];exact hgi
 have he:dF ts=none:=by rw[←hx2,show 10-k=(10-(k+1))+1 by omega,kv hs]
 rw[qF he]
 exact .tup (.cons (.c .nils) (.cons (.c .nils) (.cons (.c .d) .nil)))
 refine aj (ae ?_)
 have hyes9:=DB z102
 have hyes:w9 (eR (rs.getD y.1 default) (rs.getD z.1 default) k)=true∧KP.length+z.2.length≠60:=⟨hyes9.1,by have:=hyes9.2;rwa[cG]at this⟩
 have hk59:KP.length+z.2.length≤60:=by rw[←cG];exact hkz
 refine ab Z (aU (bp O Z Z Z Z Z Z Z Z Z Z Z) Z (aq ?_))
 refine jf [105,103,102,21,88,20,76,74,43,44,45,7,8,13,14,65,66,67,18,71,72,73] Z (aU (cU (own:=false) (xs:=(KP++z.2).map Rw.comb) (ys:=[Rw.comb (eR (rs.getD y.1 default) (rs.getD z.1 default) k)]) (zs:=(KP++(z.2++[eR (rs.getD y.1 default) (rs.getD z.1 default) k])).map Rw.comb) (n:=(KP++(z.2++[eR (rs.getD y.1 default) (rs.getD z.1 default) k])).length) O Z (.row Z (bQ _).symm) (.whole Z Z (.inr ⟨Z,Z⟩)) (by simp) Z (by simp only[bQ,cG,dL,eH,List.length_nil];omega) (by simp only[bQ,cG,dL,eH,List.length_nil];omega) (by rw[←gF,List.map_append (l₁:=KP++z.2)];rfl) (bQ _)) Z (aq ?_))
 refine aq ?_
 refine js Z (jf [14,102,21,88,20,76,74,43,44,45,7,8,13,65,66,67,18,71,72,73] Z (jn (ak (ab Z (aU (bp O Z Z Z Z Z Z Z Z Z Z Z) Z (aq ?_))))))
 refine jf [109,107,14,102,21,88,20,76,74,43,44,45,7,8,13,65,66,67,18,71,72,73] Z (aU (cU (own:=false) (xs:=(NW++z.2).map Rw.comb) (ys:=[Rw.comb (eR (rs.getD y.1 default) (rs.getD z.1 default) k)]) (zs:=(NW++(z.2++[eR (rs.getD y.1 default) (rs.getD z.1 default) k])).map Rw.comb) (n:=(NW++(z.2++[eR (rs.getD y.1 default) (rs.getD z.1 default) k])).length) O Z (.row Z (bQ _).symm) (.whole Z Z (.inr ⟨Z,Z⟩)) (by simp) Z (by simp only[bQ,cG,dL,eH,List.length_nil];omega) (by simp only[bQ,cG,dL,eH,List.length_nil];omega) (by rw[←gF,List.map_append (l₁:=NW++z.2)];rfl) (bQ _)) Z (aq ?_))
 refine aq ?_
 refine js Z (jf [8,14,102,21,88,20,76,74,43,44,45,7,13,65,66,67,18,71,72,73] Z (jn (ak (ji Z (js Z (jn ?_))))))
 rw[if_pos hyes]at hgj
 refine⟨(z.1+1,z.2++[eR (rs.getD y.1 default) (rs.getD z.1 default) k]),((((am [18,900,110,106] (e':=[(43,_),(44,_),(45,_),(7,_),(8,_),(13,_),(14,_),(65,_),(66,_),(67,_),(18,_),(71,_),(72,_),(73,_)]) Z Z ⟨Z,Z,Z,Z,Z,Z,Z,Z,Z,Z,Z,Z,Z,Z,ap⟩ Z).trans (aa 110 901 Z Z)).trans (aa 106 902 Z Z))).trans (Ent.to ⟨Z,Z,Z,Z,Z,Z,Z,Z,Z,Z,Z,Z,Z,Z,ap⟩ Z),⟨by show z.1+1≤_;omega,hgj.symm.trans hz2,hz3.snoc (s6 hpi hqj hpk hqk hyes.1),by rw[cG]at hkz ⊢;rw[cG,dL];omega⟩,by show rs.length-(z.1+1)<rs.length-z.1;omega⟩
 refine bg (ak (ji Z (js Z (jn ?_))))
 obtain⟨hz1,hz2,hz3,hz4⟩:=hi
 have hze:rs.length≤z.1:=by have:=cu z74;omega
 rw[xQ hze]at hz2
 have hgi:=nz (k:=k) (b:=KP.length) (rs:=rs) (new:=y.2) (i:=y.1) hyl
 rw[←hz2]at hgi
 refine⟨(y.1+1,z.2),((am [900,901,902] (e':=[(43,_),(44,_),(45,_),(7,_),(8,_),(13,_),(14,_),(65,_),(66,_),(67,_)]) Z Z ⟨Z,Z,Z,Z,Z,Z,Z,Z,Z,Z,ap⟩ Z)).trans (Ent.to ⟨Z,Z,Z,Z,Z,Z,Z,Z,Z,Z,ap⟩ Z),⟨by show y.1+1≤_;omega,hgi.symm.trans hy2,hz3,hz4⟩,by show rs.length-(y.1+1)<rs.length-y.1;omega⟩
 refine bg (af (ae ?_))
 have hk60:=hi.2.2.2
 refine js Z (dv Z Z (js Z (jf [115,68,43,44,45,7,8,13,14,65,66,67] Z (jn (ah Z (fun z115=>?_) (fun z115=>?_))))))
 exact absurd (bK z115) (by omega)
 refine aj (ak (ab Z (jn (ak (ji Z (js Z (jn ?_)))))))
 obtain⟨hy1,hy2,hy3,hy4⟩:=hi
 have hye:rs.length≤y.1:=by have:=cu z68;omega
 rw[xS hye]at hy2
 have hs:fG k rs=some y.2:=by show sO k (dc k rs).length rs rs []=_;rw[←eK];exact hy2.symm
 have hso:=oi hx3 hx4 hs
 subst eK
 refine⟨(k+1,dc k rs++y.2,NW++y.2),((((am [902,901] (e':=[(43,_),(44,_),(45,_),(7,_),(8,_)]) Z Z ⟨Z,Z,Z,Z,Z,ap⟩ Z).trans (aa 902 900 Z Z))).trans (Ent.to ⟨Z,Z,Z,Z,Z,ap⟩ Z)),⟨by show k+1≤10;omega,?_,hso.1,hso.2.1,hx5.app hso.2.2.1,?_⟩,?_⟩
 show il (10-(k+1)) (k+1) _ _=_
 rw[←hx2,show 10-k=(10-(k+1))+1 by omega,ku hs]
 show(NW++y.2).length≤60*(k+1)
 have:=hso.2.2.2;rw[cG];omega
 show 10-(k+1)<10-k;omega
 refine bg (ae (az Z (js Z (jf [6,5,4,46,43,44,45,7,8] Z (jr ?_)))))
 refine aJ Z ?_
 obtain⟨hx1,hx2,hx3,hx4,hx5,hx6⟩:=hi
 have hxe:x.1=10:=by have:=cu z46;simp only[dI]at this;omega
 rw[hxe]at hx2
 have he:dF ts=some x.2:=hx2.symm
 rw[iE he]
 exact .tup (.cons (.c (.whole Z (bQ _).symm)) (.cons (.c (.whole Z (bQ _).symm)) (.cons (.c .d) .nil)))
theorem DI{L:Nat}(h1:4096≤L)(h2:L≤1073741824){ts:List Tm}{t:Tm}(h0:0<ts.length)(hl:ts.length≤1000):MC Tryz.prog L 154 [cb ts,db t] [] (Plain (cb (ts++[t]))):=by
 cases ts with
 | nil=>exact absurd h0 (by decide)
 | cons c r=>exact Ca (c:=c) (r:=r) (t:=t) h1 h2 hl
def zn(ts:List Tm):Tm×Rw×Bool:=match fm ts with
  | none=>(⟨0,[]⟩,⟨0,[],[]⟩,false)
  | some r=>((aM ts r.tm).1,r,true)
abbrev HP(z:Tm×Rw×Bool):A:=.tup [db z.1,GS z.2.1,eB z.2.2]
theorem nE{ts:List Tm}(h:fm ts=none):zn ts=(⟨0,[]⟩,⟨0,[],[]⟩,false):=by unfold zn;rw[h]
theorem nD{ts:List Tm}{r:Rw}(h:fm ts=some r):zn ts=((aM ts r.tm).1,r,true):=by unfold zn;rw[h]
theorem ET{ts:List Tm}(h:Fs ts):(zn ts).1.ok=true:=by
 cases hc:fm ts with
 | none=>rw[nE hc];decide
 | some r=>rw[nD hc];exact fv (km h hc).2
theorem IR(hf:Fs ts):MQ h1 h2 144 [cb ts] [] (Plain (zL (dE ts))):=by
 refine MC.data (jB 35 h1 h2 Tryz.func144 Z fun O hF=>?_)
 refine ae (ab Z (jn (af (ae (js Z (bP Z ((IM (ts:=ts) h1 h2).plain (u:=eB true) (congrArg eB hf.all)) 11000 Z (js Z (jn (ah Z (fun z11=>?_) (fun z11=>?_))))))))))
 exact absurd z11 (by decide)
 refine aj (ae (js Z (an O Z Z Z Z (DV (n:=10) h1 h2 (by omega)) (ac Z) Z Z Z Z (B0:=15000) Z Z (an O Z Z Z Z (DW (ts:=ts) h1 h2 hf) (ac Z) Z Z Z Z (B0:=16000) Z Z (az Z (aH Z (jn (af (ae (ab Z (jn (ah Z (fun z20=>?_) (fun z20=>?_)))))))))))))
 refine ae (ab Z (jr ?_))
 refine aJ Z ?_
 rw[xG (xk (GL z20))]
 exact .tup (.cons (.c .nils) (.cons (.c .d) .nil))
 refine aj (af (ae ?_))
 obtain⟨z,hz⟩:=xj (ts:=ts) (GA z20)
 rw[iE hz]
 obtain⟨ha,hal,hb,hbl⟩:=jT hf (a:=z.1) (b:=z.2) hz
 refine js Z (dh Z (js Z (jn (ao (aw (X:=Nat) (fun i=>⟨[(21,Ck z.1),(22,eI z.1.length),(23,eI i)],[]⟩) (fun i=>i≤z.1.length∧ij (z.1.drop i)=ij z.1) (fun i=>z.1.length-i) 0 (Ent.to ⟨Z,Z,Z,ap⟩ Z) ?_ (fun i hi=>?_))))))
 exact⟨cT _,Z⟩
 refine ae (js Z (jn (af (ah Z (fun z24=>?_) (fun z24=>?_)))))
 refine aj (af (ao (ae ?_)))
 have hil:i<z.1.length:=by have:=bK z24;omega
 have hfc:=rc (rs:=z.1) hil
 refine av (bf O Z Z Z Z Z Z Z Z (dO hil)) Z (js Z (jl Z (aq ?_)))
 refine jo Z (aq ?_)
 refine ba (az Z (jn (ah Z (fun z30=>?_) (fun z30=>?_))))
 refine ae (ab Z (an O Z Z Z Z (DJ (xs:=(z.1.getD i default).ms) h1 h2) (ac Z) Z Z Z Z (B0:=34000) Z Z (ab Z (jr ?_))))
 refine aJ Z ?_
 rw[if_pos (bK z30),hi.2]at hfc
 rw[Ai hz hfc]
 exact .tup (.cons (.c .d) (.cons (.c .d) .nil))
 refine aj (ak (ji Z (js Z (jn ?_))))
 rw[if_neg (cu z30)]at hfc
 refine⟨i+1,((am [] (e':=[(21,_),(22,_),(23,_)]) Z Z ⟨Z,Z,Z,ap⟩ Z).trans b9),⟨by omega,hfc.symm.trans hi.2⟩,by omega⟩
 refine bg (ae (ab Z (jr ?_)))
 refine aJ Z ?_
 have hle:z.1.length≤i:=by have:=cu z24;omega
 have h9:=hi.2
 rw[sk hle]at h9
 rw[Aj hz h9.symm]
 exact .tup (.cons (.c .nils) (.cons (.c .d) .nil))
theorem IQ(hf:Fs ts):MQ h1 h2 145 [cb ts] [] (Plain (HP (zn ts))):=by
 refine MC.data (jB 42 h1 h2 Tryz.func145 Z fun O hF=>?_)
 refine ae (jl Z (aq ?_))
 refine jl Z (aq ?_)
 refine js Z (ba (js Z (an O Z Z Z Z (DV (n:=10) h1 h2 (by omega)) (ac Z) Z Z Z Z (B0:=15000) Z Z (an O Z Z Z Z (DW (ts:=ts) h1 h2 hf) (ac Z) Z Z Z Z (B0:=16000) Z Z (az Z (aH Z (jn (af (ae (ab Z (jn (ah Z (fun z20=>?_) (fun z20=>?_)))))))))))))
 refine ae (ab Z (jo Z (aq ?_)))
 refine jo Z (aq ?_)
 refine js Z (jr ?_)
 refine aJ Z ?_
 rw[nE (x3 (xk (GL z20)))]
 exact .tup (.cons (.agg (.cons .d (.cons .nils .nil))) (.cons (.agg (.cons .d (.cons .nils (.cons .nils .nil)))) (.cons (.c .d) .nil)))
 refine aj (af (ae ?_))
 obtain⟨z,hz⟩:=xj (ts:=ts) (GA z20)
 rw[iE hz]
 obtain⟨ha,hal,hb,hbl⟩:=jT hf (a:=z.1) (b:=z.2) hz
 refine js Z (dh Z (js Z (jn (ao (aw (X:=Nat) (fun i=>⟨[(0,cb ts),(2,.c (.pt 2 0 0)),(3,.c (.pt 3 0 0)),(23,Ck z.2),(24,eI z.2.length),(25,eI i)],[(2,.box [.d (.int .i64 0),.d .nils]),(3,.box [.d (.int .i64 0),.d .nils,.d .nils])]⟩) (fun i=>i≤z.2.length∧kF ts (z.2.drop i)=kF ts z.2) (fun i=>z.2.length-i) 0 (Ent.to ⟨Z,Z,Z,Z,Z,Z,ap⟩ Z) ?_ (fun i hi=>?_))))))
 exact⟨cT _,Z⟩
 refine ae (js Z (jn (af (ah Z (fun z26=>?_) (fun z26=>?_)))))
 refine aj (af (ao (ae ?_)))
 have hil:i<z.2.length:=by have:=bK z26;omega
 have hfc:=rd (ts:=ts) (rs:=z.2) hil
 have hro:=hb.get hil
 refine av (bf O Z Z Z Z Z Z Z Z (dO hil)) Z (js Z (jl Z (aq ?_)))
 refine jo Z (aq ?_)
 refine ba (aH Z (an O Z Z Z Z (DZ (ts:=ts) (t:=(z.2.getD i default).tm) h1 h2 hro.tm) (ac Z) Z Z Z Z (B0:=34000) Z Z (aH Z (jl Z (aq ?_)))))
 refine jo Z (aq ?_)
 refine js Z (ba (js Z (jn (ah Z (fun z36=>?_) (fun z36=>?_)))))
 refine af (fZ [_,_,_,_,_] [aF,pn [] 0 1,pe [0] 0,pe [0,1,2] 1,pn (rg 0 4) 2 2] [2,3] [_,_,_] (kc Z (ai (kc Z (V Z)) (ai (eS Z Z Z) (ai (eS Z Z Z) (kc Z trivial))))) ?_)
 refine jw [4,36,11,10,9,28,26,0,2,3,23,24,25] Z (b0 ?_)
 refine ea ?_
 refine aJ Z ?_
 rw[if_pos z36,hi.2,←pS hz]at hfc
 rw[nD hfc]
 exact .tup (.cons (.agg (aE Z)) (.cons (.agg (aE Z)) (.cons (.c .d) .nil)))
 refine aj (ak (ji Z (js Z (jn ?_))))
 rw[if_neg (by rw[z36];decide)]at hfc
 refine⟨i+1,((am [2,3] (e':=[(0,_),(2,_),(3,_),(23,_),(24,_),(25,_)]) Z Z ⟨Z,Z,Z,Z,Z,Z,ap⟩ Z).trans b9),⟨by omega,hfc.symm.trans hi.2⟩,by omega⟩
 refine bg (ae (ab Z (jo Z (aq ?_))))
 refine jo Z (aq ?_)
 refine js Z (jr ?_)
 refine aJ Z ?_
 have hle:z.2.length≤i:=by have:=cu z26;omega
 have h9:=hi.2
 rw[sl hle,←pS hz]at h9
 rw[nE h9.symm]
 exact .tup (.cons (.agg (.cons .d (.cons .nils .nil))) (.cons (.agg (.cons .d (.cons .nils (.cons .nils .nil)))) (.cons (.c .d) .nil)))
abbrev ig(b:Int)(s:Wk)(l:Nat):B:=.box [.d (.int .i64 b),.rs l 0 s.1.length,.d (.bool s.2)]
theorem Dj{b:Int}{s:Wk}{n:Nd}(h:decide ((s.1.length:Int)=b)=true):iQ b s n=(s.1,true):=if_pos (.inl (bK h))
theorem Dl{b:Int}{s:Wk}{n:Nd}(h:(!(n.mul.all co))=true):iQ b s n=(s.1,true):=if_pos (.inr (by simpa using h))
theorem Dk{b:Int}{s:Wk}{n:Nd}(h:decide ((s.1.length:Int)=b)=false)(h2:(!(n.mul.all co))=false):iQ b s n=(s.1++[n],s.2):=if_neg (by
  rintro(h3|h3)
  · exact cu h h3
  · rw[h3]at h2;cases h2)
theorem Aa{s:Wk}{n:Nd}{x y:D}(hx:VM [] (.d x) (.d (cY n.term.xs)))(hy:VM [] (.d y) (.d (cY n.mul)))(hl:s.1.length≤1000):MQ h1 h2 142 [.c (.pt 0 0 0),.agg [.d (.int .i64 n.kind),.d (.int .i64 n.fact),.d (.int .i64 n.term.c),.d x,.d y]] [(0,ig b s 1),(1,dx s.1)] (bb (.tup []) [(0,ig b (iQ b s n) 2),(2,dx (iQ b s n).1)]):=by
 refine MC.shift 500 Z (jH 34 [500,501] h1 h2 Tryz.func142 Z fun O hF=>?_)
 refine ae (jx Z (aq ?_))
 refine ar (Ent.freeze 3 (e':=[(3,_),(0,_)]) Z (.cons Z (.c (.box (cs:=Nd.cells n) Z (.cons .d (.cons .d (.cons .d (.cons hx (.cons hy .nil))))))) (fe [0] Z)) (.skip (aZ Z (bh Z .nil)))) ?_
 refine aq ?_
 refine jn (af (af ?_))
 cases hb1:decide ((s.1.length:Int)=b)with
 | true=>
  refine zl [_,_,_,_,_,_,_,_,_,_,_,_,_,_,_,_,_] [aF,ag [0],ag [0,1],ag [0,1,2],ag (rg 0 4),pe (rg 0 5) 0,pn [] 0 1,pn [6] 0 1,pn [6,7] 0 1,pn [6,7,8] 0 1,pn (rg 0 10) 1 1,pn (rg 0 11) 1 1,pn (rg 0 12) 0 1,pn (rg 0 13) 0 1,pn (rg 0 14) 0 1,pn (rg 0 15) 0 1,pn (rg 0 16) 1 1] [5] [_,_] (kc Z (kc Z (kc Z (kc Z (ai (vI Z Z) (ai (bv O (B0:=10000) Z Z Z Z (yp (n:=s.1.length) h1 h2) (ac Z) Z Z Z Z Z) (ai (kc Z (V Z)) (ai (kc Z (V Z)) (ai (kc Z (V Z)) (ai (kc Z (V Z)) (kc Z (ai ((V Z).cast (v':=eB true) (congrArg eB hb1)) (ai ⟨Z,Z⟩ (ai ⟨Z,Z⟩ (ai ⟨Z,Z⟩ (ai ⟨Z,Z⟩ (ai (bl O Z Z Z Z Z) trivial))))))))))))))))) ?_
  refine jw [20,3,0] Z (b0 ?_)
  refine ah Z (fun z20=>?_) (fun z20=>?_)
  refine ae (aH Z (jo Z (aq ?_)))
  refine jr ?_
  rw[Dj hb1]
  refine⟨.inl Z,_,((am [500,501] (e':=[]) Z Z trivial Z).trans (aa 501 502 Z Z)),_,Z,Z,Z⟩
  cases z20
 | false=>
  refine zl [_,_,_,_,_,_,_,_,_,_,_,_,_,_,_,_,_] [aF,ag [0],ag [0,1],ag [0,1,2],ag (rg 0 4),pe (rg 0 5) 0,pn [] 0 1,pn [6] 0 1,pn [6,7] 0 1,pn [6,7,8] 0 1,pn (rg 0 10) 1 1,pn (rg 0 11) 1 1,pn (rg 0 12) 1 1,pn (rg 0 13) 1 1,pe (rg 0 14) 1,pn (rg 0 15) 2 2,pn (rg 0 16) 2 2] [5,14] [_,_,_] (kc Z (kc Z (kc Z (kc Z (ai (vI Z Z) (ai (bv O (B0:=10000) Z Z Z Z (yp (n:=s.1.length) h1 h2) (ac Z) Z Z Z Z Z) (ai (kc Z (V Z)) (ai (kc Z (V Z)) (ai (kc Z (V Z)) (ai (kc Z (V Z)) (kc Z (ai ((V Z).cast (v':=eB false) (congrArg eB hb1)) (kc Z (kc Z (ai (bv O (B0:=19000) Z Z Z Z (vM (xs:=Nd.mul n) h1 h2) (ac Z) Z Z Z Z Z) (kc Z (ai (aT O Z Z Z Z Z) trivial))))))))))))))))) ?_
  refine jw [20,3,0] Z (b0 ?_)
  refine ah Z (fun z20=>?_) (fun z20=>?_)
  refine ae (aH Z (jo Z (aq ?_)))
  refine jr ?_
  rw[Dl z20]
  refine⟨.inl Z,_,((am [500,501] (e':=[]) Z Z trivial Z).trans (aa 501 502 Z Z)),_,Z,Z,Z⟩
  refine aj (jw [3,0] Z (kJ [_,_,_,_,_,_,_,_,_,_,_] [pn [] 0 2,pn [] 0 1,pn [1] 0 1,pn [1,2] 0 1,pn [1,2,3] 0 1,aF,pe [5] 0,pe (rg 1 6) 1,pn (rg 0 8) 2 2,pn (rg 0 9) 2 2,pe (rg 0 10) 2] [6,7,10] [_,_,_,_] [[],[501],[]] (ai (ka Z Z (ka Z Z (kw Z Z))) (ai (ka Z Z (kw Z Z)) (ai (ka Z Z (kw Z Z)) (ai (ka Z Z (kw Z Z)) (ai (ka Z Z (kw Z Z)) (ka Z Z (ai (ai (aI (cQ O Z Z Z Z Z Z Z Z Z Z Z Z Z Z)) Z) (ai (ai (cp (own:=false) (xs:=s.1.map Nd.cells) (ys:=[Nd.cells n]) (zs:=(s.1++[n]).map Nd.cells) (n:=(s.1++[n]).length) O Z Z Z Z Z Z Z Z Z Z Z Z Z Z Z Z (.row Z (bQ _).symm) (.whole Z Z (.inr ⟨Z,Z⟩)) (by simp) Z (by simp only[bQ,cG,dL,eH,List.length_nil];omega) (by simp only[bQ,cG,dL,eH,List.length_nil];omega) (by simp) (bQ _) Z) Z) (ka Z Z (ka Z Z (ai (ai (aI (eS Z Z Z)) Z) trivial))))))))))) ?_))
  show _∧_
  rw[Dk hb1 z20]
  refine⟨.inr Z,_,((am [500,31] (e':=[]) Z Z trivial Z).trans (aa 31 502 Z Z)),_,Z,Z,Z⟩
theorem Gl{s:Wk}(hl:s.1.length≤1000):MQ h1 h2 142 [.c (.pt 0 0 0),.agg [.d (.int .i64 1),.d (.int .i64 0),.d (.int .i64 0),.d .nils,.rs 2 0 ms.length]] [(0,ig b s 1),(1,dx s.1),(2,aO ms)] (bb (.tup []) [(0,ig b (iQ b s (dp ms)) 3),(3,dx (iQ b s (dp ms)).1)]):=by
 refine MC.shift 500 Z (jH 34 [500,501,502] h1 h2 Tryz.func142 Z fun O hF=>?_)
 refine ae (jx Z (aq ?_))
 refine ar (Ent.freeze 502 (e':=[(3,_),(0,_)]) Z (fe [3,0] Z) (.cons Z (.box (dw Z (dw Z (dw Z (dw Z (.cons (.row Z (bQ _).symm) .nil)))))) (aZ Z (bh Z (.skip .nil))))) ?_
 refine ar (Ent.freeze 3 (e':=[(3,_),(0,_)]) Z (.cons Z (.c (.box (cs:=Nd.cells (dp ms)) Z (.cons .d (.cons .d (.cons .d (.cons .nils (.cons .d .nil))))))) (fe [0] Z)) (.skip (aZ Z (bh Z .nil)))) ?_
 refine aq ?_
 refine jn (af (af ?_))
 cases hb1:decide ((s.1.length:Int)=b)with
 | true=>
  refine zl [_,_,_,_,_,_,_,_,_,_,_,_,_,_,_,_,_] [aF,ag [0],ag [0,1],ag [0,1,2],ag (rg 0 4),pe (rg 0 5) 0,pn [] 0 1,pn [6] 0 1,pn [6,7] 0 1,pn [6,7,8] 0 1,pn (rg 0 10) 1 1,pn (rg 0 11) 1 1,pn (rg 0 12) 0 1,pn (rg 0 13) 0 1,pn (rg 0 14) 0 1,pn (rg 0 15) 0 1,pn (rg 0 16) 1 1] [5] [_,_] (kc Z (kc Z (kc Z (kc Z (ai (vI Z Z) (ai (bv O (B0:=10000) Z Z Z Z (yp (n:=s.1.length) h1 h2) (ac Z) Z Z Z Z Z) (ai (kc Z (V Z)) (ai (kc Z (V Z)) (ai (kc Z (V Z)) (ai (kc Z (V Z)) (kc Z (ai ((V Z).cast (v':=eB true) (congrArg eB hb1)) (ai ⟨Z,Z⟩ (ai ⟨Z,Z⟩ (ai ⟨Z,Z⟩ (ai ⟨Z,Z⟩ (ai (bl O Z Z Z Z Z) trivial))))))))))))))))) ?_
  refine jw [20,3,0] Z (b0 ?_)
  refine ah Z (fun z20=>?_) (fun z20=>?_)
  refine ae (aH Z (jo Z (aq ?_)))
  refine jr ?_
  rw[Dj hb1]
  refine⟨.inl Z,_,((am [500,501] (e':=[]) Z Z trivial Z).trans (aa 501 503 Z Z)),_,Z,Z,Z⟩
  cases z20
 | false=>
  refine zl [_,_,_,_,_,_,_,_,_,_,_,_,_,_,_,_,_] [aF,ag [0],ag [0,1],ag [0,1,2],ag (rg 0 4),pe (rg 0 5) 0,pn [] 0 1,pn [6] 0 1,pn [6,7] 0 1,pn [6,7,8] 0 1,pn (rg 0 10) 1 1,pn (rg 0 11) 1 1,pn (rg 0 12) 1 1,pn (rg 0 13) 1 1,pe (rg 0 14) 1,pn (rg 0 15) 2 2,pn (rg 0 16) 2 2] [5,14] [_,_,_] (kc Z (kc Z (kc Z (kc Z (ai (vI Z Z) (ai (bv O (B0:=10000) Z Z Z Z (yp (n:=s.1.length) h1 h2) (ac Z) Z Z Z Z Z) (ai (kc Z (V Z)) (ai (kc Z (V Z)) (ai (kc Z (V Z)) (ai (kc Z (V Z)) (kc Z (ai ((V Z).cast (v':=eB false) (congrArg eB hb1)) (kc Z (kc Z (ai (bv O (B0:=19000) Z Z Z Z (vM (xs:=Nd.mul (dp ms)) h1 h2) (ac Z) Z Z Z Z Z) (kc Z (ai (aT O Z Z Z Z Z) trivial))))))))))))))))) ?_
  refine jw [20,3,0] Z (b0 ?_)
  refine ah Z (fun z20=>?_) (fun z20=>?_)
  refine ae (aH Z (jo Z (aq ?_)))
  refine jr ?_
  rw[Dl z20]
  refine⟨.inl Z,_,((am [500,501] (e':=[]) Z Z trivial Z).trans (aa 501 503 Z Z)),_,Z,Z,Z⟩
  refine aj (jw [3,0] Z (kJ [_,_,_,_,_,_,_,_,_,_,_] [pn [] 0 2,pn [] 0 1,pn [1] 0 1,pn [1,2] 0 1,pn [1,2,3] 0 1,aF,pe [5] 0,pe (rg 1 6) 1,pn (rg 0 8) 2 2,pn (rg 0 9) 2 2,pe (rg 0 10) 2] [6,7,10] [_,_,_,_] [[],[501],[]] (ai (ka Z Z (ka Z Z (kw Z Z))) (ai (ka Z Z (kw Z Z)) (ai (ka Z Z (kw Z Z)) (ai (ka Z Z (kw Z Z)) (ai (ka Z Z (kw Z Z)) (ka Z Z (ai (ai (aI (cQ O Z Z Z Z Z Z Z Z Z Z Z Z Z Z)) Z) (ai (ai (cp (own:=false) (xs:=s.1.map Nd.cells) (ys:=[Nd.cells (dp ms)]) (zs:=(s.1++[(dp ms)]).map Nd.cells) (n:=(s.1++[(dp ms)]).length) O Z Z Z Z Z Z Z Z Z Z Z Z Z Z Z Z (.row Z (bQ _).symm) (.whole Z Z (.inr ⟨Z,Z⟩)) (by simp) Z (by simp only[bQ,cG,dL,eH,List.length_nil];omega) (by simp only[bQ,cG,dL,eH,List.length_nil];omega) (by simp) (bQ _) Z) Z) (ka Z Z (ka Z Z (ai (ai (aI (eS Z Z Z)) Z) trivial))))))))))) ?_))
  show _∧_
  rw[Dk hb1 z20]
  refine⟨.inr Z,_,((am [500,31] (e':=[]) Z Z trivial Z).trans (aa 31 503 Z Z)),_,Z,Z,Z⟩
theorem Gu{ts:List Tm}{s:Wk}(h:decide ((ts.length:Int)=14)=true):eU ts s=(s.1,true):=by unfold eU;rw[if_pos (by have:=bK h;omega)]
theorem Gv{ts:List Tm}{s:Wk}(h:decide ((ts.length:Int)=14)=false):eU ts s=s:=by unfold eU;rw[if_neg (by have:=cu h;omega)]
theorem DY{s:Wk}(h0:0<ts.length)(hl:ts.length≤1000):MQ h1 h2 143 [.c (.pt 0 0 0),cb ts,db t] [(0,ig b s 1),(1,dx s.1)] (bb (cb (ts++[t])) [(0,ig b (eU ts s) 1),(1,dx (eU ts s).1)]):=by
 refine MC.shift 500 Z (jH 16 [500,501] h1 h2 Tryz.func143 Z fun O hF=>?_)
 refine ae (jx Z (aq ?_))
 refine ar (Ent.freeze 5 (e':=[(5,_),(0,_),(1,_)]) Z (.cons Z (.c (.box (cs:=Tm.cells t) Z (aE Z))) (fe [0,1] Z)) (.skip (aZ Z (bh Z .nil)))) ?_
 refine aq ?_
 refine js Z (jn (af (ae (js Z (dh Z (js Z (jn (ah Z (fun z9=>?_) (fun z9=>?_)))))))))
 refine ak (aH Z (jo Z (aq ?_)))
 refine ba (ab Z (an O Z Z Z Z (DI (ts:=ts) (t:=t) h1 h2 h0 hl) (ac Z) Z Z Z Z (B0:=16000) Z Z (js Z (jr ?_))))
 rw[Gu z9]
 refine⟨.inl Z,_,b9,_,Z,Z,Z⟩
 refine aj (ae (ab Z (an O Z Z Z Z (DI (ts:=ts) (t:=t) h1 h2 h0 hl) (ac Z) Z Z Z Z (B0:=16000) Z Z (js Z (jr ?_)))))
 rw[Gv z9]
 refine⟨.inl Z,_,b9,_,Z,Z,Z⟩
structure WkI(b:Int)(g:Nat)(ts:List Tm)(s:Wk):Prop where
  f:Fs ts∨s.2=true
  a:15≤g+ts.length
  n0:0<ts.length
  n1:ts.length≤15
  l:(s.1.length:Int)≤b
theorem vj{b:Int}{ts:List Tm}{s:Wk}{n:Nd}(h:(s.1.length:Int)≤b):((eU ts (iQ b s n)).1.length:Int)≤b:=mX (n:=n) h
theorem WkI.add{b:Int}{g:Nat}{ts:List Tm}{s:Wk}{t:Tm}{n:Nd}(h:WkI b (g+1) ts s)(hf:Fs ts)(ht:t.ok=true):WkI b g (ts++[t]) (eU ts (iQ b s n)):=by
 have hl:=hf.len
 have ha:=h.a
 refine⟨?_,by rw[cG,dL];omega,by rw[cG,dL];omega,by rw[cG,dL];omega,vj h.l⟩
 by_cases e:ts.length=14
 exact .inr (by unfold eU;rw[if_pos e])
 exact .inl (hf.snoc ht e)
theorem Co{b:Int}{g:Nat}{T:List Tm}{S:Wk}{i:Nat}(h:S.2=false)(ht:f6 T=some i):jC b (g+1) T S=jC b g (T++[(aM T (T.getD i default)).1]) (eU T (iQ b S (ew i))):=by
 rw[jC,if_neg (by rw[h];decide),ht]
theorem Cq{b:Int}{g:Nat}{T:List Tm}{S:Wk}(h:S.2=false)(ht:f6 T=none)(hr:(dE T).2=true):jC b (g+1) T S=iQ b S (dp (dE T).1):=by
 rw[jC,if_neg (by rw[h];decide),ht];simp only;rw[if_pos hr]
theorem Cr{b:Int}{g:Nat}{T:List Tm}{S:Wk}(h:S.2=false)(ht:f6 T=none)(hr:(dE T).2=false)(hb:((zn T).2.2&&(ep (zn T).1).ok)=false):jC b (g+1) T S=(S.1,true):=by
 rw[jC,if_neg (by rw[h];decide),ht];simp only;rw[if_neg (by rw[hr];decide)]
 cases hc:fm T with
 | none=>rfl
 | some r=>
  rw[nD hc,Bool.true_and]at hb
  simp only;rw[if_neg (by rw[mn,hb];decide)]
theorem Cp{b:Int}{g:Nat}{T:List Tm}{S:Wk}{r:Rw}(h:S.2=false)(ht:f6 T=none)(hr:(dE T).2=false)(hc:fm T=some r)(ho:(aX (aM T r.tm).1).2=true) :
    jC b (g+1) T S=iQ b (jC b g (T++[(aM T r.tm).1]) (eU T (iQ b S (dH (aM T r.tm).1)))) (dp (fj r)):=by
 rw[jC,if_neg (by rw[h];decide),ht];simp only;rw[if_neg (by rw[hr];decide),hc];simp only;rw[if_pos ho]
theorem H2{ts:List Tm}(h:(zn ts).2.2=true): ∃r,fm ts=some r:=by
 cases hc:fm ts with
 | none=>rw[nE hc]at h;cases h
 | some r=>exact⟨r,Z⟩
theorem Gm(hb:1≤b∧b≤60){F:Nat}(ih: ∀g:Nat,g<F→∀(ts:List Tm) (s:Wk),WkI b g ts s→MQ h1 h2 99 [.c (.pt 0 0 0),cb ts] [(0,ig b s 1),(1,dx s.1)] (bb (.tup []) [(0,ig b (jC b g ts s) 2),(2,dx (jC b g ts s).1)])){s:Wk}(hw:WkI b F ts s):MQ h1 h2 99 [.c (.pt 0 0 0),cb ts] [(0,ig b s 1),(1,dx s.1)] (bb (.tup []) [(0,ig b (jC b F ts s) 2),(2,dx (jC b F ts s).1)]):=by
 refine MC.shift 500 Z (jH 93 [500,501] h1 h2 Tryz.func99 Z fun O hF=>?_)
 refine ao (aw (X:=Nat×List Tm×Wk) (fun x=>⟨[(0,.c (.pt 500 0 0)),(1,cb x.2.1)],[(500,ig b x.2.2 902),(902,dx x.2.2.1)]⟩) (fun x=>x.1≤F∧WkI b x.1 x.2.1 x.2.2∧jC b x.1 x.2.1 x.2.2=jC b F ts s) (fun x=>16-x.2.1.length) (F,ts,s) ((aa 501 902 Z Z).trans (Ent.to ⟨Z,Z,ap⟩ Z)) ?_ (fun x hi=>?_))
 exact⟨da _,hw,Z⟩
 refine af (ae (az Z (js Z (jn (ah Z (fun z18=>?_) (fun z18=>?_))))))
 refine aj (ao (ae ?_))
 obtain⟨hx1,hx2,hx3⟩:=hi
 have hS2:x.2.2.2=false:=GL z18
 have hfs:Fs x.2.1:=hx2.f.resolve_right (by rw[hS2];decide)
 have hlen:=hfs.len
 obtain⟨T,eT⟩: ∃T,T=x.2.1:=⟨_,rfl⟩
 obtain⟨S,eS⟩: ∃S,S=x.2.2:=⟨_,rfl⟩
 obtain⟨g,eg⟩: ∃g,x.1=g+1:=⟨x.1-1,by have:=hx2.a;omega⟩
 rw[←eT,←eS,eg]at hx2 hx3
 rw[eg]at hx1
 rw[←eT]at hfs hlen
 rw[←eS]at hS2
 rw[←eT,←eS]
 refine js Z (jn (af (ae (js Z (dh Z (js Z (jn (ao (aw (X:=Nat) (fun i=>⟨[(0,.c (.pt 500 0 0)),(1,cb T),(4,eB false),(19,cb T),(20,eI T.length),(21,eI i)],[(500,ig b S 902),(902,dx S.1)]⟩) (fun i=>i≤T.length∧pW T (T.length-i) i=f6 T) (fun i=>T.length-i) 0 (Ent.to ⟨Z,Z,Z,Z,Z,Z,ap⟩ Z) ?_ (fun i hi=>?_))))))))))
 exact⟨cT _,Z⟩
 refine ae (js Z (jn (af (ah Z (fun z22=>?_) (fun z22=>?_)))))
 refine aj (af (ao (ae ?_)))
 have hil:i<T.length:=by have:=bK z22;omega
 have hti:=hfs.get hil
 refine js Z (jD Z Z (js Z (jl Z (aq ?_))))
 refine js Z (jo Z (aq ?_))
 refine ba (ab Z (an O Z Z Z Z (DZ (ts:=T) (t:=T.getD i default) h1 h2 hti) (ac Z) Z Z Z Z (B0:=30000) Z Z (aH Z (jl Z (aq ?_)))))
 refine jo Z (aq ?_)
 refine js Z (ba (js Z (jn (ah Z (fun z32=>?_) (fun z32=>?_)))))
 refine ae ?_
 have htg:=Ae hil z32
 rw[hi.2]at htg
 have hwe:=Co (b:=b) (g:=g) hS2 htg
 refine aH Z (au O [500,902] (bin:=[ig b S 1,dx S.1]) Z Z Z Z (Aa (b:=b) (s:=S) (n:=ew i) (x:=.nils) (y:=.nils) h1 h2 .nils .nils (by have:=hx2.l;omega)) Z Z Z Z Z Z (B0:=37000) Z Z (aq ?_))
 refine ba (aH Z (au O [500,37002] (bin:=[ig b (iQ b S (ew i)) 1,dx (iQ b S (ew i)).1]) Z Z Z Z (DY (b:=b) (s:=(iQ b S (ew i))) (ts:=T) (t:=(aM T (T.getD i default)).1) h1 h2 hx2.n0 (by omega)) Z Z Z Z Z Z (B0:=41000) Z Z (aq ?_)))
 refine js Z (ba (js Z (jn (bg (af (ae (js Z (jn (ah Z (fun z42=>?_) (fun z42=>?_))))))))))
 refine bg ?_
 refine⟨(g,T++[(aM T (T.getD i default)).1],eU T (iQ b S (ew i))),((am [500,37002] (e':=[(0,_),(1,_)]) Z Z ⟨Z,Z,ap⟩ Z).trans (aa 37002 902 Z Z)),⟨by show g≤F;omega,hx2.add hfs (fv z32),hwe.symm.trans hx3⟩,by show 16-(T++[(aM T (T.getD i default)).1]).length<16-T.length;rw[cG,dL];omega⟩
 cases z42
 refine aj (ak (ji Z (js Z (jn ?_))))
 have hg9:=Af hil z32
 refine⟨i+1,((am [500,902] (e':=[(0,_),(1,_),(4,_),(19,_),(20,_),(21,_)]) Z Z ⟨Z,Z,Z,Z,Z,Z,ap⟩ Z)).trans (Ent.to ⟨Z,Z,Z,Z,Z,Z,ap⟩ Z),⟨by omega,hg9.symm.trans hi.2⟩,by omega⟩
 refine bg (af (ae (js Z (jn (ah Z (fun z42=>?_) (fun z42=>?_))))))
 cases z42
 refine aj (af (ae ?_))
 have hie:i=T.length:=by have:=cu z22;omega
 have h9:=hi.2
 rw[hie,Nat.sub_self]at h9
 have htn:f6 T=none:=h9.symm
 refine js Z (an O Z Z Z Z (IR (ts:=T) h1 h2 hfs) (ac Z) Z Z Z Z (B0:=46000) Z Z (az Z (js Z (ba (js Z (jn (ah Z (fun z48=>?_) (fun z48=>?_))))))))
 refine ae (aH Z (au O [500,902] (bin:=[ig b S 1,dx S.1]) Z Z Z Z (Aa (b:=b) (s:=S) (n:=dp (dE T).1) (x:=.nils) (y:=cY (dE T).1) h1 h2 .nils .d (by have:=hx2.l;omega)) Z Z Z Z Z Z (B0:=53000) Z Z (aq ?_)))
 refine jr ?_
 rw[←hx3,Cq hS2 htn z48]
 refine⟨.inl Z,_,((am [500,53002] (e':=[]) Z Z trivial Z).trans (aa 53002 502 Z Z)),_,Z,Z,Z⟩
 refine aj (ae (js Z (an O Z Z Z Z (IQ (ts:=T) h1 h2 hfs) (ac Z) Z Z Z Z (B0:=56000) Z Z (az Z (jl Z (aq ?_))))))
 refine jl Z (aq ?_)
 refine jo Z (aq ?_)
 refine jo Z (aq ?_)
 refine js Z (jn (af (ae (aH Z (aA 4 Z Z Z (fun hx=>ax hx Z (sN O hx Z Z Z Z (zC (t:=(zn T).1) h1 h2 (ET hfs)) (ac Z) (B0:=64000) Z Z Z Z Z Z Z Z (bA O hx Z Z Z Z (mS (t:=ep (zn T).1) h1 h2) (ac Z) Z Z Z Z Z Z Z (B0:=65000) Z (ax hx Z (AN.nil))))) Z Z (av (aG O Z Z Z Z Z) Z (jn (ah Z (fun z66=>?_) (fun z66=>?_)))))))))
 refine ae (aH Z (jo Z (aq ?_)))
 refine jr ?_
 rw[←hx3,Cr hS2 htn z48 (Jd z66)]
 refine⟨.inl Z,_,((am [500,902] (e':=[]) Z Z trivial Z).trans (aa 902 502 Z Z)),_,Z,Z,Z⟩
 refine aj (ae ?_)
 obtain⟨hf1,hf2⟩:=Je z66
 obtain⟨r,hcr⟩:=H2 hf1
 obtain⟨hro,hsr⟩:=km hfs hcr
 have hTo:=fv hsr
 have hrn:=hro.n
 rw[nD hcr]at hf2 ⊢
 dsimp only
 have hop:(aX (aM T r.tm).1).2=true:=by rw[mn];exact hf2
 have hwc:=Cp (b:=b) (g:=g) hS2 htn z48 hcr hop
 have hl3:((jC b g (T++[(aM T r.tm).1]) (eU T (iQ b S (dH (aM T r.tm).1)))).1.length:Int)≤b:=mY (vj hx2.l)
 refine ab Z (an O Z Z Z Z (Cd (t:=(aM T r.tm).1) h1 h2) (ac Z) Z Z Z Z (B0:=73000) Z Z (js Z (au O [500,902] (bin:=[ig b S 1,dx S.1]) Z Z Z Z (Aa (b:=b) (s:=S) (n:=dH (aM T r.tm).1) (x:=cY (aM T r.tm).1.xs) (y:=.nils) h1 h2 .d .nils (by have:=hx2.l;omega)) Z Z Z Z Z Z (B0:=75000) Z Z (aq ?_))))
 refine ba (az Z (au O [500,75002] (bin:=[ig b (iQ b S (dH (aM T r.tm).1)) 1,dx (iQ b S (dH (aM T r.tm).1)).1]) Z Z Z Z (DY (b:=b) (s:=(iQ b S (dH (aM T r.tm).1))) (ts:=T) (t:=(aM T r.tm).1) h1 h2 hx2.n0 (by omega)) Z Z Z Z Z Z (B0:=80000) Z Z (aq ?_)))
 refine au O [500,75002] (bin:=[ig b (eU T (iQ b S (dH (aM T r.tm).1))) 1,dx (eU T (iQ b S (dH (aM T r.tm).1))).1]) Z Z Z Z (ih g (by omega) (T++[(aM T r.tm).1]) (eU T (iQ b S (dH (aM T r.tm).1))) (hx2.add hfs hTo)) Z Z Z Z Z Z (B0:=81000) Z Z (aq ?_)
 refine jn (af (kJ [_,_,_,_,_,_,_,_,_,_,_,_] [pn [] 0 4,aF,ag [1],pe [1,2] 0,pn [] 0 1,pn [4] 0 1,pn [4,5] 0 1,pe (rg 1 6) 1,pe (rg 1 7) 2,pe (rg 1 8) 3,pn (rg 1 9) 4 4,pe (rg 0 11) 4] [3,7,8,9,11] [_,_,_,_,_,_] [[],[],[],[85000,89],[81002,90]] (ai (ka Z Z (ka Z Z (ka Z Z (ka Z Z (kw Z Z))))) (ka Z Z (ka Z Z (ai (ai (aI (el O (B0:=85000) Z Z Z Z (vL (xs:=r.ms) h1 h2) (ac Z) Z Z Z Z)) Z) (ai (ka Z Z (kw Z Z)) (ai (ka Z Z (kw Z Z)) (ai (ka Z Z (kw Z Z)) (ai (ai (aI (bv O (B0:=89000) Z Z Z Z (B8 (xs:=bM r.xs) h1 h2 (Small.of hro.tm).xs) (ac Z) Z Z Z Z Z)) Z) (ai (ai (aI (jU O Z Z Z Z Z Z Z Z Z Z Z Z Z)) Z) (ai (ai (dJ (zs:=(fj r).map fun n=>[.int .i64 n]) (n:=(fj r).length) O Z Z Z Z Z Z Z Z Z Z Z Z Z Z Z Z (.row Z (bQ _).symm) Z Z (by decide) Z (by simp;omega) (by simp;omega) (List.map_append (f:=fun n=>[D.int .i64 n]) (l₁:=r.ms) (l₂:=[(bB r.tm.xs:Int)])).symm (bQ _) Z) Z) (ka Z Z (ai (ai (cF O [500,81002,90] [81002,90] (bin:=[ig b (jC b g (T++[(aM T r.tm).1]) (eU T (iQ b S (dH (aM T r.tm).1)))) 1,dx (jC b g (T++[(aM T r.tm).1]) (eU T (iQ b S (dH (aM T r.tm).1)))).1,aO (fj r)]) Z Z Z Z (Gl (b:=b) (s:=(jC b g (T++[(aM T r.tm).1]) (eU T (iQ b S (dH (aM T r.tm).1))))) (ms:=fj r) h1 h2 (by omega)) Z Z Z Z Z (B0:=93000) Z Z Z Z Z Z Z) Z) trivial)))))))))))) ?_))
 refine jw [66,12,11,48,10,9,42,22,0,1,4,19,20,21] Z (b0 ?_)
 refine ea ?_
 rw[←hx3,hwc]
 refine⟨.inl Z,_,((am [500,93003] (e':=[]) Z Z trivial Z).trans (aa 93003 502 Z Z)),_,Z,Z,Z⟩
 refine bg ?_
 show _∧_
 obtain⟨hx1,hx2,hx3⟩:=hi
 rw[←hx3,iG (GA z18)]
 refine⟨.inr Z,_,((am [500,902] (e':=[]) Z Z trivial Z).trans (aa 902 502 Z Z)),_,Z,Z,Z⟩
theorem D1{L:Nat}(h1:4096≤L)(h2:L≤1073741824){b:Int}(hb:1≤b∧b≤60): ∀(F:Nat) (ts:List Tm) (s:Wk),WkI b F ts s→MC Tryz.prog L 99 [.c (.pt 0 0 0),cb ts] [(0,ig b s 1),(1,dx s.1)] (bb (.tup []) [(0,ig b (jC b F ts s) 2),(2,dx (jC b F ts s).1)]):=by
 intro F
 induction F using Nat.strongRecOn with
 | _ F ih=>intro ts s hw;exact Gm h1 h2 hb ih hw
theorem uC{s:Sq}{b:Int}(h:((gJ s).2&&kN b)=false):jG s b=([],false):=by
 unfold jG
 split
 rename_i h1
 rw[bS]at h1
 rw[h1.2,Bool.and_true,lQ h1.1,wi]at h
 exact uD h
 rfl
theorem DE{s:Sq}(hok:(aX s.goal).2=true):(mz s).1=s.facts++[(aX s.goal).1]:=by unfold mz;rw[if_pos hok]
theorem uk{s:Sq}{b:Int}(hs:dW s=true)(hok:(aX s.goal).2=true)(hb:0≤b) :
    ((jC b (15-(s.facts++[(aX s.goal).1]).length) (s.facts++[(aX s.goal).1]) ([],false)).2=true→cN s b=([],false))∧
    ((jC b (15-(s.facts++[(aX s.goal).1]).length) (s.facts++[(aX s.goal).1]) ([],false)).2=false→cN s b=((jC b (15-(s.facts++[(aX s.goal).1]).length) (s.facts++[(aX s.goal).1]) ([],false)).1,true)):=by
 have hf:=pE hs hok
 have hlen:=hf.len
 obtain⟨q1,q2⟩:=vP (b:=b) (f:=15-(s.facts++[(aX s.goal).1]).length) (N:=[]) hf (by omega) (by simpa using hb)
 cases hz:f3 (s.facts++[(aX s.goal).1])with
 | none=>
  have h2:=q2 fun z h=>by rw[show j9 _ _=none from hz]at h;cases h
  exact⟨fun _=>l5 hok hz,fun h=>by rw[h2]at h;cases h⟩
 | some z=>
  have hpv:=sa (b:=b) hok hz
  by_cases hl:((z.1++z.2).length:Int)≤b
  have h1:=q1 z hz (by simp only[List.length_nil];omega)
  rw[if_pos hl]at hpv
  rw[h1]
  exact⟨fun h=>(by cases h),fun _=>hpv⟩
  rw[if_neg hl]at hpv
  have h2:=q2 fun y hy=>by
   rw[show j9 _ _=some z from hz]at hy
   simp only[ef]at hy;subst hy
   simp only[List.length_nil];omega
  exact⟨fun _=>hpv,fun h=>by rw[h2]at h;cases h⟩
theorem xt:MQ h1 h2 63 [eI b] [] (Plain (eB (kN b))):=by
 refine aL ?_ Z
 refine jB 5 h1 h2 Tryz.func63 Z fun O hF=>?_
 refine ae (js Z (ba (js Z (bP Z (p9 h1 h2) 5000 Z (js Z (jr ?_))))))
 refine aJ Z ?_
 rfl
theorem IY:MQ h1 h2 64 [BS s,eI b] [] (Plain (rM (jG s b))):=by
 refine MC.data (jB 36 h1 h2 Tryz.func64 Z fun O hF=>?_)
 refine ae (jx Z (aq ?_))
 refine ar (Ent.freeze 2 (e':=[(2,_),(1,_)]) Z (.cons Z (.c (.box (cs:=Sq.cells s) Z (aE Z))) (fe [1] Z)) (.skip .nil)) ?_
 refine aq ?_
 refine ab Z (ba (js Z (jf [10,5,4,1] Z (an O Z Z Z Z (Cg (s:=s) h1 h2) (ac Z) Z Z Z Z (B0:=12000) Z Z (az Z (js Z (jf [7,6,5,4,1] Z (jn (af (ae (aH Z (jf [16,6,5,4,1] Z (aA 3 Z Z Z (fun hx=>ax hx Z (bA O hx Z Z Z Z (xt h1 h2) (ac Z) Z Z Z Z Z Z Z (B0:=19000) Z (ax hx Z (AN.nil)))) Z Z (av (aG O Z Z Z Z Z) Z (jf [20,6,5,4,1] Z (jn (ah Z (fun z20=>?_) (fun z20=>?_))))))))))))))))))
 refine ae (ab Z (jr ?_))
 refine aJ Z ?_
 rw[uC (Jd z20)]
 exact iA
 refine aj (ae ?_)
 obtain⟨hq1,hq2⟩:=Je z20
 obtain⟨hq3,hq4⟩:=qi hq1
 have hok:(aX s.goal).2=true:=by rw[mn];exact hq4
 have hfc:=pE hq3 hok
 have hlen:=hfc.len
 have hbb:=m8 hq2
 obtain⟨hw1,hw2⟩:=uk (b:=b) hq3 hok (by omega)
 have hpe:=qe (b:=b) hq3 hq2
 have hwl:((jC b (15-(s.facts++[(aX s.goal).1]).length) (s.facts++[(aX s.goal).1]) ([],false)).1.length:Int)≤b:=mY (by show(0:Int)≤b;omega)
 rw[lQ hq3,DE hok]
 refine ab Z (jf [22,6,5,4,1] Z (jx Z (aq ?_)))
 refine js Z (jf [8,6,5,4,1] Z (ba (ab Z (jf [25,24,8,5,4,1] Z (ar (cz 23 901 5 false 1 Z Z Z) (au O [23,901] (bin:=[ig b ([],false) 1,dx []]) Z Z Z Z (D1 (b:=b) h1 h2 hbb (15-(s.facts++[(aX s.goal).1]).length) (s.facts++[(aX s.goal).1]) ([],false) ⟨.inl hfc,by omega,by simp,by omega,by show(0:Int)≤b;omega⟩) Z Z Z Z Z Z (B0:=27000) Z Z (aq ?_)))))))
 refine jf [8,5,4,1] Z (jn (af (ae (az Z (jf [30,8,5,4,1] Z (jn (ah Z (fun z30=>?_) (fun z30=>?_))))))))
 refine ae (ab Z (jr ?_))
 refine aJ Z ?_
 rw[hpe,hw1 z30]
 exact iA
 refine aj (ae (az Z (jf [34,8,5,4,1] Z (ci O (B0:=36000) Z Z Z Z (D0 (ts:=(jC b (15-(s.facts++[(aX s.goal).1]).length) (s.facts++[(aX s.goal).1]) ([],false)).1) h1 h2) (.cons (.c (.whole Z (bQ _).symm)) .nil) Z Z Z Z Z Z (aq ?_)))))
 refine ab Z (jf [5,4,8,1] Z (jr ?_))
 refine aJ Z ?_
 rw[hpe,hw2 z30]
 exact .tup (.cons (.c (.whole Z (bQ _).symm)) (.cons (.c .d) .nil))
def sP:List Sq→Nat→Int
  | [],_=> -1
  | u::us,i=>if dW u=true then sP us (i+1)else(i:Int)
theorem yr{ss:List Sq}{i:Nat}(h:i<ss.length):sP (ss.drop i) i=if dW (ss.getD i default)=true then sP (ss.drop (i+1)) (i+1)else(i:Int):=by
 rw[List.drop_eq_getElem_cons h,aD h];rfl
theorem AO{ss:List Sq}{i:Nat}(h:ss.length≤i):sP (ss.drop i) i= -1:=by rw[List.drop_of_length_le h];rfl
theorem uo: ∀{us:List Sq} {i:Nat},decide (sP us i≥0)= !us.all dW
 | [],_=>rfl
 | u::us,i=>by
  rw[sP,List.all_cons]
  by_cases h:dW u=true
  rw[if_pos h,h,Bool.true_and];exact uo
  rw[if_neg h]
  have h':dW u=false:=by simpa using h
  rw[h',Bool.false_and];exact decide_eq_true (by omega)
theorem IV:MQ h1 h2 97 [BS s] [] (Plain (eB (!dW s))):=by
 refine aL ?_ Z
 refine jB 6 h1 h2 Tryz.func97 Z fun O hF=>?_
 refine ae (jx Z (js Z (ba (js Z (bP Z (Cb (s:=s) h1 h2) 5000 Z (ab Z (jr ?_)))))))
 refine aJ Z ?_
 rfl
theorem IP:MQ h1 h2 137 [mT ss,.c (.fn 97 [])] [] (Plain (eI (sP ss 0))):=by
 refine aL ?_ Z
 refine jB 19 h1 h2 Tryz.func137 Z fun O hF=>?_
 have hl:ss.length≤L:=by simpa[As.fact,A.fact,M.fact,D.fact,Ds.fact]using hF.1.1
 refine ae (js Z (jn (af (ae (js Z (dh Z (js Z (jn (ao (aw (X:=Nat) (fun i=>⟨[(0,mT ss),(1,.c (.fn 97 [])),(7,eI ss.length),(8,eI i)],[]⟩) (fun i=>i≤ss.length∧sP (ss.drop i) i=sP ss 0) (fun i=>ss.length-i) 0 (Ent.env ⟨Z,Z,Z,Z,ap⟩) ?_ (fun i hi=>?_)))))))))))
 exact⟨cT _,Z⟩
 refine ae (js Z (jn (af (ah Z (fun z9=>?_) (fun z9=>?_)))))
 refine aj (af (ao (ae ?_)))
 have hil:i<ss.length:=by have:=bK z9;omega
 have hkc:=yr hil
 refine ab Z (ba (aH Z (jD Z Z (js Z (bP Z (IV (s:=ss.getD i default) h1 h2) 17000 Z (jn (ah Z (fun z16=>?_) (fun z16=>?_))))))))
 refine ae (ab Z (jr ?_))
 refine aJ Z ?_
 rw[if_neg (by rw[GL z16];decide),hi.2]at hkc
 rw[hkc]
 refine aj (ak (ji Z (js Z (jn ?_))))
 rw[if_pos (GA z16)]at hkc
 exact⟨i+1,Ent.env ⟨Z,Z,Z,Z,ap⟩,⟨by omega,hkc.symm.trans hi.2⟩,by omega⟩
 refine bg (ae (js Z (jr ?_)))
 refine aJ Z ?_
 have h9:=hi.2
 rw[AO (by have:=cu z9;omega)]at h9
 rw[←h9]
theorem IW:MQ h1 h2 96 [mT ss,.c (.fn 97 [])] [] (Plain (eB (!ss.all dW))):=by
 refine aL ?_ Z
 refine jB 9 h1 h2 Tryz.func96 Z fun O hF=>?_
 refine ae (js Z (ba (ab Z (du O Z Z Z Z (IP (ss:=ss) h1 h2) (.cons (.c .d) (.cons (.c (.fn .nil)) .nil)) Z Z Z Z Z (B0:=8000) Z (ab Z (jr ?_))))))
 refine aJ Z ?_
 exact congrArg eB uo
theorem D2:MQ h1 h2 62 [mT ss] [] (Plain (eB (zo ss))):=by
 refine aL ?_ Z
 refine jB 11 h1 h2 Tryz.func62 Z fun O hF=>?_
 refine ae (js Z (ba (js Z (dh Z (ab Z (aA 3 Z Z Z (fun hx=>ax hx Z (bA O hx Z Z Z Z (IW (ss:=ss) h1 h2) (.cons (.c .d) (.cons (.c (.fn .nil)) .nil)) Z Z Z Z Z Z Z (B0:=9000) Z (ax hx Z (AN.nil)))) Z Z (av (ay O Z Z Z Z Z) Z (js Z (jr ?_)))))))))
 refine aJ Z ?_
 rw[Bool.cond_false_right,Bool.not_not,Bool.and_comm];rfl
theorem yD{s:Sq}{b:Int}(hv:(jG s b).2=true)(h:((gJ s).2&&kN b)=false):False:=by rw[uC h]at hv;cases hv
theorem A7{s:Sq}{b:Int}(h1:(gJ s).2=true)(h2:kN b=true):((jC b (15-(s.facts++[(aX s.goal).1]).length) (s.facts++[(aX s.goal).1]) ([],false)).2=true→jG s b=([],false))∧
    ((jC b (15-(s.facts++[(aX s.goal).1]).length) (s.facts++[(aX s.goal).1]) ([],false)).2=false→jG s b=((jC b (15-(s.facts++[(aX s.goal).1]).length) (s.facts++[(aX s.goal).1]) ([],false)).1,true)):=by
 obtain⟨h3,h4⟩:=qi h1
 rw[qe h3 h2]
 exact uk h3 (by rw[mn];exact h4) (by have:=m8 h2;omega)
theorem Gr(hv:(jG s b).2=true):MQ h1 h2 64 [BS s,eI b] [] (Rows (.tup [.c (.rs 0 0 (jG s b).1.length),eB true]) [zQ (jG s b).1]):=by
 refine cH (jB 36 h1 h2 Tryz.func64 Z fun O hF=>?_)
 refine ae (jx Z (aq ?_))
 refine ar (Ent.freeze 2 (e':=[(2,_),(1,_)]) Z (.cons Z (.c (.box (cs:=Sq.cells s) Z (aE Z))) (fe [1] Z)) (.skip .nil)) ?_
 refine aq ?_
 refine ab Z (ba (js Z (jf [10,5,4,1] Z (an O Z Z Z Z (Cg (s:=s) h1 h2) (ac Z) Z Z Z Z (B0:=12000) Z Z (az Z (js Z (jf [7,6,5,4,1] Z (jn (af (ae (aH Z (jf [16,6,5,4,1] Z (aA 3 Z Z Z (fun hx=>ax hx Z (bA O hx Z Z Z Z (xt h1 h2) (ac Z) Z Z Z Z Z Z Z (B0:=19000) Z (ax hx Z (AN.nil)))) Z Z (av (aG O Z Z Z Z Z) Z (jf [20,6,5,4,1] Z (jn (ah Z (fun z20=>?_) (fun z20=>?_))))))))))))))))))
 exact(yD hv (Jd z20)).elim
 refine aj (ae ?_)
 obtain⟨hq1,hq2⟩:=Je z20
 obtain⟨hq3,hq4⟩:=qi hq1
 have hok:(aX s.goal).2=true:=by rw[mn];exact hq4
 have hfc:=pE hq3 hok
 have hlen:=hfc.len
 have hbb:=m8 hq2
 obtain⟨hw1,hw2⟩:=A7 hq1 hq2
 have hwl:((jC b (15-(s.facts++[(aX s.goal).1]).length) (s.facts++[(aX s.goal).1]) ([],false)).1.length:Int)≤b:=mY (by show(0:Int)≤b;omega)
 rw[lQ hq3,DE hok]
 refine ab Z (jf [22,6,5,4,1] Z (jx Z (aq ?_)))
 refine js Z (jf [8,6,5,4,1] Z (ba (ab Z (jf [25,24,8,5,4,1] Z (ar (cz 23 901 5 false 1 Z Z Z) (au O [23,901] (bin:=[ig b ([],false) 1,dx []]) Z Z Z Z (D1 (b:=b) h1 h2 hbb (15-(s.facts++[(aX s.goal).1]).length) (s.facts++[(aX s.goal).1]) ([],false) ⟨.inl hfc,by omega,by simp,by omega,by show(0:Int)≤b;omega⟩) Z Z Z Z Z Z (B0:=27000) Z Z (aq ?_)))))))
 refine jf [8,5,4,1] Z (jn (af (ae (az Z (jf [30,8,5,4,1] Z (jn (ah Z (fun z30=>?_) (fun z30=>?_))))))))
 rw[hw1 z30]at hv;cases hv
 refine aj (ae (az Z (jf [34,8,5,4,1] Z (ci O (B0:=36000) Z Z Z Z (D0 (ts:=(jC b (15-(s.facts++[(aX s.goal).1]).length) (s.facts++[(aX s.goal).1]) ([],false)).1) h1 h2) (.cons (.c (.whole Z (bQ _).symm)) .nil) Z Z Z Z Z Z (aq ?_)))))
 refine ab Z (jf [5,4,8,1] Z (jr ?_))
 rw[hw2 z30]
 refine⟨.inl Z,_,b9,_,Z,[36000],by decide,Z,Z,Z⟩
theorem CE{ss:List Sq}{b:Int}{i:Nat}(hi:i<ss.length)(h: ∀s∈ss,(jG s b).2=true):(jG (ss.getD i default) b).2=true:=by rw[aD hi];exact h _ (List.getElem_mem hi)
theorem Gg(hq:zo ss=true)(hb:kN b=true)(ha: ∀s∈ss,(jG s b).2=true):MQ h1 h2 34 [mT ss,eI b] [] (Rows (.tup [.c (.rs 0 0 ss.length),eB true]) [qg (ss.map (fun s=>(jG s b).1))]):=by
 refine cH (jB 39 h1 h2 Tryz.func34 Z fun O hF=>?_)
 have hl:ss.length≤L:=by simpa[As.fact,A.fact,M.fact,D.fact,Ds.fact]using hF.1.1
 refine ae (ab Z (jn (af (ae (js Z (bP Z ((D2 (ss:=ss) h1 h2).plain (u:=eB true) (congrArg eB hq)) 13000 Z (ab Z (aA 3 Z Z Z (fun hx=>ax hx Z (bA O hx Z Z Z Z ((xt (b:=b) h1 h2).plain (u:=eB true) (congrArg eB hb)) (ac Z) Z Z Z Z Z Z Z (B0:=17000) Z (ax hx Z (AN.nil)))) Z Z (av (aG O Z Z Z Z Z) Z (jn (ah Z (fun z18=>?_) (fun z18=>?_))))))))))))
 exact absurd z18 (by decide)
 refine aj (ae (js Z (jn (af (ae (js Z (dh Z (js Z (jn (ao (aw (X:=Nat) (fun i=>⟨[(1,eI b),(6,.c (.rs 900 0 i)),(19,mT ss),(20,eI ss.length),(21,eI i)],[(900,qg ((ss.take i).map (fun s=>(jG s b).1)))]⟩) (fun i=>i≤ss.length) (fun i=>ss.length-i) 0 ((cL 6 900 1 true Z Z).trans (Ent.to ⟨Z,Z,Z,Z,Z,ap⟩ Z)) ?_ (fun i hi=>?_))))))))))))
 exact cT _
 refine ae (js Z (jn (af (ah Z (fun z22=>?_) (fun z22=>?_)))))
 refine aj (af (ao (ae ?_)))
 have hil:i<ss.length:=by have:=bK z22;omega
 refine av (bf O Z Z Z Z Z Z Z Z (dO hil)) Z (js Z (jl Z (aq ?_)))
 refine jo Z (aq ?_)
 refine ba (ab Z (ci O (B0:=29000) Z Z Z Z (Gr (s:=(ss.getD i default)) (b:=b) h1 h2 (CE hil ha)) (ac Z) Z Z Z Z Z Z (aq ?_)))
 refine az Z (js Z (jn (af (ae (ab Z (jn (ah Z (fun z32=>?_) (fun z32=>?_))))))))
 exact absurd z32 (by decide)
 refine aj (ak (ab Z (ar (am [900,29000] (e':=[(34,_),(1,_),(19,_),(20,_),(21,_),(33,_)]) Z Z ⟨Z,Z,Z,Z,Z,Z,ap⟩ Z) (aU (md (ds:=Df (jG (ss.getD i default) b).1) O Z Z Z Z Z Z Z Z Z Z (.rs Z (bQ _).symm .nil) Z Z Z) Z (aq ?_)))))
 refine aq ?_
 refine aU (cJ (zs:=((ss.take (i+1)).map (fun s=>(jG s b).1)).map Df) (n:=i+1) O Z Z Z Z Z Z Z Z Z Z Z Z Z Z Z Z (.row Z (by simp;omega)) Z Z (by decide) Z (by simp;omega) (by simp;omega) (by rw[List.take_succ_eq_append_getElem hil,List.map_append,List.map_append,aD hil];rfl) (by simp;omega)) Z (aq ?_)
 refine aq ?_
 refine js Z (jn (ak (ji Z (js Z (jn ?_)))))
 refine⟨i+1,((am [36] (e':=[(1,_),(6,_),(19,_),(20,_),(21,_)]) Z Z ⟨Z,Z,Z,Z,Z,ap⟩ Z).trans (aa 36 900 Z Z)),by omega,by omega⟩
 refine bg (ae (aH Z (jr ?_)))
 obtain rfl:i=ss.length:=by have:=cu z22;omega
 rw[List.take_length]
 refine⟨.inl Z,_,b9,_,Z,[900],by decide,Z,Z,Z⟩
theorem C4(hq:zo ss=true)(hb:kN b=true)(hn:(jq b ss).length<ss.length):MQ h1 h2 34 [mT ss,eI b] [] (Rows (.tup [.c (.d .nils),eB false]) []):=by
 refine cH (jB 39 h1 h2 Tryz.func34 Z fun O hF=>?_)
 have hl:ss.length≤L:=by simpa[As.fact,A.fact,M.fact,D.fact,Ds.fact]using hF.1.1
 obtain⟨hq3,hq4⟩:=lI hq
 refine ae (ab Z (jn (af (ae (js Z (bP Z ((D2 (ss:=ss) h1 h2).plain (u:=eB true) (congrArg eB hq)) 13000 Z (ab Z (aA 3 Z Z Z (fun hx=>ax hx Z (bA O hx Z Z Z Z ((xt (b:=b) h1 h2).plain (u:=eB true) (congrArg eB hb)) (ac Z) Z Z Z Z Z Z Z (B0:=17000) Z (ax hx Z (AN.nil)))) Z Z (av (aG O Z Z Z Z Z) Z (jn (ah Z (fun z18=>?_) (fun z18=>?_))))))))))))
 exact absurd z18 (by decide)
 refine aj (ae (js Z (jn (af (ae (js Z (dh Z (js Z (jn (ao (aw (X:=Nat) (fun i=>⟨[(1,eI b),(6,.c (.rs 900 0 i)),(19,mT ss),(20,eI ss.length),(21,eI i)],[(900,Dx (ss.take i) b)]⟩) (fun i=>i≤ss.length∧∀j (h:j<ss.length),j<i→(cN ss[j] b).2=true) (fun i=>ss.length-i) 0 ((cL 6 900 1 false Z Z).trans (Ent.to ⟨Z,Z,Z,Z,Z,ap⟩ Z)) ?_ (fun i hi=>?_))))))))))))
 exact⟨cT _,fun j h hj=>absurd hj (Nat.not_lt_zero j)⟩
 refine ae (js Z (jn (af (ah Z (fun z22=>?_) (fun z22=>?_)))))
 refine aj (af (ao (ae ?_)))
 have hil:i<ss.length:=by have:=bK z22;omega
 refine av (bf O Z Z Z Z Z Z Z Z (dO hil)) Z (js Z (jl Z (aq ?_)))
 refine jo Z (aq ?_)
 refine ba (ab Z (an O Z Z Z Z ((IY (s:=(ss.getD i default)) (b:=b) h1 h2).plain (u:=rM (cN (ss.getD i default) b)) (by rw[qe (ya hq3 hil) hb])) (ac Z) Z Z Z Z (B0:=29000) Z Z (az Z (js Z (jn (af (ae (ab Z (jn (ah Z (fun z32=>?_) (fun z32=>?_)))))))))))
 refine ae (ab Z (jr ?_))
 refine⟨.inl Z,_,b9,_,Z,[],by decide,Z,Z,Z⟩
 refine aj (ak (ab Z (aU (bp O Z Z Z Z Z Z Z Z Z Z Z) Z (aq ?_))))
 refine aU (cU (own:=false) (xs:=(ss.take i).map fun s=>De s b) (ys:=[De (ss.getD i default) b]) (zs:=(ss.take (i+1)).map fun s=>De s b) (n:=i+1) O Z (.row Z (by simp;omega)) (.whole Z Z (.inr ⟨Z,Z⟩)) (by simp) Z (by simp;omega) (by simp;omega) (by rw[List.take_succ_eq_append_getElem hil,List.map_append,aD hil];rfl) (by simp;omega)) Z (aq ?_)
 refine aq ?_
 refine js Z (jn (ak (ji Z (js Z (jn ?_)))))
 refine⟨i+1,((am [36] (e':=[(1,_),(6,_),(19,_),(20,_),(21,_)]) Z Z ⟨Z,Z,Z,Z,Z,ap⟩ Z).trans (aa 36 900 Z Z)),⟨by omega,fun j h hj=>?_⟩,by omega⟩
 by_cases e:j=i
 subst e;rw[aD h]at z32;exact GA z32
 exact hi.2 j h (by omega)
 exact absurd hn (by rw[sI (fun j hj=>hi.2 j hj (by have:=cu z22;omega)),bQ];omega)
variable{p:Pm}{ps:List Pth}{cs:List Sq}
theorem Fq(hp:ii p=true)(hb:kN b=true)(hA:MQ h1 h2 28 [ptr p.data] [] (Plain (.tup [.c (.d (zt ps)),.c (.d (vH cs)),eB false]))):MQ h1 h2 17 [kK p,eI b] [] (Plain (.tup [qd ([]:List (List Nd)),eB false])):=by
 refine MC.data (jB 38 h1 h2 Tryz.func17 Z fun O hF=>?_)
 refine ae (jx Z (aq ?_))
 refine ar (Ent.freeze 2 (e':=[(2,_),(0,_),(1,_)]) Z (.cons Z (.c (.box (cs:=Pm.data p) Z (aE Z))) (fe [0,1] Z)) (.skip .nil)) ?_
 refine aq ?_
 refine ab Z (jn (af (ae (bP Z ((I6 (p:=p) h1 h2).plain (u:=eB true) (by rw[hp])) 11000 Z (ab Z (bq Z (js Z (bq Z (bP Z ((xu (b:=b) h1 h2).plain (u:=eB true) (by rw[hb])) 15000 Z (bq Z (js Z (av (aG O Z Z Z Z Z) Z (jn (ah Z (fun z16=>?_) (fun z16=>?_)))))))))))))))
 exact absurd z16 (by decide)
 refine aj (ae (an O Z Z Z Z (hA) (ac Z) Z Z Z Z (B0:=19000) Z Z (az Z (aH Z (jn (af (ae (aH Z (bF Z (bF Z (bF Z (av (bl O Z Z Z Z Z) Z (jn (ah Z (fun z28=>?_) (fun z28=>?_)))))))))))))))
 refine ae (ab Z (jr ?_))
 refine aJ Z ?_
 exact .tup (.cons (.c .nils) (.cons (.c .d) .nil))
 exact absurd z28 (by decide)
theorem Fp(hp:ii p=true)(hb:kN b=true)(hA:MQ h1 h2 28 [ptr p.data] [] (Plain (.tup [.c (.d (zt ps)),.c (.d (vH cs)),eB true])))(hc:im cs=false):MQ h1 h2 17 [kK p,eI b] [] (Plain (.tup [qd ([]:List (List Nd)),eB false])):=by
 refine MC.data (jB 38 h1 h2 Tryz.func17 Z fun O hF=>?_)
 refine ae (jx Z (aq ?_))
 refine ar (Ent.freeze 2 (e':=[(2,_),(0,_),(1,_)]) Z (.cons Z (.c (.box (cs:=Pm.data p) Z (aE Z))) (fe [0,1] Z)) (.skip .nil)) ?_
 refine aq ?_
 refine ab Z (jn (af (ae (bP Z ((I6 (p:=p) h1 h2).plain (u:=eB true) (by rw[hp])) 11000 Z (ab Z (bq Z (js Z (bq Z (bP Z ((xu (b:=b) h1 h2).plain (u:=eB true) (by rw[hb])) 15000 Z (bq Z (js Z (av (aG O Z Z Z Z Z) Z (jn (ah Z (fun z16=>?_) (fun z16=>?_)))))))))))))))
 exact absurd z16 (by decide)
 refine aj (ae (an O Z Z Z Z (hA) (ac Z) Z Z Z Z (B0:=19000) Z Z (az Z (aH Z (jn (af (ae (aH Z (bq Z (js Z (bq Z (bP Z ((z5 (ss:=cs) h1 h2).plain (u:=eB false) (by rw[hc])) 27000 Z (bq Z (js Z (av (aG O Z Z Z Z Z) Z (jn (ah Z (fun z28=>?_) (fun z28=>?_))))))))))))))))))
 refine ae (ab Z (jr ?_))
 refine aJ Z ?_
 exact .tup (.cons (.c .nils) (.cons (.c .d) .nil))
 exact absurd z28 (by decide)
theorem Fn(hp:ii p=true)(hb:kN b=true)(hA:MQ h1 h2 28 [ptr p.data] [] (Plain (.tup [.c (.d (zt ps)),.c (.d (vH cs)),eB true])))(hc:im cs=true)(hn:(jq b cs).length<cs.length):MQ h1 h2 17 [kK p,eI b] [] (Plain (.tup [qd ([]:List (List Nd)),eB false])):=by
 refine MC.data (jB 38 h1 h2 Tryz.func17 Z fun O hF=>?_)
 obtain⟨hq3,hq4⟩:=lI hc
 refine ae (jx Z (aq ?_))
 refine ar (Ent.freeze 2 (e':=[(2,_),(0,_),(1,_)]) Z (.cons Z (.c (.box (cs:=Pm.data p) Z (aE Z))) (fe [0,1] Z)) (.skip .nil)) ?_
 refine aq ?_
 refine ab Z (jn (af (ae (bP Z ((I6 (p:=p) h1 h2).plain (u:=eB true) (by rw[hp])) 11000 Z (ab Z (bq Z (js Z (bq Z (bP Z ((xu (b:=b) h1 h2).plain (u:=eB true) (by rw[hb])) 15000 Z (bq Z (js Z (av (aG O Z Z Z Z Z) Z (jn (ah Z (fun z16=>?_) (fun z16=>?_)))))))))))))))
 exact absurd z16 (by decide)
 refine aj (ae (an O Z Z Z Z (hA) (ac Z) Z Z Z Z (B0:=19000) Z Z (az Z (aH Z (jn (af (ae (aH Z (bq Z (js Z (bq Z (bP Z ((z5 (ss:=cs) h1 h2).plain (u:=eB true) (by rw[hc])) 27000 Z (bq Z (js Z (av (aG O Z Z Z Z Z) Z (jn (ah Z (fun z28=>?_) (fun z28=>?_))))))))))))))))))
 exact absurd z28 (by decide)
 refine aj (ae (ab Z (an O Z Z Z Z (D3 (ss:=cs) (b:=b) h1 h2 hq3 (m8 hb)) (ac Z) Z Z Z Z (B0:=32000) Z Z (js Z (jn (af (ae (js Z (dh Z (js Z (dh Z (js Z (jn (ah Z (fun z36=>?_) (fun z36=>?_)))))))))))))))
 refine ae (ab Z (jr ?_))
 refine aJ Z ?_
 exact .tup (.cons (.c .nils) (.cons (.c .d) .nil))
 exact absurd (cu z36) (by omega)
theorem Fm(hp:ii p=true)(hb:kN b=true)(hA:MQ h1 h2 28 [ptr p.data] [] (Plain (.tup [.c (.d (zt ps)),.c (.d (vH cs)),eB true])))(hc:im cs=true)(hn: ¬(jq b cs).length<cs.length):MQ h1 h2 17 [kK p,eI b] [] (Plain (.tup [qd (jq b cs),eB true])):=by
 refine MC.data (jB 38 h1 h2 Tryz.func17 Z fun O hF=>?_)
 obtain⟨hq3,hq4⟩:=lI hc
 refine ae (jx Z (aq ?_))
 refine ar (Ent.freeze 2 (e':=[(2,_),(0,_),(1,_)]) Z (.cons Z (.c (.box (cs:=Pm.data p) Z (aE Z))) (fe [0,1] Z)) (.skip .nil)) ?_
 refine aq ?_
 refine ab Z (jn (af (ae (bP Z ((I6 (p:=p) h1 h2).plain (u:=eB true) (by rw[hp])) 11000 Z (ab Z (bq Z (js Z (bq Z (bP Z ((xu (b:=b) h1 h2).plain (u:=eB true) (by rw[hb])) 15000 Z (bq Z (js Z (av (aG O Z Z Z Z Z) Z (jn (ah Z (fun z16=>?_) (fun z16=>?_)))))))))))))))
 exact absurd z16 (by decide)
 refine aj (ae (an O Z Z Z Z (hA) (ac Z) Z Z Z Z (B0:=19000) Z Z (az Z (aH Z (jn (af (ae (aH Z (bq Z (js Z (bq Z (bP Z ((z5 (ss:=cs) h1 h2).plain (u:=eB true) (by rw[hc])) 27000 Z (bq Z (js Z (av (aG O Z Z Z Z Z) Z (jn (ah Z (fun z28=>?_) (fun z28=>?_))))))))))))))))))
 exact absurd z28 (by decide)
 refine aj (ae (ab Z (an O Z Z Z Z (D3 (ss:=cs) (b:=b) h1 h2 hq3 (m8 hb)) (ac Z) Z Z Z Z (B0:=32000) Z Z (js Z (jn (af (ae (js Z (dh Z (js Z (dh Z (js Z (jn (ah Z (fun z36=>?_) (fun z36=>?_)))))))))))))))
 exact absurd (bK z36) (by omega)
 refine aj (ae (aH Z (jr ?_)))
 refine aJ Z ?_
 exact .tup (.cons (.c .d) (.cons (.c .d) .nil))
theorem AF(hC:MQ h1 h2 15 [kK p] [] (Rows (.tup [.c (.d .nils),eB false]) [])):MQ h1 h2 16 [kK p,eI b] [] (Rows (.tup [.c (.d .nils),eB false]) []):=by
 refine cH (jB 20 h1 h2 Tryz.func16 Z fun O hF=>?_)
 refine ae (jx Z (aq ?_))
 refine ar (Ent.freeze 2 (e':=[(2,_),(0,_),(1,_)]) Z (.cons Z (.c (.box (cs:=Pm.data p) Z (aE Z))) (fe [0,1] Z)) (.skip .nil)) ?_
 refine aq ?_
 refine ab Z (ba (js Z (ci O (B0:=11000) Z Z Z Z (hC) (ac Z) Z Z Z Z Z Z (aq ?_))))
 refine az Z (js Z (jn (af (ae (ab Z (jn (ah Z (fun z14=>?_) (fun z14=>?_))))))))
 refine ae (ab Z (jr ?_))
 refine⟨.inl Z,_,b9,_,Z,[],by decide,Z,Z,Z⟩
 exact absurd z14 (by decide)
theorem Fk(hC:MQ h1 h2 15 [kK p] [] (Rows (.tup [.c (.rs 0 0 cs.length),eB true]) [aW cs]))(hQ:MQ h1 h2 34 [mT cs,eI b] [] (Rows (.tup [.c (.d .nils),eB false]) [])):MQ h1 h2 16 [kK p,eI b] [] (Rows (.tup [.c (.d .nils),eB false]) []):=by
 refine cH (jB 20 h1 h2 Tryz.func16 Z fun O hF=>?_)
 refine ae (jx Z (aq ?_))
 refine ar (Ent.freeze 2 (e':=[(2,_),(0,_),(1,_)]) Z (.cons Z (.c (.box (cs:=Pm.data p) Z (aE Z))) (fe [0,1] Z)) (.skip .nil)) ?_
 refine aq ?_
 refine ab Z (ba (js Z (ci O (B0:=11000) Z Z Z Z (hC) (ac Z) Z Z Z Z Z Z (aq ?_))))
 refine az Z (js Z (jn (af (ae (ab Z (jn (ah Z (fun z14=>?_) (fun z14=>?_))))))))
 exact absurd z14 (by decide)
 refine aj (ae (ab Z (ci O (B0:=18000) Z Z Z Z (hQ) (.cons (.c (.whole Z (bQ _).symm)) (.cons (.c .d) .nil)) Z Z Z Z Z Z (aq ?_))))
 refine az Z (jr ?_)
 refine⟨.inl Z,_,b9,_,Z,[],by decide,Z,Z,Z⟩
theorem Fj(hC:MQ h1 h2 15 [kK p] [] (Rows (.tup [.c (.rs 0 0 cs.length),eB true]) [aW cs])){m:Nat}{qs:List (List Nd)}(hQ:MQ h1 h2 34 [mT cs,eI b] [] (Rows (.tup [.c (.rs 0 0 m),eB true]) [qg qs])):MQ h1 h2 16 [kK p,eI b] [] (Rows (.tup [.c (.rs 0 0 m),eB true]) [qg qs]):=by
 refine cH (jB 20 h1 h2 Tryz.func16 Z fun O hF=>?_)
 refine ae (jx Z (aq ?_))
 refine ar (Ent.freeze 2 (e':=[(2,_),(0,_),(1,_)]) Z (.cons Z (.c (.box (cs:=Pm.data p) Z (aE Z))) (fe [0,1] Z)) (.skip .nil)) ?_
 refine aq ?_
 refine ab Z (ba (js Z (ci O (B0:=11000) Z Z Z Z (hC) (ac Z) Z Z Z Z Z Z (aq ?_))))
 refine az Z (js Z (jn (af (ae (ab Z (jn (ah Z (fun z14=>?_) (fun z14=>?_))))))))
 exact absurd z14 (by decide)
 refine aj (ae (ab Z (ci O (B0:=18000) Z Z Z Z (hQ) (.cons (.c (.whole Z (bQ _).symm)) (.cons (.c .d) .nil)) Z Z Z Z Z Z (aq ?_))))
 refine az Z (jr ?_)
 refine⟨.inl Z,_,b9,_,Z,[18000],by decide,Z,Z,Z⟩
theorem sH{b:Int}: ∀{ss:List Sq},¬(jq b ss).length<ss.length→∀s∈ss,(cN s b).2=true
 | [],_,s,hs=>by cases hs
 | x::ss,h,s,hs=>by
  unfold jq at h
  split at h
  rename_i h1
  rcases List.mem_cons.1 hs with rfl|hs
  exact h1
  exact sH (ss:=ss) (by simpa using h) s hs
  exact absurd (by simp) h
def Pf.flat:Pf→List Nd
  | .close n=>[n]
  | .tight n a=>n::a.flat
  | .split n a b=>n::(a.flat++b.flat)
theorem eQ: ∀{t:Pf},t.flat.length=t.size
 | .close _=>rfl
 | .tight n a=>by simp only[Pf.flat,Pf.size,eH,eQ (t:=a)];omega
 | .split n a b=>by simp only[Pf.flat,Pf.size,eH,cG,eQ (t:=a),eQ (t:=b)];omega
def Pf.fine:Pf→Prop
  | .close n=>ic n=true∧n.kind=1
  | .tight n a=>ic n=true∧n.kind=3∧a.fine
  | .split n a b=>ic n=true∧n.kind=2∧a.fine∧b.fine
theorem kx: ∀{t:Pf},t.fine→∀n∈t.flat,ic n=true
 | .close n,h,x,hx=>by
  simp only[Pf.flat,List.mem_singleton]at hx;subst hx;exact h.1
 | .tight n a,h,x,hx=>by
  rcases List.mem_cons.1 hx with rfl|hx
  exact h.1
  exact kx h.2.2 x hx
 | .split n a b,h,x,hx=>by
  rcases List.mem_cons.1 hx with rfl|hx
  exact h.1
  rcases List.mem_append.1 hx with hx|hx
  exact kx h.2.2.1 x hx
  exact kx h.2.2.2 x hx
theorem ky{p:List Nd}: ∀{t:Pf} {k:Nat},t.fine→(∀j,j<t.size→p[k+j]? = t.flat[j]?)→t.At p k
 | .close n,k,h,hp=>⟨by have:=hp 0 (by simp[Pf.size]);simpa[Pf.flat]using this,h.1,h.2⟩
 | .tight n a,k,h,hp=>⟨by have:=hp 0 (by simp only[Pf.size];omega);simpa[Pf.flat]using this,h.1,h.2.1,ky h.2.2 fun j hj=>by
  have:=hp (1+j) (by simp only[Pf.size];omega)
  rw[←Nat.add_assoc]at this
  rw[this,Nat.add_comm 1 j];rfl⟩
 | .split n a b,k,h,hp=>⟨by have:=hp 0 (by simp only[Pf.size];omega);simpa[Pf.flat]using this,h.1,h.2.1,ky h.2.2.1 fun j hj=>by
  have:=hp (1+j) (by simp only[Pf.size];omega)
  rw[←Nat.add_assoc]at this
  rw[this,Nat.add_comm 1 j]
  show(a.flat++b.flat)[j]? = _
  rw[List.getElem?_append_left (by rw[eQ];exact hj)],ky h.2.2.2 fun j hj=>by
  have:=hp (1+a.size+j) (by simp only[Pf.size];omega)
  rw[show k+1+a.size+j=k+(1+a.size+j) by omega,this,show 1+a.size+j=a.size+j+1 by omega]
  show(a.flat++b.flat)[a.size+j]? = _
  rw[List.getElem?_append_right (by rw[eQ];omega),eQ,Nat.add_sub_cancel_left]⟩
def Pf.okay:Pf→List Tm→Prop
  | .close n,c=>dY c n.mul=true
  | .tight n a,c=>(ik n c&&(pm n c).2)=true∧a.okay (c++[(pm n c).1])
  | .split n a b,c=>gM n c=true∧a.okay (c++[n.term])∧b.okay (c++[ep n.term])
theorem gX: ∀{t:Pf} {k:Nat} {c:List Tm} {e:Ex},t.okay c→(j6 t k c e).flaw=e.flaw
 | .close n,k,c,e,h=>by rw[j6,if_pos (show dY c n.mul=true from h)];rfl
 | .tight n a,k,c,e,h=>by rw[j6,if_pos h.1,gX h.2];rfl
 | .split n a b,k,c,e,h=>by rw[j6,if_pos h.1,gX h.2.2,gX h.2.1];rfl
theorem va{f:Tm→Int}{ts:List Tm}:bD f ts []=0:=by cases ts<;>rfl
theorem rh{f:Tm→Int}: ∀{ts:List Tm} {n:Nat},bD f ts (List.replicate n 0)=0
 | [],n=>by cases n<;>rfl
 | t::ts,0=>rfl
 | t::ts,n+1=>by rw[List.replicate_succ,bD,rh,Int.zero_mul];rfl
theorem oz{f:Tm→Int}: ∀{ts:List Tm} {i:Nat},i<ts.length→bD f ts (jJ ts.length i)=f (ts.getD i default)
 | t::ts,0,_=>by
  show bD f (t::ts) ((List.replicate (ts.length+1) (0:Int)).set 0 1)=_
  rw[List.replicate_succ,List.set_cons_zero,bD,rh];simp
 | t::ts,i+1,h=>by
  show bD f (t::ts) ((List.replicate (ts.length+1) (0:Int)).set (i+1) 1)=_
  rw[List.replicate_succ,List.set_cons_succ,bD,Int.zero_mul,Int.zero_add]
  exact oz (f:=f) (ts:=ts) (by simpa using h)
theorem uM{n m x y:Int}{xs ys:List Int}{l:Nat}:iR n m (x::xs) (y::ys) (l+1)=(n*x+m*y)::iR n m xs ys l:=by
 unfold iR
 rw[List.range_succ_eq_map,List.map_cons,List.map_map];rfl
theorem qK{f:Tm→Int}{n m:Int}: ∀{ts:List Tm} {xs ys:List Int},xs.length=ys.length→bD f ts (iR n m xs ys xs.length)=n*bD f ts xs+m*bD f ts ys
 | ts,[],[],_=>by
  rw[show iR n m [] [] ([]:List Int).length=[]from Z,va];simp
 | [],x::xs,y::ys,h=>by
  rw[eH,uM];simp[bD]
 | t::ts,x::xs,y::ys,h=>by
  rw[eH,uM,bD,bD,bD,qK (by simpa using h),Int.add_mul,Int.mul_add,Int.mul_add,Int.mul_assoc,Int.mul_assoc]
  omega
 | ts,[],y::ys,h=>by simp at h
 | ts,x::xs,[],h=>by simp at h
theorem li{g:Nat}{x:Int}(h:g ∣ x.natAbs):(g:Int)*x.tdiv g=x:=Int.mul_tdiv_cancel' (Int.ofNat_dvd_left.2 h)
theorem qL{f:Tm→Int}{g:Nat}: ∀{ts:List Tm} {ms:List Int},(∀x∈ms,g ∣ x.natAbs)→(g:Int)*bD f ts (ms.map fun x=>x.tdiv g)=bD f ts ms
 | ts,[],_=>by rw[List.map_nil,va,Int.mul_zero]
 | [],x::xs,_=>by rw[List.map_cons];simp[bD]
 | t::ts,x::xs,h=>by
  rw[List.map_cons,bD,bD,Int.mul_add,qL fun y hy=>h y (by simp[hy]),←Int.mul_assoc,li (h x (by simp))]
theorem xz{g:Nat}{d e:Int}(hg:0<g)(h:(g:Int)*e=d):d.tdiv g=e:=by
 subst h;exact Int.mul_tdiv_cancel_left _ (by omega)
structure RIn(ts:List Tm)(r:Rw):Prop where
  ok:ROk ts.length r
  c:r.c=bD Tm.c ts r.ms
  xs: ∀k,k<10→r.xs.getD k default=bD (kb k) ts r.ms
abbrev Di(k:Nat)(r:Rw):Prop:= ∀j,j<k→r.xs.getD j default=0
theorem yF{xs:List Int}{k n:Nat}(h:k<n):(kE xs n).getD k default=xs.getD k 0:=by simp[kE,h]
theorem xL{n m:Int}{xs ys:List Int}{k l:Nat}(h:k<l):(iR n m xs ys l).getD k default=n*xs.getD k default+m*ys.getD k default:=by simp[iR,h]
theorem CD{ts:List Tm}(h:Fs ts){i:Nat}(hi:i<ts.length):RIn ts (sS ts i):=
  ⟨xF h hi,(oz (f:=Tm.c) hi).symm,fun k hk=>by rw[oz hi];exact yF hk⟩
theorem mI{xs:List Int}{g k:Nat}:(xs.map fun x=>x.tdiv g).getD k default=(xs.getD k default).tdiv g:=by
 rw[List.getD_eq_getElem?_getD,List.getD_eq_getElem?_getD,List.getElem?_map]
 cases xs[k]? with
 | none=>exact(Int.zero_tdiv _).symm
 | some x=>rfl
theorem EK{ts:List Tm}{p q:Rw}{k:Nat}(hp:RIn ts p)(hq:RIn ts q)(h1:0<p.xs.getD k default)(h2:q.xs.getD k default<0)(h:w9 (eR p q k)=true):RIn ts (eR p q k):=by
 have hg:=(pM hp.ok hq.ok h1 h2).1
 have hd:=uU (r:=my p q k)
 have hl:p.ms.length=q.ms.length:=hp.ok.n.trans hq.ok.n.symm
 refine⟨s6 hp.ok hq.ok h1 h2 h,?_,fun j hj=>?_⟩
 refine xz hg ?_
 show _*bD Tm.c ts ((my p q k).ms.map _)=_
 rw[qL hd.2.2]
 show bD Tm.c ts (iR _ _ p.ms q.ms p.ms.length)=nQ p q k*p.c+nR p q k*q.c
 rw[qK hl,hp.c,hq.c]
 show((my p q k).xs.map _).getD j default=_
 rw[mI]
 refine xz hg ?_
 show _*bD (kb j) ts ((my p q k).ms.map _)=_
 rw[qL hd.2.2]
 show bD (kb j) ts (iR _ _ p.ms q.ms p.ms.length)=(iR (nQ p q k) (nR p q k) p.xs q.xs p.xs.length).getD j default
 rw[qK hl,xL (by rw[hp.ok.l];exact hj),hp.xs j hj,hq.xs j hj]
theorem CN{ts:List Tm}{p q:Rw}{k:Nat}(hp:RIn ts p)(hq:RIn ts q)(h1:0<p.xs.getD k default)(h2:q.xs.getD k default<0)(zp:Di k p)(zq:Di k q):Di (k+1) (eR p q k):=fun j hj=>by
 have h10:p.xs.length=10:=hp.ok.l
 show((my p q k).xs.map _).getD j default=_
 rw[mI]
 have e:(iR (nQ p q k) (nR p q k) p.xs q.xs p.xs.length).getD j default=0:=by
  by_cases hl:j<p.xs.length
  rw[xL hl]
  by_cases e:j=k
  subst e
  have d1:(gI p q j:Int)*(p.xs.getD j default).tdiv (gI p q j)=p.xs.getD j default:=li (Nat.gcd_dvd_left _ _)
  have d2:(gI p q j:Int)*(-(q.xs.getD j default)).tdiv (gI p q j)= -(q.xs.getD j default):=li (by rw[Int.natAbs_neg];exact Nat.gcd_dvd_right _ _)
  show(-(q.xs.getD j default)).tdiv (gI p q j)*p.xs.getD j default+(p.xs.getD j default).tdiv (gI p q j)*q.xs.getD j default=0
  generalize (p.xs.getD j default).tdiv (gI p q j)=a at d1 ⊢
  generalize (-(q.xs.getD j default)).tdiv (gI p q j)=b at d2 ⊢
  rw[show q.xs.getD j default= -((gI p q j:Int)*b) by omega,←d1,Int.mul_neg,Int.mul_left_comm b,Int.mul_left_comm a,Int.mul_comm a b]
  omega
  rw[zp j (by omega),zq j (by omega)];simp
  rw[List.getD_eq_getElem?_getD,List.getElem?_eq_none (by rw[bV];omega)];rfl
 show((iR (nQ p q k) (nR p q k) p.xs q.xs p.xs.length).getD j default).tdiv _=0
 rw[e,Int.zero_tdiv]
theorem tE{P Q:Rw→Prop}{p:Rw}{k b:Nat}(hm: ∀q,P q→0<p.xs.getD k default→q.xs.getD k default<0→w9 (eR p q k)=true→Q (eR p q k)) :
    ∀{qs new y:List Rw},(∀r∈qs,P r)→(∀r∈new,Q r)→t4 p k b qs new=some y→∀r∈y,Q r
 | [],new,y,_,hn,h=>by
  simp only[t4,ef]at h;subst h;exact hn
 | q::qs,new,y,hq,hn,h=>by
  have hqs: ∀r∈qs,P r:=fun r hr=>hq r (by simp[hr])
  unfold t4 at h
  split at h
  exact tE hm hqs hn h
  rename_i h0
  split at h
  rename_i h3
  refine tE hm hqs (fun r hr=>?_) h
  rcases List.mem_append.1 hr with hr|hr
  exact hn r hr
  simp only[List.mem_singleton]at hr;subst hr
  exact hm q (hq q (by simp)) (by omega) (by omega) h3.1
  cases h
theorem xR{P Q:Rw→Prop}{k b:Nat}{rs:List Rw}(hr: ∀r∈rs,P r)(hm: ∀p q,P p→P q→0<p.xs.getD k default→q.xs.getD k default<0→w9 (eR p q k)=true→Q (eR p q k)) :
    ∀{ps new y:List Rw},(∀r∈ps,P r)→(∀r∈new,Q r)→sO k b rs ps new=some y→∀r∈y,Q r
 | [],new,y,_,hn,h=>by
  simp only[sO,ef]at h;subst h;exact hn
 | p::ps,new,y,hq,hn,h=>by
  unfold sO at h
  split at h
  cases h
  rename_i z hz
  exact xR hr hm (fun r h=>hq r (by simp[h])) (tE (hm p · (hq p (by simp))) hr hn hz) h
theorem so{ts:List Tm}: ∀{f k:Nat} {rs news a b:List Rw},(∀r∈rs,RIn ts r∧Di k r)→(∀r∈news,RIn ts r)→il f k rs news=some (a,b)→(∀r∈a,RIn ts r∧Di (k+f) r)∧∀r∈b,RIn ts r
 | 0,k,rs,news,a,b,h1,h3,h=>by
  simp only[il,ef,Prod.mk.injEq]at h
  obtain⟨rfl,rfl⟩:=h
  exact⟨h1,h3⟩
 | f + 1,k,rs,news,a,b,h1,h3,h=>by
  cases hs:fG k rs with
  | none=>rw[kv hs]at h;cases h
  | some new=>
   rw[ku hs]at h
   have hn:=xR (P:=fun r=>RIn ts r∧Di k r) (Q:=fun r=>RIn ts r∧Di (k+1) r) h1 (fun p q hp hq g1 g2 g3=>⟨EK hp.1 hq.1 g1 g2 g3,CN hp.1 hq.1 g1 g2 hp.2 hq.2⟩) h1 (by simp) hs
   have := so (k:=k+1) (fun r hr=>by
    rcases List.mem_append.1 hr with hr|hr
    · obtain⟨g1,g2⟩:=List.mem_filter.1 hr
      have g3:=bK g2
      refine⟨(h1 r g1).1,fun j hj=>?_⟩
      by_cases e:j=k
      · subst e;exact g3
      · exact(h1 r g1).2 j (by omega)
    · exact hn r hr) (fun r hr=>by
    rcases List.mem_append.1 hr with hr|hr
    · exact h3 r hr
    · exact(hn r hr).1) h
   rwa[show k+1+f=k+(f+1) by omega]at this
theorem uX{ts:List Tm}(h:Fs ts){a b:List Rw}(he:dF ts=some (a,b)):(∀r∈a,RIn ts r∧Di 10 r)∧∀r∈b,RIn ts r:=by
 have:=so (ts:=ts) (k:=0) (fun r hr=>by
  obtain⟨i,hi,rfl⟩:=List.mem_map.1 hr
  exact⟨CD h (List.mem_range.1 hi),fun j hj=>absurd hj (Nat.not_lt_zero j)⟩) (by simp) he
 simpa using this
theorem sj: ∀{rs:List Rw} {r:Rw},ij rs=some r→r.c<0
 | x::rs,r,h=>by
  unfold ij at h
  split at h
  rename_i h1;simp only[ef]at h;subst h;exact h1
  exact sj h
theorem sF{ctx:List Tm}{ms:List Int}(hl:ms.length=ctx.length)(hx: ∀k,k<10→bD (kb k) ctx ms=0)(hc:bD Tm.c ctx ms<0):dY ctx ms=true:=by
 rw[sG,pT,decide_eq_true hl.symm,decide_eq_true hc,Bool.true_and,Bool.and_true,List.all_eq_true]
 intro x hx'
 obtain⟨k,hk,rfl⟩:=List.mem_map.1 hx'
 exact decide_eq_true (hx k (List.mem_range.1 hk))
theorem wv{ts:List Tm}(h:Fs ts)(h2:(dE ts).2=true):dY ts (dE ts).1=true:=by
 unfold dE at h2 ⊢
 split at h2
 cases h2
 rename_i z hz
 split at h2
 cases h2
 rename_i r hr
 obtain⟨g1,g2⟩:=(uX h (a:=z.1) (b:=z.2) hz).1 r (ou hr)
 exact sF g1.ok.n (fun k hk=>(g1.xs k hk).symm.trans (g2 k hk)) (by rw[←g1.c];exact sj hr)
theorem oA{f:Tm→Int}{u:Tm}{m:Int}: ∀{ts:List Tm} {ms:List Int},ms.length=ts.length→bD f (ts++[u]) (ms++[m])=bD f ts ms+m*f u
 | [],[],_=>by simp[bD]
 | t::ts,x::xs,h=>by
  rw[List.cons_append,List.cons_append,bD,bD,oA (by simpa using h)];omega
 | [],x::xs,h=>by simp at h
 | t::ts,[],h=>by simp at h
theorem CG{x:Tm}{k:Nat}(hk:k<10):kb k (ep x)= -(kb k x):=by
 show(bM (bU [x] [-1])).getD k 0=_
 rw[e7]
 unfold bU
 have:((List.range 10).map fun k=>bD (kb k) [x] [-1]).getD k 0=bD (kb k) [x] [-1]:=by simp[hk]
 rw[this]
 show -1*kb k x+0=_
 omega
theorem CU{xs:List Int}{k:Nat}:bB xs ∣ (xs.getD k default).natAbs:=by
 by_cases h:k<xs.length
 rw[aD h];exact iC (List.getElem_mem h)
 rw[List.getD_eq_getElem?_getD,List.getElem?_eq_none (by omega)];exact Nat.dvd_zero _
theorem Aw{c:Int}{g:Nat}(hg:0<g):c+g*(-(t5 c g)-1)<0:=by
 have h1:(g:Int)*c.tdiv g+c.tmod g=c:=Int.mul_tdiv_add_tmod c g
 have h2:c.tmod g<g:=Int.tmod_lt_of_pos c (by omega)
 unfold t5
 split
 rw[Int.neg_sub,show(1:Int)-c.tdiv g-1= -(c.tdiv g) by omega,Int.mul_neg];omega
 rw[Int.mul_sub,Int.mul_neg,Int.mul_one];omega
theorem wL{ts:List Tm}(h:Fs ts){r:Rw}(hr:fm ts=some r):dY (ts++[ep (aM ts r.tm).1]) (fj r)=true:=by
 obtain⟨hro,hsr⟩:=km h hr
 have hin:RIn ts r:=by
  unfold fm at hr
  split at hr
  cases hr
  rename_i z hz
  exact(uX h (a:=z.1) (b:=z.2) hz).2 r (j1 hr).1
 have e:(aM ts r.tm).1=Kl r.tm∧2≤bB r.tm.xs:=by
  unfold aM at hsr ⊢
  split at hsr
  cases hsr
  rename_i h0
  rw[if_neg h0,←gt hro.tm,f8,if_neg (fun h9=>h0 (.inl h9))]
  exact⟨Z,Nat.le_of_not_lt fun h9=>h0 (.inl h9)⟩
 rw[e.1]
 have hg:0<bB r.tm.xs:=by omega
 have hl:r.ms.length=ts.length:=hro.n
 refine sF (by simp[hl]) (fun k hk=>?_) ?_
 rw[oA hl,CG hk,←hin.xs k hk]
 show _+_* -((List.map (fun x=>Int.tdiv x (bB r.tm.xs)) (bM r.xs)).getD k default)=0
 rw[mI,Int.mul_neg,li (CU (xs:=r.tm.xs))]
 have:=e7 r.xs k
 show r.xs.getD k default+ -((bM r.xs).getD k 0)=0
 rw[this]
 show r.xs.getD k default+ -(r.xs.getD k default)=0
 omega
 rw[oA hl,←hin.c]
 show r.c+(bB r.tm.xs:Int)*(-1*t5 r.tm.c (bB r.tm.xs)+0-1)<0
 rw[show(-1*t5 r.tm.c (bB r.tm.xs)+0-1:Int)= -(t5 r.c (bB r.tm.xs))-1 by show -1*t5 r.c (bB r.tm.xs)+0-1=_;omega]
 exact Aw hg
theorem l4: ∀{f:Nat} {ts:List Tm} {z:List Nd×List Nd},Fs ts→j9 f ts=some z→∃t:Pf,t.flat=z.1++z.2∧t.fine∧t.okay ts
 | 0,ts,z,_,h=>by cases h
 | f + 1,ts,z,hF,h=>by
  have h14:=hF.len
  rw[j9]at h
  cases ht:f6 ts with
  | some i=>
   rw[ht]at h
   simp only at h
   obtain⟨_,hi,hs⟩:=lY ht
   have hx:=fv hs
   split at h
   cases h
   rename_i hl
   obtain⟨y,hy,rfl⟩:=Option.map_eq_some_iff.1 h
   obtain⟨t,h1,h2,h3⟩:=l4 (hF.snoc hx hl) hy
   have e:pm (ew i) ts=(cq (ts.getD i default)):=by
    unfold pm
    rw[Int.toNat_natCast,gt (hF.get (by omega))]
   have e2:(cq (ts.getD i default)).2=true∧(aM ts (ts.getD i default)).1=(cq (ts.getD i default)).1:=by
    unfold aM at hs ⊢
    split at hs
    cases hs
    rename_i h0
    simp only[bS]at hs
    rw[if_neg h0];exact⟨hs.1,rfl⟩
   refine⟨.tight (ew i) t,by simp[Pf.flat,h1],⟨?_,Z,h2⟩,?_,?_⟩
   simp[ic,ft,Tm.zero];omega
   rw[e,e2.1,Bool.and_true]
   simp[ik,ft];omega
   rw[e,←e2.2];exact h3
  | none=>
   rw[ht]at h
   simp only at h
   split at h
   rename_i hr
   simp only[ef]at h;subst h
   obtain⟨g1,g2⟩:=tu hF hr
   refine⟨.close (dp (dE ts).1),Z,⟨?_,Z⟩,wv hF hr⟩
   unfold ic
   rw[if_pos Z]
   simp[Tm.zero,yl,g1];omega
   cases hc:fm ts with
   | none=>rw[hc]at h;cases h
   | some r=>
    rw[hc]at h
    simp only at h
    obtain⟨hro,hsr⟩:=km hF hc
    have hx:=fv hsr
    split at h
    cases h
    rename_i hl
    split at h
    rename_i ho
    obtain⟨y,hy,rfl⟩:=Option.map_eq_some_iff.1 h
    obtain⟨t,h1,h2,h3⟩:=l4 (hF.snoc hx hl) hy
    have hm:=AD hro
    have hml:(fj r).length=ts.length+1:=by simp[hro.n]
    refine⟨.split (dH (aM ts r.tm).1) t (.close (dp (fj r))),by simp[Pf.flat,h1],⟨?_,Z,h2,?_,Z⟩,?_,h3,wL hF hc⟩
    simp[ic,hx]
    unfold ic
    rw[if_pos Z,yl]
    show(decide ((0:Int)=0)&&Tm.zero ⟨0,[]⟩&&((fj r).all co&&decide (((fj r).length:Int)≤20)))=true
    rw[hm,hml,decide_eq_true (show((ts.length+1:Nat):Int)≤20 by omega)];rfl
    rw[gM,←mn,ho,Bool.and_true]
    exact decide_eq_true (by omega)
    cases h
theorem Bb{s:Sq}{b:Int}(hs:dW s=true)(hb:b≤60)(h:(cN s b).2=true):pZ s (cN s b).1=true∧((cN s b).1.length:Int)≤b:=by
 obtain⟨g1,g2,g3⟩:=fJ hs
 unfold cN at h ⊢
 split at h
 rename_i ho
 rw[if_pos ho]
 split at h
 cases h
 rename_i z hz
 split at h
 rename_i hl
 have hF:Fs (s.facts++[(aX s.goal).1]):=⟨fun u hu=>by
  rcases List.mem_append.1 hu with hu|hu
  · exact g1 u hu
  · simp only[List.mem_singleton]at hu;subst hu;exact lM ho,by simp;omega⟩
 obtain⟨t,h1,h2,h3⟩:=l4 hF hz
 have ho2:(ep s.goal).ok=true:=by rw[←mn];exact ho
 have hc:gJ s=(s.facts++[ep s.goal],true):=by unfold gJ;rw[hs,ho2];rfl
 have hat:t.At (z.1++z.2) 0:=ky h2 fun j _=>by rw[Nat.zero_add,h1]
 have hsz:t.size=(z.1++z.2).length:=by rw[←h1,eQ]
 have hpos:=dq (t:=t)
 have hI:vC (z.1++z.2)=true:=by
  rw[vZ]
  unfold t3
  rw[decide_eq_true (show(1:Int)≤(z.1++z.2).length by omega),decide_eq_true (show((z.1++z.2).length:Int)≤60 by omega),←h1,List.all_eq_true.2 (kx h2),h1,hat.endP,decide_eq_true (by omega)];rfl
 rw[if_pos hl]
 refine⟨?_,hl⟩
 rw[←DF (by rw[hc]) hI hat hsz]
 refine decide_eq_true ?_
 show(j6 t 0 (gJ s).1 ⟨[],-1⟩).flaw<0
 rw[hc,gX (by rw[←zN ho2];exact h3)]
 decide
 cases h
 cases h
end Go.Al
