/- Proofs of lists of sequents; the prover, in plain Lean. The reference proves. The program proves. Both prove the conditions of a program; what is found is accepted. -/
import Derived.Test.YtgaahipcjhjlbaaGreatH
import Derived.Test.YtgaahipcjhjlbaaGreatC
import Derived.Test.YtgaahipcjhjlbaaGreatM
set_option linter.unusedVariables false
set_option linter.unusedSimpArgs false
set_option maxRecDepth 10000
set_option maxHeartbeats 4000000
open Go.Proofs
namespace Go.Al
variable{L:Nat}(h1:4096≤L)(h2:L≤1073741824)
abbrev pX(ps:List (List Nd)):B:=.row true 1 (ps.map C7)
structure NdAt(n:Nat)(x:Nd):Prop where
  close:x.kind=1→n+1≤x.mul.length∧x.mul.length≤20
  fact:x.kind=3→0≤x.fact∧x.fact≤19
  kind:x.kind=1∨x.kind=2∨x.kind=3
structure MvOk(IX to:Int→Int)(x:Nd):Prop where
  kind:x.kind=1∨x.kind=2∨x.kind=3
  fact:x.kind=3→0≤x.fact∧x.fact≤19
  len:x.kind=1→x.mul.length≤20
  cntb:x.kind=1→0≤IX x.mul.length∧IX x.mul.length≤1000
  rng:x.kind=1→∀i:Nat,i<x.mul.length→to i<IX x.mul.length
abbrev dc(p:List Nd):B:=.row false 5 (p.map Nd.cells)
theorem DS{ts:List Nd}:MQ h1 h2 100 [nN ts] [] (Rows (.c (.rs 0 0 ts.length)) [zF ts]):=by
 refine cq (jB 26 h1 h2 Tryz.func100 Z fun O hF=>?_)
 have hl:ts.length≤L:=by simpa[As.fact,A.fact,M.fact,D.fact,Ds.fact]using hF.1.1
 refine ac (js Z (aN (js Z (jn (ae (ac (js Z (cW Z (js Z (jn (ak (ap (X:=Nat) (fun i=>⟨[(3,.c (.rs 900 0 i)),(6,nN ts),(7,eI ts.length),(8,eI i)],[(900,zF (ts.take i))]⟩) (fun i=>i≤ts.length) (fun i=>ts.length-i) 0 ((cx 3 900 5 true Z Z).trans (Ent.to ⟨Z,Z,Z,Z,tv⟩ Z)) ?_ (fun i hi=>?_)))))))))))))
 exact cG _
 refine ac (js Z (jn (ae (zc Z (fun z9=>?_) (fun z9=>?_)))))
 try simp only[bo]at z9
 refine af (ae (ak (ac (jh Z Z (js Z (jl Z (am ?_)))))))
 refine jo Z (am ?_)
 refine jn (ae (fJ [_,_,_,_,_,_,_,_,_,_] [p0,pz [0],pe [0,1] 0,pn [] 0 1,pn [3] 0 1,pe (rg 0 5) 1,pn (rg 0 5) 1 2,pe (rg 0 7) 2,pn (rg 0 8) 3 3,pe (rg 0 9) 3] [2,5,7,9] [_,_,_,_,_] (kc Z (kc Z (ai (dg O (B0:=15000) Z Z Z Z (rD (t:=(ts.getD i default).term) h1 h2) (ab Z) Z Z Z Z Z) (ai (kc Z (V Z)) (ai (kc Z (V Z)) (ai (dg O (B0:=18000) Z Z Z Z (vz (xs:=(ts.getD i default).mul) h1 h2) (ab Z) Z Z Z Z Z) (ai (kc Z (V Z)) (ai (eS Z Z Z) (kc Z (ai (eS Z Z Z) trivial)))))))))) ?_))
 refine jw [5,11,9,3,6,7,8] Z (bJ ?_)
 refine ag (jb Z (an (ah [900,15000,18000] (e':=[(21,_),(20,_),(6,_),(7,_),(8,_)]) Z Z ⟨Z,Z,Z,Z,Z,tv⟩ Z) (hp (lV (ds:=Nd.cells (ts.getD i default)) O Z Z Z Z Z Z Z Z Z Z (.d Z (.d Z (.d Z (.rs Z (bA _).symm (.rs Z (bA _).symm .nil))))) Z Z Z) Z (am ?_))))
 refine am ?_
 refine hp (cu (zs:=(ts.take (i+1)).map Nd.cells) (n:=i+1) O Z Z Z Z Z Z Z Z Z Z Z Z Z Z Z Z (.row Z (by simp;omega)) Z Z (by decide) Z (by simp;omega) (by simp;omega) (by rw[List.take_succ_eq_append_getElem (by omega),List.map_append,aw (by omega)];rfl) (by simp;omega)) Z (am ?_)
 refine am ?_
 refine js Z (jn (ag (ji Z (js Z (jn ?_)))))
 refine⟨i+1,((ah [23] (e':=[(3,_),(6,_),(7,_),(8,_)]) Z Z ⟨Z,Z,Z,Z,tv⟩ Z).trans (aa 23 900 Z Z)),by omega,by omega⟩
 try simp only[bo]at z9
 refine aR (ac (jb Z (jr ?_)))
 obtain rfl:i=ts.length:=by omega
 rw[List.take_length]
 refine⟨.inl Z,_,bK,_,Z,[900],by decide,Z,Z,Z⟩
structure Rw where
  c:Int
  xs:List Int
  ms:List Int
  deriving Inhabited
abbrev Rw.cells(r:Rw):List D:=[.int .i64 r.c,cK r.xs,cK r.ms]
abbrev Rw.tm(r:Rw):Tm:=⟨r.c,bv r.xs⟩
abbrev Rw.comb(r:Rw):List D:=[.int .i64 r.c,cK (bv r.xs),cK r.ms]
def kp(xs:List Int)(i:Nat):List Int:=(List.range i).map fun k=>xs.getD k 0
abbrev GC(xs:List Int):List Int:=kp xs 10
theorem eH{xs:List Int}{i:Nat}:(kp xs i).length=i:=by simp[kp]
theorem wq{xs:List Int}{i:Nat}:kp xs (i+1)=kp xs i++[xs.getD i 0]:=by simp[kp,List.range_succ]
def jq(n i:Nat):List Int:=(List.replicate n (0:Int)).set i 1
theorem gD{n i:Nat}:(jq n i).length=n:=by simp[jq]
abbrev sI(ts:List Tm)(i:Nat):Rw:=⟨(ts.getD i default).c,GC (ts.getD i default).xs,jq ts.length i⟩
def fB(ts:List Tm)(i:Nat):List Rw:=(List.range i).map (sI ts)
theorem ca{ts:List Tm}{i:Nat}:(fB ts i).length=i:=by simp[fB]
theorem oE{ts:List Tm}{i:Nat}:fB ts (i+1)=fB ts i++[sI ts i]:=by simp[fB,List.range_succ]
abbrev t5(ts:List Tm):List Rw:=fB ts ts.length
theorem se: ∀{ys:List Int},∃z:Nat,ys.reverse=(ys.dropWhile (· == 0)).reverse++List.replicate z 0
 | []=>⟨0,rfl⟩
 | y::ys=>by
  by_cases h:y=0
  subst h
  obtain⟨z,hz⟩:=se (ys:=ys)
  refine⟨z+1,?_⟩
  rw[List.reverse_cons,hz,List.replicate_succ',gm]
  rfl
  refine⟨0,?_⟩
  rw[List.dropWhile_cons_of_neg (by simpa using h)]
  simp
theorem jv(xs:List Int): ∃z:Nat,xs=bv xs++List.replicate z 0:=by
 obtain⟨z,hz⟩:=se (ys:=xs.reverse)
 rw[List.reverse_reverse]at hz
 exact⟨z,hz⟩
theorem eu(xs:List Int)(k:Nat):(bv xs).getD k 0=xs.getD k 0:=by
 obtain⟨z,hz⟩:=jv xs
 conv=>rhs;rw[hz]
 rw[List.getD_eq_getElem?_getD,List.getD_eq_getElem?_getD,List.getElem?_append]
 split
 rfl
 rename_i h
 rw[List.getElem?_eq_none (by omega),List.getElem?_replicate]
 split<;>rfl
theorem gl(xs:List Int):(bv xs).length≤xs.length:=by
 obtain⟨z,hz⟩:=jv xs
 have:=congrArg List.length hz
 rw[cp]at this
 omega
theorem AK{p:Int→Bool}(h0:p 0=true)(xs:List Int):(bv xs).all p=xs.all p:=by
 obtain⟨z,hz⟩:=jv xs
 conv=>rhs;rw[hz]
 rw[List.all_append]
 have:(List.replicate z (0:Int)).all p=true:=by
  rw[List.all_eq_true];intro x hx
  rw[List.eq_of_mem_replicate hx];exact h0
 rw[this,Bool.and_true]
theorem sd{f:Int→Int}: ∀{ys:List Int},(∀y∈ys,f y=0↔y=0)→(ys.map f).dropWhile (· == 0)=(ys.dropWhile (· == 0)).map f
 | [],_=>rfl
 | y::ys,h=>by
  by_cases h0:y=0
  have hf:f y=0:=(h y (by simp)).2 h0
  rw[List.map_cons,List.dropWhile_cons_of_pos (by simpa using hf),List.dropWhile_cons_of_pos (by simpa using h0)]
  exact sd fun z hz=>h z (by simp[hz])
  have hf:f y≠0:=fun e=>h0 ((h y (by simp)).1 e)
  rw[List.map_cons,List.dropWhile_cons_of_neg (by simpa using hf),List.dropWhile_cons_of_neg (by simpa using h0),List.map_cons]
theorem AI{f:Int→Int}{xs:List Int}(h: ∀x∈xs,f x=0↔x=0):bv (xs.map f)=(bv xs).map f:=by
 unfold bv
 rw[←List.map_reverse,sd (fun y hy=>h y (by simpa using hy)),List.map_reverse]
theorem wB{ys:List Int}:ys.dropWhile (· == 0)=[]∨∃y r,ys.dropWhile (· == 0)=y::r∧y≠0:=by
 induction ys with
 | nil=>exact .inl Z
 | cons y ys ih=>
  by_cases h:y=0
  rw[List.dropWhile_cons_of_pos (by simpa using h)];exact ih
  rw[List.dropWhile_cons_of_neg (by simpa using h)];exact .inr ⟨y,ys,rfl,h⟩
theorem AJ(xs:List Int):bv xs=[]∨(bv xs).getD ((bv xs).length-1) default≠0:=by
 unfold bv
 rcases wB (ys:=xs.reverse)with h|⟨y,r,h,hy⟩
 rw[h];exact .inl Z
 rw[h]
 refine .inr ?_
 rw[List.reverse_cons]
 simp[hy]
theorem Dh{r:Rw}(hl:r.xs.length=10):r.tm.ok=(num r.c&&r.xs.all num):=by
 have h:r.tm.ok=true↔(num r.c&&r.xs.all num)=true:=by
  rw[EA,bC]
  have h1:=gl r.xs
  have h2:=AJ r.xs
  have h3:(bv r.xs).all num=r.xs.all num:=AK (by decide) r.xs
  constructor
  rintro⟨a,b,_⟩
  exact⟨a,by rw[←h3];exact b⟩
  rintro⟨a,b⟩
  exact⟨a,by show(bv r.xs).all num=true;rw[h3];exact b,by show(bv r.xs).length≤10;omega,h2⟩
 cases h1:r.tm.ok<;>cases h2:(num r.c&&r.xs.all num)<;>simp_all
theorem nb(xs ys:List Int):bk (xs++ys)=ys.foldl (fun g x=>Nat.gcd g x.natAbs) (bk xs):=by unfold bk;rw[List.foldl_append]
theorem r4(xs:List Int)(x:Int):bk (xs++[x])=Nat.gcd (bk xs) x.natAbs:=by rw[nb];rfl
theorem Bo(x:Int):bk [x]=x.natAbs:=by show Nat.gcd 0 x.natAbs=_;rw[Nat.gcd_zero_left]
theorem Bm(x y:Int):bk [x,y]=Nat.gcd x.natAbs y.natAbs:=by show Nat.gcd (Nat.gcd 0 x.natAbs) y.natAbs=_;rw[Nat.gcd_zero_left]
theorem oN: ∀{z g:Nat},(List.replicate z (0:Int)).foldl (fun g x=>Nat.gcd g x.natAbs) g=g
 | 0,g=>rfl
 | z+1,g=>by
  rw[List.replicate_succ,List.foldl_cons]
  show List.foldl _ (Nat.gcd g 0) _=g
  rw[Nat.gcd_zero_right];exact oN
theorem yG(c:Int)(xs ms:List Int):bk (c::bv xs++ms)=bk (c::xs++ms):=by
 obtain⟨z,hz⟩:=jv xs
 conv=>rhs;rw[hz]
 show bk ((c::bv xs)++ms)=bk ((c::(bv xs++List.replicate z 0))++ms)
 rw[nb,nb (c::(bv xs++List.replicate z 0)),←List.cons_append,nb (c::bv xs) (List.replicate z 0),oN]
theorem nl{B:Nat}: ∀{xs:List Int} {g:Nat},g≤B→(∀x∈xs,x.natAbs≤B)→xs.foldl (fun g x=>Nat.gcd g x.natAbs) g≤B
 | [],g,h,_=>h
 | x::xs,g,h,hx=>by
  rw[List.foldl_cons]
  refine nl ?_ (fun y hy=>hx y (by simp[hy]))
  have h1:=hx x (by simp)
  rcases Nat.eq_zero_or_pos x.natAbs with h0|h0
  show Nat.gcd g x.natAbs≤B
  rw[h0,Nat.gcd_zero_right];exact h
  exact Nat.le_trans (Nat.gcd_le_right _ h0) h1
theorem qp{B:Nat}{xs:List Int}(h: ∀x∈xs,x.natAbs≤B):bk xs≤B:=nl (cG _) h
theorem Bn{xs:List Int}{x:Int}(hx:x∈xs)(h:x≠0):0<bk xs:=by
 have:=ie hx
 rcases Nat.eq_zero_or_pos (bk xs)with h0|h0
 rw[h0]at this
 have:=Nat.eq_zero_of_zero_dvd this
 omega
 exact h0
theorem l8{x:Int}{g:Nat}(h:g ∣ x.natAbs)(hg:0<g):x.tdiv g=0↔x=0:=by
 constructor
 intro e
 have e1:(x.tdiv g).natAbs=0:=by rw[e];rfl
 rw[Int.natAbs_tdiv,Int.natAbs_natCast]at e1
 obtain⟨q,hq⟩:=h
 rw[hq]at e1
 change g*q/g=0 at e1
 rw[Nat.mul_div_cancel_left _ hg]at e1
 rw[e1,Nat.mul_zero]at hq
 omega
 intro e;subst e;simp
theorem nZ{x:Int}{g:Nat}(h:g ∣ x.natAbs)(hg:0<g)(hx:0<x):0<x.tdiv g:=by
 have h1:0≤x.tdiv g:=Int.tdiv_nonneg (by omega) (by omega)
 have h2:x.tdiv g≠0:=fun e=>by have:=(l8 h hg).1 e;omega
 omega
def iw(n m:Int)(xs ys:List Int)(i:Nat):List Int:=(List.range i).map fun k=>n*xs.getD k default+m*ys.getD k default
theorem bF{n m:Int}{xs ys:List Int}{i:Nat}:(iw n m xs ys i).length=i:=by simp[iw]
theorem jC{n m:Int}{xs ys:List Int}{i:Nat}:iw n m xs ys (i+1)=iw n m xs ys i++[n*xs.getD i default+m*ys.getD i default]:=by simp[iw,List.range_succ]
theorem pq{n m:Int}{xs ys:List Int}{i:Nat}{x:Int}(h:x∈iw n m xs ys i): ∃k,k<i∧x=n*xs.getD k default+m*ys.getD k default:=by
 unfold iw at h
 obtain⟨k,hk,rfl⟩:=List.mem_map.1 h
 exact⟨k,List.mem_range.1 hk,Z⟩
abbrev go(p q:Rw)(k:Nat):Nat:=Nat.gcd (p.xs.getD k default).natAbs (q.xs.getD k default).natAbs
abbrev nG(p q:Rw)(k:Nat):Int:=(p.xs.getD k default).tdiv (go p q k)
abbrev nF(p q:Rw)(k:Nat):Int:=(-(q.xs.getD k default)).tdiv (go p q k)
abbrev mg(p q:Rw)(k:Nat):Rw:=⟨nF p q k*p.c+nG p q k*q.c,iw (nF p q k) (nG p q k) p.xs q.xs p.xs.length,iw (nF p q k) (nG p q k) p.ms q.ms p.ms.length⟩
abbrev sK(r:Rw):Nat:=bk (r.c::r.xs++r.ms)
def nJ(r:Rw)(g:Nat):Rw:=⟨r.c.tdiv g,r.xs.map (fun x=>x.tdiv g),r.ms.map fun x=>x.tdiv g⟩
abbrev ef(p q:Rw)(k:Nat):Rw:=nJ (mg p q k) (sK (mg p q k))
def wX(r:Rw):Bool:=(num r.c&&r.xs.all num)&&r.ms.all num
structure ROk(n:Nat)(r:Rw):Prop where
  c:num r.c=true
  xs:r.xs.all num=true
  l:r.xs.length=10
  ms:r.ms.all co=true
  n:r.ms.length=n
  pos: ∃x∈r.ms,0<x
theorem x2{p:Int→Bool}{xs:List Int}(h:xs.all p=true)(h0:p 0=true)(k:Nat):p (xs.getD k default)=true:=by
 by_cases hk:k<xs.length
 rw[aw hk];exact List.all_eq_true.1 h _ (List.getElem_mem hk)
 rw[List.getD_eq_getElem?_getD,List.getElem?_eq_none (by omega)];exact h0
theorem ROk.get{n:Nat}{r:Rw}(h:ROk n r)(k:Nat): -1000000≤r.xs.getD k default∧r.xs.getD k default≤1000000:=IZ.1 (x2 h.xs (by decide) k)
theorem Kc{x:Int}:co x=true↔0≤x∧x≤1000000:=by simp[co]
theorem ROk.mul{n:Nat}{r:Rw}(h:ROk n r)(k:Nat):0≤r.ms.getD k default∧r.ms.getD k default≤1000000:=Kc.1 (x2 h.ms (by decide) k)
theorem ROk.tm{n:Nat}{r:Rw}(h:ROk n r):r.tm.ok=true:=by rw[Dh h.l,h.c,h.xs];rfl
theorem tg{n:Nat}{p q:Rw}{k:Nat}(hp:ROk n p)(hq:ROk n q)(h1:0<p.xs.getD k default)(h2:q.xs.getD k default<0) :
    (0<go p q k∧go p q k≤1000000)∧(1≤nG p q k∧nG p q k≤1000000)∧(1≤nF p q k∧nF p q k≤1000000):=by
 have b1:=hp.get k
 have b2:=hq.get k
 have g1:0<go p q k:=Nat.gcd_pos_of_pos_left _ (by omega)
 have g2:go p q k≤(p.xs.getD k default).natAbs:=Nat.gcd_le_left _ (by omega)
 have d1:go p q k ∣ (p.xs.getD k default).natAbs:=Nat.gcd_dvd_left _ _
 have d2:go p q k ∣ (-(q.xs.getD k default)).natAbs:=by rw[Int.natAbs_neg];exact Nat.gcd_dvd_right _ _
 have m1:=nZ d1 g1 h1
 have m2:=nZ d2 g1 (x:= -(q.xs.getD k default)) (by omega)
 have m3:=ej (a:=p.xs.getD k default) (b:=go p q k) (by omega)
 have m4:=ej (a:= -(q.xs.getD k default)) (b:=go p q k) (by omega)
 exact⟨⟨g1,by omega⟩,⟨by show 1≤Int.tdiv _ _;omega,m3.2⟩,⟨by show 1≤Int.tdiv _ _;omega,m4.2⟩⟩
theorem gx{a b:Int}(h1: -1000000≤a∧a≤1000000)(h2: -1000000≤b∧b≤1000000): -1000000000000≤a*b∧a*b≤1000000000000:=
  ff (IZ.2 h1) (IZ.2 h2)
theorem sU{a b x y:Int}(h1:1≤a∧a≤1000000)(h2:1≤b∧b≤1000000)(hx: -1000000≤x∧x≤1000000)(hy: -1000000≤y∧y≤1000000) :
    -2000000000000≤a*x+b*y∧a*x+b*y≤2000000000000:=by
 have q1:=gx (a:=a) (b:=x) (by omega) hx
 have q2:=gx (a:=b) (b:=y) (by omega) hy
 omega
theorem Ac{n:Nat}{p q:Rw}{k:Nat}(hp:ROk n p)(hq:ROk n q)(h1:0<p.xs.getD k default)(h2:q.xs.getD k default<0) :
    (∀x∈(mg p q k).c::(mg p q k).xs++(mg p q k).ms,-2000000000000≤x∧x≤2000000000000)∧(∀x∈(mg p q k).ms,0≤x)∧(∃x∈(mg p q k).ms,0<x):=by
 obtain⟨_,hm,hn⟩:=tg hp hq h1 h2
 refine⟨fun x hx=>?_,fun x hx=>?_,?_⟩
 rw[List.mem_append,List.mem_cons]at hx
 rcases hx with(rfl|hx)|hx
 exact sU hn hm (IZ.1 hp.c) (IZ.1 hq.c)
 obtain⟨i,_,rfl⟩:=pq hx
 exact sU hn hm (hp.get i) (hq.get i)
 obtain⟨i,_,rfl⟩:=pq hx
 have:=hp.mul i
 have:=hq.mul i
 exact sU hn hm (by omega) (by omega)
 obtain⟨i,_,rfl⟩:=pq hx
 have:=Int.mul_nonneg (a:=nF p q k) (b:=p.ms.getD i default) (by omega) (hp.mul i).1
 have:=Int.mul_nonneg (a:=nG p q k) (b:=q.ms.getD i default) (by omega) (hq.mul i).1
 omega
 obtain⟨x,hx,h0⟩:=hp.pos
 obtain⟨i,hi,rfl⟩:=List.mem_iff_getElem.1 hx
 refine⟨_,List.mem_map.2 ⟨i,List.mem_range.2 hi,Z⟩,?_⟩
 rw[←aw hi]at h0
 have:=Int.mul_pos (a:=nF p q k) (b:=p.ms.getD i default) (by omega) h0
 have:=Int.mul_nonneg (a:=nG p q k) (b:=q.ms.getD i default) (by omega) (hq.mul i).1
 omega
theorem pA{n:Nat}{p q:Rw}{k:Nat}(hp:ROk n p)(hq:ROk n q)(h1:0<p.xs.getD k default)(h2:q.xs.getD k default<0) :
    0<sK (mg p q k)∧sK (mg p q k)≤2000000000000:=by
 obtain⟨a,_,⟨x,hx,h0⟩⟩:=Ac hp hq h1 h2
 exact⟨Bn (x:=x) (List.mem_append_right _ hx) (by omega),qp fun y hy=>by have:=a y hy;omega⟩
theorem uL{r:Rw}:sK r ∣ r.c.natAbs∧(∀x∈r.xs,sK r ∣ x.natAbs)∧∀x∈r.ms,sK r ∣ x.natAbs:=
  ⟨ie (by simp),fun x hx=>ie (by simp[hx]),fun x hx=>ie (by simp[hx])⟩
theorem qP{n:Nat}{p q:Rw}{k:Nat}(hp:ROk n p):(ef p q k).xs.length=10∧(ef p q k).ms.length=n:=
  ⟨by show(List.map _ (iw _ _ _ _ _)).length=10;rw[bA,bF,hp.l],by show(List.map _ (iw _ _ _ _ _)).length=n;rw[bA,bF,hp.n]⟩
theorem sS{n:Nat}{p q:Rw}{k:Nat}(hp:ROk n p)(hq:ROk n q)(h1:0<p.xs.getD k default)(h2:q.xs.getD k default<0)(h:wX (ef p q k)=true):ROk n (ef p q k):=by
 obtain⟨a,b,⟨x,hx,h0⟩⟩:=Ac hp hq h1 h2
 have hg:=pA hp hq h1 h2
 have hd:=uL (r:=mg p q k)
 simp only[wX,bC]at h
 refine⟨h.1.1,h.1.2,(qP hp).1,?_,(qP hp).2,?_⟩
 have h9:=List.all_eq_true.1 h.2
 rw[List.all_eq_true]
 intro y hy
 have h3:=IZ.1 (h9 y hy)
 obtain⟨z,hz,rfl⟩:=List.mem_map.1 hy
 exact Kc.2 ⟨Int.tdiv_nonneg (b z hz) (by omega),h3.2⟩
 exact⟨_,List.mem_map.2 ⟨x,hx,Z⟩,nZ (hd.2.2 x hx) hg.1 h0⟩
theorem Bv{r:Rw}(h:0<sK r):bv (r.xs.map fun x=>x.tdiv (sK r))=(bv r.xs).map fun x=>x.tdiv (sK r):=
  AI fun x hx=>l8 (uL.2.1 x hx) h
def tU(p:Rw)(k b:Nat):List Rw→List Rw→Option (List Rw)
  | [],new=>some new
  | q :: qs,new=>if p.xs.getD k default≤0∨0≤q.xs.getD k default then tU p k b qs new
    else if wX (ef p q k)=true∧b+new.length≠60 then tU p k b qs (new++[ef p q k])else none
def sE(k b:Nat)(rs:List Rw):List Rw→List Rw→Option (List Rw)
  | [],new=>some new
  | p :: ps,new=>match tU p k b rs new with
    | none=>none
    | some y=>sE k b rs ps y
def cS(k:Nat)(rs:List Rw):List Rw:=rs.filter fun r=>decide (r.xs.getD k default=0)
abbrev fh(k:Nat)(rs:List Rw):Option (List Rw):=sE k (cS k rs).length rs rs []
def gT:Nat→Nat→List Rw→List Rw→Option (List Rw×List Rw)
  | 0,_,rs,news=>some (rs,news)
  | f + 1,k,rs,news=>match fh k rs with
    | none=>none
    | some new=>gT f (k+1) (cS k rs++new) (news++new)
abbrev dk(ts:List Tm):Option (List Rw×List Rw):=gT 10 0 (t5 ts) []
def AllR(n:Nat)(rs:List Rw):Prop:= ∀r∈rs,ROk n r
theorem AllR.nil{n:Nat}:AllR n []:=fun r h=>by cases h
theorem AllR.app{n:Nat}{a b:List Rw}(h1:AllR n a)(h2:AllR n b):AllR n (a++b):=fun r h=>by
 rcases List.mem_append.1 h with h|h
 exact h1 r h
 exact h2 r h
theorem AllR.snoc{n:Nat}{a:List Rw}{r:Rw}(h1:AllR n a)(h2:ROk n r):AllR n (a++[r]):=h1.app fun x hx=>by simp at hx;subst hx;exact h2
theorem AllR.get{n:Nat}{a:List Rw}(h:AllR n a){i:Nat}(hi:i<a.length):ROk n (a.getD i default):=by rw[aw hi];exact h _ (List.getElem_mem hi)
theorem uJ{p:Rw}{k b:Nat}{rs new:List Rw}{j:Nat}(h:j<rs.length):tU p k b (rs.drop j) new =
    if p.xs.getD k default≤0∨0≤(rs.getD j default).xs.getD k default then tU p k b (rs.drop (j+1)) new
    else if wX (ef p (rs.getD j default) k)=true∧b+new.length≠60 then tU p k b (rs.drop (j+1)) (new++[ef p (rs.getD j default) k])else none:=by
 rw[List.drop_eq_getElem_cons h,aw h];rfl
theorem xG{p:Rw}{k b:Nat}{rs new:List Rw}{j:Nat}(h:rs.length≤j):tU p k b (rs.drop j) new=some new:=by
 rw[List.drop_of_length_le h];rfl
theorem m9{k b:Nat}{rs new:List Rw}{i:Nat}(h:i<rs.length):sE k b rs (rs.drop i) new =
    match tU (rs.getD i default) k b rs new with
    | none=>none
    | some y=>sE k b rs (rs.drop (i+1)) y:=by
  rw[List.drop_eq_getElem_cons h,aw h];rfl
theorem xJ{k b:Nat}{rs new:List Rw}{i:Nat}(h:rs.length≤i):sE k b rs (rs.drop i) new=some new:=by
 rw[List.drop_of_length_le h];rfl
theorem vS{n:Nat}{p:Rw}{k b:Nat}(hp:ROk n p): ∀{qs new y:List Rw},AllR n qs→AllR n new→b+new.length≤60→tU p k b qs new=some y→AllR n y∧b+y.length≤60
 | [],new,y,_,hn,hl,h=>by
  simp only[tU,dL]at h;subst h;exact⟨hn,hl⟩
 | q::qs,new,y,hq,hn,hl,h=>by
  have hqs:AllR n qs:=fun r hr=>hq r (by simp[hr])
  unfold tU at h
  split at h
  exact vS hp hqs hn hl h
  rename_i h0
  have hb:0<p.xs.getD k default∧q.xs.getD k default<0:=⟨by omega,by omega⟩
  split at h
  rename_i h3
  exact vS hp hqs (hn.snoc (sS hp (hq q (by simp)) hb.1 hb.2 h3.1)) (by rw[cp,du];omega) h
  cases h
theorem Aj{n k b:Nat}{rs:List Rw}(hr:AllR n rs): ∀{ps new y:List Rw},AllR n ps→AllR n new→b+new.length≤60→sE k b rs ps new=some y→AllR n y∧b+y.length≤60
 | [],new,y,_,hn,hl,h=>by
  simp only[sE,dL]at h;subst h;exact⟨hn,hl⟩
 | p::ps,new,y,hq,hn,hl,h=>by
  unfold sE at h
  split at h
  cases h
  rename_i z hz
  obtain⟨h1,h2⟩:=vS (hq p (by simp)) hr hn hl hz
  exact Aj hr (fun r h=>hq r (by simp[h])) h1 h2 h
theorem gf{k:Nat}{rs:List Rw}:(cS k rs).length≤rs.length:=List.length_filter_le _ _
theorem Bi{n k:Nat}{rs:List Rw}(h:AllR n rs):AllR n (cS k rs):=fun r hr=>h r ((List.mem_filter.1 hr).1)
theorem xD{k i:Nat}{rs:List Rw}(h:i<rs.length)(h0:(rs.getD i default).xs.getD k default=0):cS k (rs.take (i+1))=cS k (rs.take i)++[rs.getD i default]:=by
 unfold cS
 rw[List.take_succ_eq_append_getElem h,List.filter_append,←aw h,List.filter_cons_of_pos (by simpa using h0)];rfl
theorem xE{k i:Nat}{rs:List Rw}(h:i<rs.length)(h0:(rs.getD i default).xs.getD k default≠0):cS k (rs.take (i+1))=cS k (rs.take i):=by
 unfold cS
 rw[List.take_succ_eq_append_getElem h,List.filter_append,←aw h,List.filter_cons_of_neg (by simpa using h0),List.filter_nil,List.append_nil]
theorem n3{n k:Nat}{rs new:List Rw}(h:AllR n rs)(hl:rs.length≤60)(hs:fh k rs=some new):AllR n (cS k rs++new)∧(cS k rs++new).length≤60∧AllR n new∧new.length≤60:=by
 have h1:=gf (k:=k) (rs:=rs)
 obtain⟨h2,h3⟩:=Aj h h .nil (by simp only[List.length_nil];omega) hs
 exact⟨(Bi h).app h2,by rw[cp];exact h3,h2,by omega⟩
theorem kd{f k:Nat}{rs news new:List Rw}(h:fh k rs=some new):gT (f+1) k rs news=gT f (k+1) (cS k rs++new) (news++new):=by
 rw[gT,h]
theorem ke{f k:Nat}{rs news:List Rw}(h:fh k rs=none):gT (f+1) k rs news=none:=by
 rw[gT,h]
theorem uU{n:Nat}: ∀{f k:Nat} {rs news a b:List Rw},AllR n rs→rs.length≤60→AllR n news→gT f k rs news=some (a,b)→AllR n a∧a.length≤60∧AllR n b∧b.length≤news.length+60*f
 | 0,k,rs,news,a,b,h1,h2,h3,h=>by
  simp only[gT,dL,Prod.mk.injEq]at h
  obtain⟨rfl,rfl⟩:=h
  exact⟨h1,h2,h3,by omega⟩
 | f + 1,k,rs,news,a,b,h1,h2,h3,h=>by
  cases hs:fh k rs with
  | none=>rw[ke hs]at h;cases h
  | some new=>
   rw[kd hs]at h
   obtain⟨g1,g2,g3,g4⟩:=n3 h1 h2 hs
   obtain⟨e1,e2,e3,e4⟩:=uU g1 g2 (h3.app g3) h
   rw[cp]at e4
   exact⟨e1,e2,e3,by omega⟩
structure Fs(ts:List Tm):Prop where
  ok: ∀t∈ts,t.ok=true
  len:ts.length≤14
theorem Fs.ctx{ts:List Tm}(h:Fs ts):CtxOk ts:=⟨h.ok,by have:=h.len;omega⟩
theorem Fs.get{ts:List Tm}(h:Fs ts){i:Nat}(hi:i<ts.length):(ts.getD i default).ok=true:=h.ctx.get hi
theorem Fs.snoc{ts:List Tm}{t:Tm}(h:Fs ts)(ht:t.ok=true)(hl:ts.length≠14):Fs (ts++[t]):=⟨fun u hu=>by
 rcases List.mem_append.1 hu with hu|hu
 exact h.ok u hu
 simp at hu;subst hu;exact ht,by have:=h.len;rw[cp,du];omega⟩
theorem Fs.all{ts:List Tm}(h:Fs ts):fA ts 14=true:=by
 have:=h.len
 simp only[fA,bC,decide_eq_true_eq,List.all_eq_true]
 exact⟨h.ok,by omega⟩
theorem Cm{n i:Nat}:(jq n i).all co=true:=by
 rw[List.all_eq_true]
 intro x hx
 rcases List.mem_or_eq_of_mem_set hx with h|h
 rw[List.eq_of_mem_replicate h];decide
 rw[h];decide
theorem xv{ts:List Tm}(h:Fs ts){i:Nat}(hi:i<ts.length):ROk ts.length (sI ts i):=by
 have ht:=Small.of (h.get hi)
 refine⟨ht.c,?_,eH,Cm,gD,⟨1,?_,by decide⟩⟩
 rw[List.all_eq_true]
 intro x hx
 obtain⟨k,_,rfl⟩:=List.mem_map.1 hx
 exact ht.get k
 exact List.mem_iff_getElem.2 ⟨i,by rw[gD];exact hi,by simp[jq]⟩
theorem qe{ts:List Tm}(h:Fs ts):AllR ts.length (t5 ts):=fun r hr=>by
 obtain⟨i,hi,rfl⟩:=List.mem_map.1 hr
 exact xv h (List.mem_range.1 hi)
theorem A7{xs:List Int}(h:xs.length≤10)(he:xs=[]∨xs.getD (xs.length-1) default≠0):bv (GC xs)=xs:=by
 have h1:GC xs=xs++List.replicate (10-xs.length) 0:=by
  refine List.ext_getElem (by simp[kp];omega) fun k h2 h3=>?_
  rw[List.getElem_append]
  have h5:(GC xs)[k]=xs.getD k 0:=by simp[kp]
  rw[h5]
  split
  rename_i h4;simp[h4]
  rename_i h4;simp[Nat.not_lt.1 h4]
 rw[h1]
 have h2: ∀z:Nat,bv (xs++List.replicate z 0)=bv xs:=by
  intro z
  induction z with
  | zero=>simp
  | succ z ih=>rw[List.replicate_succ',←gm,lF,ih]
 rw[h2,rN he]
theorem Cu{ts:List Tm}(h:Fs ts){i:Nat}(hi:i<ts.length):(sI ts i).tm=ts.getD i default:=by
 obtain⟨_,_,h3,h4⟩:=EA.1 (h.get hi)
 show(⟨(ts.getD i default).c,bv (GC (ts.getD i default).xs)⟩:Tm)=_
 rw[A7 h3 h4]
theorem jF{ts:List Tm}(h:Fs ts){a b:List Rw}(he:dk ts=some (a,b)):AllR ts.length a∧a.length≤60∧AllR ts.length b∧b.length≤600:=by
 have:=h.len
 obtain⟨h1,h2,h3,h4⟩:=uU (qe h) (by rw[ca];omega) .nil he
 exact⟨h1,h2,h3,by simpa using h4⟩
def gR:List Rw→Option Rw
  | []=>none
  | r::rs=>if r.c<0 then some r else gR rs
theorem qU{rs:List Rw}{i:Nat}(h:i<rs.length):gR (rs.drop i)=if(rs.getD i default).c<0 then some (rs.getD i default)else gR (rs.drop (i+1)):=by
 rw[List.drop_eq_getElem_cons h,aw h];rfl
theorem r8{rs:List Rw}{i:Nat}(h:rs.length≤i):gR (rs.drop i)=none:=by rw[List.drop_of_length_le h];rfl
def dj(ts:List Tm):List Int×Bool:=match dk ts with
  | none=>([],false)
  | some z=>match gR z.1 with
    | none=>([],false)
    | some r=>(r.ms,true)
theorem n9: ∀{rs:List Rw} {r:Rw},gR rs=some r→r∈rs
 | [],r,h=>by cases h
 | x::rs,r,h=>by
  unfold gR at h
  split at h
  simp only[dL]at h;subst h;simp
  exact List.mem_cons_of_mem _ (n9 h)
theorem td{ts:List Tm}(h:Fs ts)(h2:(dj ts).2=true):(dj ts).1.all co=true∧(dj ts).1.length=ts.length:=by
 unfold dj at h2 ⊢
 split at h2
 cases h2
 rename_i z hz
 split at h2
 cases h2
 rename_i r hr
 have:=(jF h (a:=z.1) (b:=z.2) hz).1 r (n9 hr)
 exact⟨this.ms,this.n⟩
def gX(ts:List Tm)(t:Tm):Bool:=ts.any fun u=>decide (u=t)
def BU:Tm×Bool:=(⟨0,[]⟩,false)
def aC(ts:List Tm)(t:Tm):Tm×Bool:=if bk t.xs<2∨t.c.tmod (bk t.xs)=0 then BU else((bX t).1,(bX t).2&& !gX ts (bX t).1)
theorem e6{ts:List Tm}{t:Tm}(h:(aC ts t).2=true):(aC ts t).1.ok=true:=by
 unfold aC at h ⊢
 split at h
 cases h
 rename_i h1
 rw[if_neg h1]
 simp only[bC]at h
 exact lI h.1
def kq(ts:List Tm):List Rw→Option Rw
  | []=>none
  | r::rs=>if(aC ts r.tm).2=true then some r else kq ts rs
theorem qV{ts:List Tm}{rs:List Rw}{i:Nat}(h:i<rs.length):kq ts (rs.drop i)=if(aC ts (rs.getD i default).tm).2=true then some (rs.getD i default)else kq ts (rs.drop (i+1)):=by
 rw[List.drop_eq_getElem_cons h,aw h];rfl
theorem r9{ts:List Tm}{rs:List Rw}{i:Nat}(h:rs.length≤i):kq ts (rs.drop i)=none:=by rw[List.drop_of_length_le h];rfl
theorem jO{ts:List Tm}: ∀{rs:List Rw} {r:Rw},kq ts rs=some r→r∈rs∧(aC ts r.tm).2=true
 | [],r,h=>by cases h
 | x::rs,r,h=>by
  unfold kq at h
  split at h
  rename_i h1
  simp only[dL]at h;subst h;exact⟨by simp,h1⟩
  exact⟨List.mem_cons_of_mem _ (jO h).1,(jO h).2⟩
def eQ(ts:List Tm):Option Rw:=match dk ts with
  | none=>none
  | some z=>kq ts z.2
theorem j5{ts:List Tm}(h:Fs ts){r:Rw}(hr:eQ ts=some r):ROk ts.length r∧(aC ts r.tm).2=true:=by
 unfold eQ at hr
 split at hr
 cases hr
 rename_i z hz
 exact⟨(jF h (a:=z.1) (b:=z.2) hz).2.2.1 r (jO hr).1,(jO hr).2⟩
def pK(ts:List Tm):Nat→Nat→Option Nat
  | 0,_=>none
  | f+1,i=>if(aC ts (ts.getD i default)).2=true then some i else pK ts f (i+1)
abbrev fM(ts:List Tm):Option Nat:=pK ts ts.length 0
theorem lJ{ts:List Tm}: ∀{f i j:Nat},pK ts f i=some j→i≤j∧j<i+f∧(aC ts (ts.getD j default)).2=true
 | 0,i,j,h=>by cases h
 | f+1,i,j,h=>by
  unfold pK at h
  split at h
  rename_i h1
  simp only[dL]at h;subst h;exact⟨cQ _,by omega,h1⟩
  obtain⟨a,b,c⟩:=lJ h
  exact⟨by omega,by omega,c⟩
abbrev dS(i:Nat):Nd:=⟨3,(i:Int),⟨0,[]⟩,[]⟩
abbrev dn(t:Tm):Nd:=⟨2,0,t,[]⟩
abbrev c7(ms:List Int):Nd:=⟨1,0,⟨0,[]⟩,ms⟩
abbrev eP(r:Rw):List Int:=r.ms++[(bk r.tm.xs:Int)]
def jT : Nat→List Tm→Option (List Nd×List Nd)
  | 0,_=>none
  | f + 1, ts=>match fM ts with
    | some i=>if ts.length=14 then none else(jT f (ts++[(aC ts (ts.getD i default)).1])).map fun z=>(dS i::z.1,z.2)
    | none => if(dj ts).2=true then some ([c7 (dj ts).1],[])else match eQ ts with
      | none=>none
      | some r=>if ts.length=14 then none else if(aL (aC ts r.tm).1).2=true then
          (jT f (ts++[(aC ts r.tm).1])).map fun z=>(dn (aC ts r.tm).1::z.1,z.2++[c7 (eP r)])else none
abbrev Wk:=List Nd×Bool
def iv(b:Int)(s:Wk)(n:Nd):Wk:=if(s.1.length:Int)=b∨n.mul.all co=false then(s.1,true)else(s.1++[n],s.2)
def eh(ts:List Tm)(s:Wk):Wk:=(s.1,if ts.length=14 then true else s.2)
def jg (b : Int):Nat→List Tm→Wk→Wk
  | 0,_,s=>s
  | f + 1, ts,s=>if s.2=true then s else match fM ts with
    | some i=>jg b f (ts++[(aC ts (ts.getD i default)).1]) (eh ts (iv b s (dS i)))
    | none => if(dj ts).2=true then iv b s (c7 (dj ts).1)else match eQ ts with
      | none=>(s.1,true)
      | some r=>if(aL (aC ts r.tm).1).2=true then
          iv b (jg b f (ts++[(aC ts r.tm).1]) (eh ts (iv b s (dn (aC ts r.tm).1)))) (c7 (eP r))else(s.1,true)
theorem ij{b:Int}{f:Nat}{ts:List Tm}{s:Wk}(h:s.2=true):jg b f ts s=s:=by
 cases f with
 | zero=>rfl
 | succ f=>rw[jg,if_pos h]
theorem mK{b:Int}{s:Wk}{n:Nd}(hb:(s.1.length:Int)≤b):((iv b s n).1.length:Int)≤b:=by
 unfold iv
 split
 exact hb
 rename_i h
 simp only[cp,du];omega
theorem mL{b:Int}: ∀{f:Nat} {ts:List Tm} {s:Wk},(s.1.length:Int)≤b→((jg b f ts s).1.length:Int)≤b
 | 0,ts,s,h=>h
 | f+1,ts,s,h=>by
  rw[jg]
  split
  exact h
  split
  exact mL (mK (s:=s) h)
  split
  exact mK h
  split
  exact h
  split
  exact mK (mL (mK (s:=s) h))
  exact h
theorem j8{b:Int}{s:Wk}{n:Nd}(h:s.2=true):(iv b s n).2=true:=by
 unfold iv
 split
 rfl
 exact h
theorem sO{b:Int}{N:List Nd}{n:Nd}(hm:n.mul.all co=true)(hb:(N.length:Int)<b):iv b (N,false) n=(N++[n],false):=by
 unfold iv
 rw[if_neg]
 rintro(h|h)
 simp only at h;omega
 rw[hm]at h;cases h
theorem mT{b:Int}{s:Wk}{n:Nd}(hb:(s.1.length:Int)=b):(iv b s n).2=true:=by
 unfold iv;rw[if_pos (.inl hb)]
theorem Av{n:Nat}{r:Rw}(h:ROk n r):(eP r).all co=true:=by
 rw[List.all_append,h.ms,Bool.true_and]
 have h1:bk r.tm.xs≤1000000:=by
  have:=pC (xs:=r.tm.xs) (Small.of h.tm).xs (cQ _)
  rwa[List.take_length]at this
 show(co (bk r.tm.xs:Int)&&true)=true
 rw[Bool.and_true]
 exact Kc.2 ⟨by omega,by omega⟩
theorem vC{b:Int}: ∀{f:Nat} {ts:List Tm} {N:List Nd},Fs ts→15≤f+ts.length→(N.length:Int)≤b→
    (∀z,jT f ts=some z→(N.length+(z.1++z.2).length:Int)≤b→jg b f ts (N,false)=(N++(z.1++z.2),false))∧
    ((∀z,jT f ts=some z→b<(N.length+(z.1++z.2).length:Int))→(jg b f ts (N,false)).2=true)
 | 0,ts,N,h,hf,hb=>by have:=h.len;omega
 | f + 1,ts,N,h,hf,hb=>by
  rw[jT,jg]
  simp only[Bool.false_eq_true,if_false]
  cases ht:fM ts with
  | some i=>
   obtain⟨_,hi,hs⟩:=lJ ht
   have hx:=e6 hs
   simp only
   by_cases hl:ts.length=14
   have e:(jg b f (ts++[(aC ts (ts.getD i default)).1]) (eh ts (iv b (N,false) (dS i)))).2=true:=by
    have:(eh ts (iv b (N,false) (dS i))).2=true:=by unfold eh;rw[if_pos hl]
    rw[ij this];exact this
   rw[if_pos hl]
   exact⟨fun z hz=>(by cases hz),fun _=>e⟩
   rw[if_neg hl]
   have hfs:=h.snoc hx hl
   by_cases hN:(N.length:Int)<b
   have e:eh ts (iv b (N,false) (dS i))=(N++[dS i],false):=by
    rw[sO Z hN];unfold eh;rw[if_neg hl]
   rw[e]
   obtain⟨q1,q2⟩:=vC (f:=f) (N:=N++[dS i]) (b:=b) hfs (by rw[cp,du];omega) (by rw[cp,du];omega)
   refine⟨fun z hz hzl=>?_,fun hno=>?_⟩
   obtain⟨y,hy,rfl⟩:=Option.map_eq_some_iff.1 hz
   rw[q1 y hy (by simp only[cp,dW,du,List.length_nil]at hzl ⊢;omega)]
   simp
   refine q2 fun y hy=>?_
   have:=hno (dS i::y.1,y.2) (by rw[hy];rfl)
   simp only[cp,dW,du,List.length_nil]at this ⊢;omega
   have e:(eh ts (iv b (N,false) (dS i))).2=true:=by
    unfold eh;rw[if_neg hl];exact mT (by show(N.length:Int)=b;omega)
   rw[ij e]
   refine⟨fun z hz hzl=>?_,fun _=>e⟩
   obtain⟨y,hy,rfl⟩:=Option.map_eq_some_iff.1 hz
   simp only[cp,dW]at hzl;omega
  | none=>
   simp only
   by_cases hr:(dj ts).2=true
   rw[if_pos hr,if_pos hr]
   have hm:=(td h hr).1
   refine⟨fun z hz hzl=>?_,fun hno=>?_⟩
   simp only[dL]at hz;subst hz
   simp only[cp,dW,List.length_nil]at hzl
   rw[sO hm (by omega)];rfl
   have:=hno _ Z
   simp only[cp,dW,List.length_nil]at this
   exact mT (by show(N.length:Int)=b;omega)
   rw[if_neg hr,if_neg hr]
   cases hc:eQ ts with
   | none=>exact⟨fun z hz=>(by cases hz),fun _=>rfl⟩
   | some r=>
    obtain⟨hro,hsr⟩:=j5 h hc
    have hx:=e6 hsr
    simp only
    by_cases ho:(aL (aC ts r.tm).1).2=true
    rw[if_pos ho,if_pos ho]
    by_cases hl:ts.length=14
    have e:(eh ts (iv b (N,false) (dn (aC ts r.tm).1))).2=true:=by unfold eh;rw[if_pos hl]
    rw[if_pos hl,ij e]
    exact⟨fun z hz=>(by cases hz),fun _=>j8 e⟩
    rw[if_neg hl]
    have hfs:=h.snoc hx hl
    by_cases hN:(N.length:Int)<b
    have e:eh ts (iv b (N,false) (dn (aC ts r.tm).1))=(N++[dn (aC ts r.tm).1],false):=by
     rw[sO Z hN];unfold eh;rw[if_neg hl]
    rw[e]
    have hb2:((N++[dn (aC ts r.tm).1]).length:Int)≤b:=by rw[cp,du];omega
    obtain⟨q1,q2⟩:=vC (f:=f) (N:=N++[dn (aC ts r.tm).1]) hfs (by rw[cp,du];omega) hb2
    refine⟨fun z hz hzl=>?_,fun hno=>?_⟩
    obtain⟨y,hy,rfl⟩:=Option.map_eq_some_iff.1 hz
    simp only[cp,dW,du,List.length_nil]at hzl
    rw[q1 y hy (by simp only[cp,dW,du,List.length_nil];omega)]
    rw[sO (Av hro) (by simp only[cp,dW,du,List.length_nil];omega)]
    simp
    cases hy:jT f (ts++[(aC ts r.tm).1])with
    | none=>exact j8 (q2 fun y hy'=>by rw[hy]at hy';cases hy')
    | some y=>
     have h1:=hno _ (by rw[hy];rfl)
     simp only[cp,dW,du,List.length_nil]at h1
     by_cases hle:((N++[dn (aC ts r.tm).1]).length+(y.1++y.2).length:Int)≤b
     have h2:=q1 y hy hle
     simp only[cp,dW,du,List.length_nil]at hle
     rw[h2]
     refine mT ?_
     simp only[cp,dW,du,List.length_nil];omega
     exact j8 (q2 fun y' hy'=>by rw[hy]at hy';simp only[dL]at hy';subst hy';omega)
    have e:(eh ts (iv b (N,false) (dn (aC ts r.tm).1))).2=true:=by
     unfold eh;rw[if_neg hl];exact mT (by show(N.length:Int)=b;omega)
    rw[ij e]
    refine⟨fun z hz hzl=>?_,fun _=>j8 e⟩
    obtain⟨y,hy,rfl⟩:=Option.map_eq_some_iff.1 hz
    simp only[cp,dW]at hzl;omega
    rw[if_neg ho,if_neg ho]
    refine⟨fun z hz hzl=>?_,fun _=>rfl⟩
    split at hz<;>cases hz
def cz(s:Sq)(b:Int):List Nd×Bool:=if(aL s.goal).2=true then
    match jT (15-(s.facts.length+1)) (s.facts++[(aL s.goal).1])with
    | none=>([],false)
    | some z=>if((z.1++z.2).length:Int)≤b then(z.1++z.2,true)else([],false)
  else([],false)
def kB(b:Int):Bool:=decide (1≤b)&&decide (b≤60)
def jm(s:Sq)(b:Int):List Nd×Bool:=if(dF s&&kB b)=true then cz s b else([],false)
def zg(ss:List Sq):Bool:=ss.all dF&&decide ((ss.length:Int)≤60)
def i5(b:Int):List Sq→List (List Nd)
  | []=>[]
  | s::ss=>if(cz s b).2=true then(cz s b).1::i5 b ss else[]
theorem u5{b:Int}: ∀{ss:List Sq},(∀s∈ss,(cz s b).2=true)→i5 b ss=ss.map fun s=>(cz s b).1
 | [],_=>rfl
 | s::ss,h=>by rw[i5,if_pos (h s (by simp)),u5 fun x hx=>h x (by simp[hx])];rfl
theorem u4{b:Int}: ∀{ss rs:List Sq},(∀s∈ss,(cz s b).2=true)→i5 b (ss++rs)=(ss.map fun s=>(cz s b).1)++i5 b rs
 | [],_,_=>rfl
 | s::ss,rs,h=>by rw[List.cons_append,i5,if_pos (h s (by simp)),u4 fun x hx=>h x (by simp[hx])];rfl
theorem yS{b:Int}{ss:List Sq}{i:Nat}(hi:i<ss.length)(h: ∀j (hj:j<ss.length),j<i→(cz ss[j] b).2=true)(h2:(cz (ss.getD i default) b).2=false) :
    i5 b ss=(ss.take i).map fun s=>(cz s b).1:=by
 conv=>lhs;rw[←List.take_append_drop i ss]
 rw[u4 (fun s hs=>?_),List.drop_eq_getElem_cons hi,←aw hi,i5,if_neg (by rw[h2];decide),List.append_nil]
 obtain⟨j,hj,rfl⟩:=List.mem_iff_getElem.1 hs
 rw[List.length_take]at hj
 rw[List.getElem_take]
 exact h j (by omega) (by omega)
theorem sr{b:Int}{ss:List Sq}(h: ∀j (hj:j<ss.length),(cz ss[j] b).2=true):i5 b ss=ss.map fun s=>(cz s b).1:=u5 fun s hs=>by
 obtain⟨j,hj,rfl⟩:=List.mem_iff_getElem.1 hs
 exact h j hj
theorem nX{t:Tm}(h:t.ok=true)(hg: ¬bk t.xs<2):(bX t).2=true:=by rw[←ga h,fO,if_neg hg]
variable{xs ys:List Int}
theorem Ix:MQ h1 h2 186 [bO xs,bO ys] [] (Plain (eB (decide (xs=ys)))):=by
 refine aB ?_ Z
 refine jB 26 h1 h2 Tryz.func186 Z fun O hF=>?_
 have hl:xs.length≤L:=by simpa[As.fact,A.fact,M.fact,D.fact,Ds.fact]using hF.1.1
 have hl2:ys.length≤L:=by simpa[As.fact,A.fact,M.fact,D.fact,Ds.fact]using hF.2.1.1
 refine ac (js Z (jn (ae (ac (js Z (cW Z (js Z (cW Z (js Z (jn (zc Z (fun z10=>?_) (fun z10=>?_))))))))))))
 try simp only[bo]at z10
 refine ac (js Z (jr ?_))
 refine eR Z ?_
 rw[decide_eq_false (fun e=>by subst e;simp at z10)]
 try simp only[bo]at z10
 refine af (ae (ac (js Z (jn (ak (ap (X:=Nat) (fun i=>⟨[(0,bO xs),(1,bO ys),(5,eI i)],[]⟩) (fun i=>i≤xs.length∧∀j,j<i→xs[j]? = ys[j]?) (fun i=>xs.length-i) 0 (Ent.env ⟨Z,Z,Z,tv⟩) ?_ (fun i hi=>?_)))))))
 exact⟨cG _,fun j hj=>absurd hj (Nat.not_lt_zero j)⟩
 refine ae (ac (jb Z (cW Z (js Z (jn (zc Z (fun z14=>?_) (fun z14=>?_)))))))
 try simp only[bo]at z14
 refine af (ae (ak (ae (fJ [_,_,_,_,_,_,_,_,_] [p0,p0,pz [0,1],pz [0,1,2],p0,p0,pz [4,5],pz [4,5,6],pz (rg 0 8)] [] [_] (kc Z (kc Z (ai (vN Z) (kc Z (kc Z (kc Z (ai (vN Z) (kc Z (kc Z trivial))))))))) ?_))))
 refine zc Z (fun z25=>?_) (fun z25=>?_)
 try simp only[bo]at z25
 refine ac (js Z (jr ?_))
 refine eR Z ?_
 rw[decide_eq_false (fun e=>by subst e;simp at z25)]
 try simp only[bo]at z25
 refine af (ag (js Z (ji Z (js Z (jn ?_)))))
 refine⟨i+1,Ent.env ⟨Z,Z,Z,tv⟩,⟨by omega,fun j hj=>?_⟩,by omega⟩
 rcases Nat.lt_or_ge j i with h|h
 exact hi.2 j h
 obtain rfl:j=i:=by omega
 rw[aw (by omega),aw (by omega)]at z25
 rw[List.getElem?_eq_getElem (by omega),List.getElem?_eq_getElem (by omega),z25]
 try simp only[bo]at z14
 refine aR (ac (js Z (jr ?_)))
 refine eR Z ?_
 have e:xs=ys:=List.ext_getElem? fun j=>by
  rcases Nat.lt_or_ge j i with h|h
  ·
   exact hi.2 j h
  ·
   rw[List.getElem?_eq_none (by omega),List.getElem?_eq_none (by omega)]
 rw[decide_eq_true e]
variable{a:Tm}
theorem F9{b:Tm}(h:a.c=b.c):MQ h1 h2 183 [ptr a.cells,ptr b.cells] [] (Plain (eB (decide (a=b)))):=by
 refine aB ?_ Z
 refine jB 25 h1 h2 Tryz.func183 Z fun O hF=>?_
 refine ac (js Z (jn (ae (zd [_,_,_,_,_,_,_,_,_,_,_,_,_,_,_,_,_,_,_,_,_] [p0,pz [0],pz [0,1],pz [0,1,2],p0,pz [4],pz [4,5],pz [4,5,6],pz (rg 0 8),pz (rg 0 9),pz (rg 0 10),pz (rg 0 11),pz (rg 0 12),pz (rg 0 13),pz (rg 0 10),pz (rg 0 10++[14]),pz (rg 0 10++[14,15]),pz (rg 0 10++[14,15,16]),pe (rg 0 18) 0,pn (rg 0 19) 1 1,pn (rg 0 20) 1 1] [18] [_,_] (k4 Z (k4 Z (ai ((V Z).cast (v':=eB true) (by rw[decide_eq_true h])) (k4 Z (k4 Z (kc Z (ai (bg O (B0:=24000) Z Z Z Z (Ix h1 h2) (ab Z) Z Z Z Z Z) (ai (aV O Z Z Z Z Z) (kc Z trivial))))))))) ?_))))
 refine dJ ?_
 refine eR Z ?_
 rw[show decide (a=b)=decide (a.xs=b.xs)from decide_eq_decide.2 ⟨fun e=>by rw[e],fun e=>by cases a;cases b;simp_all⟩]
theorem Ga{b:Tm}(h: ¬a.c=b.c):MQ h1 h2 183 [ptr a.cells,ptr b.cells] [] (Plain (eB (decide (a=b)))):=by
 refine aB ?_ Z
 refine jB 25 h1 h2 Tryz.func183 Z fun O hF=>?_
 refine ac (js Z (jn (ae (zd [_,_,_,_,_,_,_,_,_,_,_,_,_,_,_,_,_,_,_,_,_] [p0,pz [0],pz [0,1],pz [0,1,2],p0,pz [4],pz [4,5],pz [4,5,6],pz (rg 0 8),pz (rg 0 9),pz (rg 0 10),pz (rg 0 11),pz (rg 0 12),pz (rg 0 13),pz (rg 0 10),pz (rg 0 10++[14]),pz (rg 0 10++[14,15]),pz (rg 0 10++[14,15,16]),pz (rg 0 18),pz (rg 0 19),pz (rg 0 20)] [] [_] (k4 Z (k4 Z (ai ((V Z).cast (v':=eB false) (by rw[decide_eq_false h])) (kc Z (ai ⟨Z,Z⟩ (ai ⟨Z,Z⟩ (ai ⟨Z,Z⟩ (ai ⟨Z,Z⟩ (ai ⟨Z,Z⟩ (ai ⟨Z,Z⟩ (ai ⟨Z,Z⟩ (ai ⟨Z,Z⟩ (ai ⟨Z,Z⟩ (ai (aI O Z Z Z Z Z) (kc Z trivial))))))))))))))) ?_))))
 refine dJ ?_
 refine eR Z ?_
 rw[decide_eq_false (fun e=>h (by rw[e]))]
theorem Iz{L:Nat}(h1:4096≤L)(h2:L≤1073741824){a b:Tm}:MC Tryz.prog L 183 [ptr a.cells,ptr b.cells] [] (Plain (eB (decide (a=b)))):=by
 by_cases h:a.c=b.c
 exact F9 h1 h2 h
 exact Ga h1 h2 h
variable{ts:List Tm}{t:Tm}
theorem DM:MQ h1 h2 172 [bM ts,ptr t.cells] [] (Plain (eB (gX ts t))):=by
 refine aB ?_ Z
 refine jB 17 h1 h2 Tryz.func172 Z fun O hF=>?_
 have hl:ts.length≤L:=by simpa[As.fact,A.fact,M.fact,D.fact,Ds.fact]using hF.1.1
 refine ac (js Z (jn (ae (ac (js Z (jn (ak (ap (X:=Nat) (fun i=>⟨[(0,bM ts),(1,ptr t.cells),(5,eI i)],[]⟩) (fun i=>i≤ts.length∧∀j (h:j<ts.length),j<i→decide (ts[j]=t)=false) (fun i=>ts.length-i) 0 (Ent.env ⟨Z,Z,Z,tv⟩) ?_ (fun i hi=>?_)))))))))
 exact⟨cG _,fun j h hj=>absurd hj (Nat.not_lt_zero j)⟩
 refine ae (ac (jb Z (cW Z (js Z (jn (zc Z (fun z9=>?_) (fun z9=>?_)))))))
 try simp only[bo]at z9
 refine af (ae (ak (ac (jb Z (jh Z Z (js Z (lo Z (Iz (a:=ts.getD i default) (b:=t) h1 h2) 17000 Z (jn (zc Z (fun z16=>?_) (fun z16=>?_))))))))))
 try simp only[bo]at z16
 refine ac (js Z (jr ?_))
 refine eR Z ?_
 rw[aw (by omega)]at z16
 rw[show gX ts t=true from List.any_eq_true.2 ⟨ts[i],List.getElem_mem _,decide_eq_true z16⟩]
 try simp only[bo]at z16
 refine af (ag (js Z (ji Z (js Z (jn ?_)))))
 refine⟨i+1,Ent.env ⟨Z,Z,Z,tv⟩,⟨by omega,fun j h hj=>?_⟩,by omega⟩
 by_cases e:j=i
 subst e;rw[aw h]at z16;exact decide_eq_false z16
 exact hi.2 j h (by omega)
 try simp only[bo]at z9
 refine aR (ac (js Z (jr ?_)))
 refine eR Z ?_
 rw [show gX ts t=false from List.any_eq_false.2 fun x hx=>by
  obtain⟨j,hj,rfl⟩:=List.mem_iff_getElem.1 hx
  simpa using hi.2 j hj (by omega)]
variable{b:Int}
theorem xi{a:Int}(ha:0≤a∧a≤4000000000000)(hb: -4000000000000≤b∧b≤4000000000000):MQ h1 h2 187 [eI a,eI b] [] (Plain (eI (Nat.gcd a.natAbs b.natAbs))):=by
 refine aB ?_ Z
 refine jB 18 h1 h2 Tryz.func187 Z fun O hF=>?_
 refine ac (js Z (aN (jb Z (ji Z (lo Z (GY h1 h2) 10000 Z (js Z (jn (ae (ak (ap (X:=Nat×Nat) (fun z=>⟨[(0,eI z.1),(1,eI z.2)],[]⟩) (fun z=>Nat.gcd z.1 z.2=Nat.gcd a.natAbs b.natAbs∧z.1≤4000000000000∧z.2≤4000000000000) (fun z=>z.2) (a.natAbs,b.natAbs) (Ent.env ⟨congrArg (fun z=>some (eI z)) (show a=(a.natAbs:Int) by omega),congrArg (fun z=>some (eI z)) (Ae b),tv⟩) ?_ (fun z hi=>?_)))))))))))
 exact⟨Z,by show a.natAbs≤_;omega,by show b.natAbs≤_;omega⟩
 have hz: -4000000000000≤(z.1:Int).tmod z.2∧(z.1:Int).tmod z.2≤4000000000000:=by have:=Nat.mod_le z.1 z.2;rw[←Int.ofNat_tmod];omega
 refine ae (ac (jb Z (jn (zc Z (fun z11=>?_) (fun z11=>?_)))))
 try simp only[bo]at z11
 refine af (ak (ac (jb Z (st (vR Z Z Z Z) Z (js Z (aN (jb Z (jn (ag (jb Z (jn ?_)))))))))))
 have hm:z.1%z.2<z.2:=Nat.mod_lt _ (by omega)
 refine⟨(z.2,z.1%z.2),Ent.env ⟨Z,Z,tv⟩,⟨?_,hi.2.2,by show z.1%z.2≤4000000000000;omega⟩,hm⟩
 show Nat.gcd z.2 (z.1%z.2)=_
 rw[←hi.1,Nat.gcd_comm z.2,←Nat.gcd_rec,Nat.gcd_comm]
 try simp only[bo]at z11
 refine aR (ac (jb Z (jr ?_)))
 refine eR Z ?_
 have hz0:z.2=0:=by omega
 rw[←hi.1,hz0,Nat.gcd_zero_right]
theorem IG{r:Rw}(h:r.tm.ok=true):MQ h1 h2 149 [ptr r.cells] [] (Plain (cR r.tm)):=by
 refine MC.data (jB 18 h1 h2 Tryz.func149 Z fun O hF=>?_)
 refine ac (jl Z (jn (ae (rk [_,_,_,_,_,_,_,_,_,_,_,_,_,_,_] [p0,pz [0],pz [0,1],pz [0,1,2],p0,pz [4],pz [4,5],pz [4,5,6],pe [0,1,2,3,4,5,6,7] 0,pn [0,1,2,3,4,5,6,7,8] 1 1,pn [0,1,2,3,4,5,6,7,8,9] 1 1,pn [0,1,2,3,4,5,6,7,8,9] 1 2,pn [] 0 1,pe [0,1,2,3,4,5,6,7,8,9,10,12] 1,pn [0,1,2,3,4,5,6,7,8,9,10,11,12,13] 2 2] [8,13] 12 3 (.box [.d (.int .i64 0),.d .nils]) [_,_] [_] [] (kf Z Z Z (kf Z Z Z (kf Z Z Z (kf Z Z Z (kf Z Z Z (kf Z Z Z (kf Z Z Z (kf Z Z Z (ai (ai (au (az (bB O (B0:=15000) Z Z Z Z ((pO (c:=r.c) (xs:=r.xs) h1 h2).plain (u:=.tup [cR r.tm,eB true]) (by rw[lY,if_pos h])) (ab Z) Z Z Z Z Z)) (az (bB O (B0:=15000) Z Z Z Z ((pO (c:=r.c) (xs:=r.xs) h1 h2).plain (u:=.tup [cR r.tm,eB true]) (by rw[lY,if_pos h])) (ab Z) Z Z Z Z Z))) Z) (kf Z Z Z (kf Z Z Z (ai (kf Z Z Z (kg Z Z Z)) (ai (ai (ai (az (Eff.alloc O Z Z Z Z Z Z)) Z) (ai (az (Eff.alloc O Z Z Z Z Z Z)) Z)) (ai (ai (au trivial (az (eS Z Z Z))) Z) (ai (ai (au trivial (V Z)) Z) trivial))))))))))))))) ?_))))
 refine jw [3,2] Z (bJ ?_)
 refine ac (js Z (jo Z (jr ?_)))
 refine eR Z ?_
 exact .v (.agg (ax Z))
theorem H8{a:Nat}(hget:(ts.map Tm.cells)[a]? = some t.cells)(ht:Small t)(ht10:t.xs.length≤10):MQ h1 h2 171 [.c (.pt 0 a 0)] [(0,aD ts)] (aO (iG (bX t)) [(0,aD ts)]):=by
 refine MC.shift 500 Z (gk (jH 55 [500] h1 h2 Tryz.func171 Z fun O hF=>?_))
 refine ac (jl Z (js Z (aN (js Z (da O Z Z Z Z (zo (t:=t) h1 h2 ht.xs) (.cons (.c (.pe Z hget)) .nil) Z Z Z Z Z (B0:=10000) Z (js Z (jn (ae (ac (jb Z (jn (zc Z (fun z11=>?_) (fun z11=>?_)))))))))))))
 try simp only[bo]at z11
 refine ac (js Z (jo Z (js Z (jr ?_))))
 refine eR Z ?_
 refine⟨?_,Z⟩
 rw[show bX t=(⟨0,[]⟩,false)from if_pos (by omega)]
 exact .tup (.cons (.agg (.cons .d (.cons .nils .nil))) (.cons (.c .d) .nil))
 try simp only[bo]at z11
 refine af (ac ?_)
 have hxl:=ht10
 obtain⟨g,hg⟩: ∃g:Int,g=(bk t.xs:Int):=⟨_,rfl⟩
 rw[←hg]
 rw[←hg]at z11
 refine hp (bz O Z Z Z) Z (js Z (jn (ae (ac (js Z (jn (ak (ap (X:=Nat) (fun i=>⟨[(0,.c (.pt 500 a 0)),(2,.c (.pt 2 0 0)),(4,eI g),(5,.c (.rs 900 0 i)),(6,eI i)],[(2,.box [.d (.int .i64 0),.d .nils]),(900,aE ((t.xs.map fun x=>x.tdiv g).take i)),(500,aD ts)]⟩) (fun i=>i≤t.xs.length) (fun i=>t.xs.length-i) 0 ((aa 13 900 Z Z).trans (Ent.to ⟨Z,Z,Z,Z,Z,tv⟩ Z)) ?_ (fun i hi=>?_)))))))))
 exact cG _
 refine ae (ac (jd Z (st (bc O (ex:=t.cells) Z Z Z Z hget Z) Z (cW Z (js Z (jn (zc Z (fun z20=>?_) (fun z20=>?_))))))))
 try simp only[bo]at z20
 refine af (ae (ak (ag ?_)))
 have hx:=ej (b:=g) (IZ.1 (List.all_eq_true.1 ht.xs _ (List.getElem_mem (show i<t.xs.length by omega))))
 rw[←aw (by omega)]at hx
 refine jd Z (st (bc O (ex:=t.cells) Z Z Z Z hget Z) Z (js Z (jh Z Z (jb Z (st (fU O Z Z Z Z (by omega) (by omega) (by omega)) Z (hp (bz O Z Z Z) Z (hp (cu (zs:=((t.xs.map fun x=>x.tdiv g).take (i+1)).map fun n=>[.int .i64 n]) (n:=i+1) O Z Z Z Z Z Z Z Z Z Z Z Z Z Z Z Z (.row Z (by simp;omega)) Z Z (by decide) Z (by simp;omega) (by simp;omega) (by rw[List.take_succ_eq_append_getElem (by simp;omega),List.map_append,List.getElem_map,aw (by omega)];rfl) (by simp;omega)) Z (js Z (jn (ag (js Z (ji Z (js Z (jn ?_))))))))))))))
 refine⟨i+1,((ah [2,34,500] (e':=[(0,_),(2,_),(4,_),(5,_),(6,_)]) Z Z ⟨Z,Z,Z,Z,Z,tv⟩ Z).trans (aa 34 900 Z Z)),by omega,by omega⟩
 try simp only[bo]at z20
 refine aR (ac ?_)
 have z0:=IZ.1 ht.c
 have hq:=ej (b:=g) z0
 have hr:=iM (b:=g) z0
 obtain rfl:i=t.xs.length:=by omega
 rw[List.take_of_length_le (by simp)]
 refine an (Ent.freeze 900 (e':=[(2,_),(4,_),(5,_),(0,_)]) Z (.cons Z (.keep Z) (.cons Z (.keep Z) (.cons Z (.c (.row Z (by simp))) (fe [0] Z)))) (cb Z (.skip (cw Z .nil)))) ?_
 refine jc Z (st (bc O (ex:=t.cells) Z Z Z Z hget Z) Z (js Z (st (vQ Z Z Z Z) Z (js Z (jn (ae (ac (jc Z (st (bc O (ex:=t.cells) Z Z Z Z hget Z) Z (js Z (st (vR Z Z Z Z) Z (js Z (jn (zc Z (fun z47=>?_) (fun z47=>?_)))))))))))))))
 try simp only[bo]at z47
 refine ag (js Z (ji Z (js Z (aN (jb Z (aj O Z Z Z Z (pO (c:=_) (xs:=t.xs.map fun x=>x.tdiv g) h1 h2) (ab Z) Z Z Z Z (B0:=53000) Z Z (jb Z (jo Z (js Z (jr ?_))))))))))
 refine eR Z ?_
 refine⟨?_,Z⟩
 rw[show bX t=lY (t.c.tdiv g-1) (t.xs.map fun x=>x.tdiv g) by rw[hg,bX,if_neg (by omega),if_pos (by rw[←hg];exact z47)]]
 exact .tup (.cons (.agg (ax Z)) (.cons (.c .d) .nil))
 try simp only[bo]at z47
 refine af (ac (jb Z (aj O Z Z Z Z (pO (c:=_) (xs:=t.xs.map fun x=>x.tdiv g) h1 h2) (ab Z) Z Z Z Z (B0:=53000) Z Z (jb Z (jo Z (js Z (jr ?_)))))))
 refine eR Z ?_
 refine⟨?_,Z⟩
 rw[show bX t=lY (t.c.tdiv g) (t.xs.map fun x=>x.tdiv g) by rw[hg,bX,if_neg (by omega),if_neg (by rw[←hg];omega)]]
 exact .tup (.cons (.agg (ax Z)) (.cons (.c .d) .nil))
theorem Gc{a:Nat}(hget:(ts.map Tm.cells)[a]? = some t.cells)(ht:t.ok=true):MQ h1 h2 147 [.c (.rs 0 0 ts.length),.c (.pt 0 a 0)] [(0,aD ts)] (aO (iG (aC ts t)) [(0,aD ts)]):=by
 refine MC.shift 500 Z (gk (jH 35 [500] h1 h2 Tryz.func147 Z fun O hF=>?_))
 have hs:=Small.of ht
 have hc:=IZ.1 hs.c
 have hr:=iM (a:=t.c) (b:=bk t.xs) hc
 refine ac (jl Z (js Z (aN (js Z (da O Z Z Z Z (zo (t:=t) h1 h2 hs.xs) (.cons (.c (.pe Z hget)) .nil) Z Z Z Z Z (B0:=11000) Z (js Z (jf [6,5,4,0,1] Z (jn (ae (ac (jc Z (jf [13,6,5,4,0,1] Z (ar 7 Z Z Z (fun hx=>nz hx Z (nz hx Z (nz hx Z (ny hx (bc O (ex:=t.cells) Z Z Z Z hget Z) Z (nz hx Z (ny hx (vR Z Z Z Z) Z (nz hx Z (AN.nil)))))))) Z Z (st (ay O Z Z Z Z Z) Z (jf [21,5,4,0,1] Z (jn (zc Z (fun z21=>?_) (fun z21=>?_))))))))))))))))))
 try simp only[bo]at z21
 refine ac (js Z (jf [22,5,4,0,1] Z (jo Z (js Z (jr ?_)))))
 refine eR Z ?_
 refine⟨?_,Z⟩
 have hn:bk t.xs<2∨t.c.tmod (bk t.xs)=0:=by by_cases h9:bk t.xs<2;exact .inl h9;refine .inr ?_;simpa[show¬(bk t.xs:Int)<2 by omega]using z21
 rw[show aC ts t=BU from if_pos hn]
 exact .tup (.cons (.agg (.cons .d (.cons .nils .nil))) (.cons (.c .d) .nil))
 try simp only[bo]at z21
 refine af (ac ?_)
 have hn: ¬(bk t.xs<2∨t.c.tmod (bk t.xs)=0):=by intro h9;rcases h9 with h9|h9<;>simp[h9]at z21<;>omega
 have hok:=nX ht (fun h=>hn (.inl h))
 refine js Z (jf [24,5,4,0,1] Z (ao O [500] (bin:=[aD ts]) Z Z Z Z (H8 h1 h2 hget hs (pW ht)) Z Z Z Z Z Z (B0:=26000) Z Z (am ?_)))
 refine jc Z (jf [27,26,5,4,0,1] Z (jl Z (jo Z (js Z (jf [8,7,5,4,0,1] Z (jn (ae (jw [8,7,4,0,1] Z ?_))))))))
 rw[hok]
 refine zd [_,_,_,_,_,_,_,_,_] [pn [] 0 1,p0,pz [1],pz [1,2],pe [1,2,3] 0,pn (rg 1 4) 1 2,pn (rg 1 5) 1 2,pe (rg 0 5) 1,pn (rg 0 8) 2 2] [4,7] [_,_,_] (ai (kc Z (V Z)) (kc Z (kc Z (kc Z (ai (bg O (B0:=33000) Z Z Z Z (DM (ts:=ts) (t:=(bX t).1) h1 h2) (.cons (.c (.whole Z (bA _).symm)) (.cons (.c (.pb (cs:=Tm.cells (bX t).1) Z (ax Z))) .nil)) Z Z Z Z Z) (ai (kc Z (V Z)) (ai (ai (aV O Z Z Z Z Z) (aV O Z Z Z Z Z)) (ai (eS Z Z Z) (kc Z trivial))))))))) ?_
 refine jw [5,7,4,1] Z (bJ ?_)
 refine dJ ?_
 refine eR Z ?_
 refine⟨?_,Z⟩
 rw[show aC ts t=((bX t).1,!gX ts (bX t).1) by unfold aC;rw[if_neg hn,hok];rfl]
 exact .tup (.cons (.agg (ax Z)) (.cons (.c .d) .nil))
theorem Gb(ht:t.ok=true):MQ h1 h2 147 [.c (.rs 0 0 ts.length),ptr t.cells] [(0,aD ts)] (aO (iG (aC ts t)) [(0,aD ts)]):=by
 refine MC.shift 500 Z (gk (jH 35 [500] h1 h2 Tryz.func147 Z fun O hF=>?_))
 have hs:=Small.of ht
 have hc:=IZ.1 hs.c
 have hr:=iM (a:=t.c) (b:=bk t.xs) hc
 refine ac (jl Z (js Z (aN (js Z (lo Z (zo (t:=t) h1 h2 hs.xs) 11000 Z (js Z (jf [6,5,4,0,1] Z (jn (ae (ac (jc Z (jf [13,6,5,4,0,1] Z (ar 7 Z Z Z (fun hx=>nz hx Z (nz hx Z (nz hx Z (nz hx Z (nz hx Z (ny hx (vR Z Z Z Z) Z (nz hx Z (AN.nil)))))))) Z Z (st (ay O Z Z Z Z Z) Z (jf [21,5,4,0,1] Z (jn (zc Z (fun z21=>?_) (fun z21=>?_))))))))))))))))))
 try simp only[bo]at z21
 refine ac (js Z (jf [22,5,4,0,1] Z (jo Z (js Z (jr ?_)))))
 refine eR Z ?_
 refine⟨?_,Z⟩
 have hn:bk t.xs<2∨t.c.tmod (bk t.xs)=0:=by by_cases h9:bk t.xs<2;exact .inl h9;refine .inr ?_;simpa[show¬(bk t.xs:Int)<2 by omega]using z21
 rw[show aC ts t=BU from if_pos hn]
 exact .tup (.cons (.agg (.cons .d (.cons .nils .nil))) (.cons (.c .d) .nil))
 try simp only[bo]at z21
 refine af (ac ?_)
 have hn: ¬(bk t.xs<2∨t.c.tmod (bk t.xs)=0):=by intro h9;rcases h9 with h9|h9<;>simp[h9]at z21<;>omega
 have hok:=nX ht (fun h=>hn (.inl h))
 refine js Z (jf [24,5,4,0,1] Z (aj O Z Z Z Z (JV (t:=t) h1 h2 hs) (ab Z) Z Z Z Z (B0:=26000) Z Z (jc Z (jf [27,26,5,4,0,1] Z (jl Z (jo Z (js Z (jf [8,7,5,4,0,1] Z (jn (ae (jw [8,7,4,0,1] Z ?_)))))))))))
 rw[hok]
 refine zd [_,_,_,_,_,_,_,_,_] [pn [] 0 1,p0,pz [1],pz [1,2],pe [1,2,3] 0,pn (rg 1 4) 1 2,pn (rg 1 5) 1 2,pe (rg 0 5) 1,pn (rg 0 8) 2 2] [4,7] [_,_,_] (ai (kc Z (V Z)) (kc Z (kc Z (kc Z (ai (bg O (B0:=33000) Z Z Z Z (DM (ts:=ts) (t:=(bX t).1) h1 h2) (.cons (.c (.whole Z (bA _).symm)) (.cons (.c (.pb (cs:=Tm.cells (bX t).1) Z (ax Z))) .nil)) Z Z Z Z Z) (ai (kc Z (V Z)) (ai (ai (aV O Z Z Z Z Z) (aV O Z Z Z Z Z)) (ai (eS Z Z Z) (kc Z trivial))))))))) ?_
 refine jw [5,7,4,1] Z (bJ ?_)
 refine dJ ?_
 refine eR Z ?_
 refine⟨?_,Z⟩
 rw[show aC ts t=((bX t).1,!gX ts (bX t).1) by unfold aC;rw[if_neg hn,hok];rfl]
 exact .tup (.cons (.agg (ax Z)) (.cons (.c .d) .nil))
abbrev nM(rs:List Rw):A:=.c (.d (.slc 3 (rs.map Rw.cells)))
abbrev rz(rs:List Rw):B:=.row false 3 (rs.map Rw.cells)
abbrev Ks(r:Rw):A:=.agg (r.cells.map .d)
theorem uf{n i:Nat}:(List.replicate n [D.int .i64 0]).set (0+((i:Nat):Int).toNat) [D.int .i64 1]=(jq n i).map fun n=>[D.int .i64 n]:=by
 unfold jq
 rw[List.map_set,List.map_replicate,Nat.zero_add,Int.toNat_natCast]
theorem ID(hf:Fs ts):MQ h1 h2 173 [.c (.rs 0 0 ts.length)] [(0,aD ts)] (aO (nM (t5 ts)) [(0,aD ts)]):=by
 refine MC.shift 500 Z (gk (jH 46 [500] h1 h2 Tryz.func173 Z fun O hF=>?_))
 have hlen:=hf.len
 refine ac (js Z (aN (hp (aZ O Z Z Z Z Z Z Z Z Z Z Z) Z (am ?_))))
 refine js Z (jn (ae (ac (js Z (jn (ak (ap (X:=Nat) (fun i=>⟨[(0,.c (.rs 500 0 ts.length)),(3,.c (.rs 900 0 i)),(4,eI i)],[(900,rz (fB ts i)),(500,aD ts)]⟩) (fun i=>i≤ts.length) (fun i=>ts.length-i) 0 ((aa 7 900 Z Z).trans (Ent.to ⟨Z,Z,Z,tv⟩ Z)) ?_ (fun i hi=>?_))))))))
 exact cG _
 refine ae (ac (jb Z (db Z Z (js Z (jn (zc Z (fun z11=>?_) (fun z11=>?_)))))))
 try simp only[bo]at z11
 refine af (ae (ak (ae ?_)))
 have hget:(ts.map Tm.cells)[0+((i:Nat):Int).toNat]? = some (ts.getD i default).cells:=by rw[Nat.zero_add,Int.toNat_natCast,List.getElem?_map,List.getElem?_eq_getElem (by omega),aw (by omega)];rfl
 refine rk [_,_,_,_,_,_,_,_,_,_,_] [pn [] 0 1,pn [] 0 1,pn [0,1] 0 1,pn [0,1,2] 0 1,pn [0,1,2,3] 0 1,p0,pz [5],pe [5,6] 0,pn [0,1,2,3,4,5,6,7] 1 1,pn [] 0 1,pe [0,1,2,3,4,5,6,7,8,9] 1] [7,10] 9 5 (.box [.d (.int .i64 0),.d .nils,.d .nils]) [_,_] [_] [] (ai (kf Z Z Z (kg Z Z Z)) (ai (kf Z Z Z (kg Z Z Z)) (ai (ai (ai (au (vI Z Z) (vI Z Z)) Z) (ai (au (vI Z Z) (vI Z Z)) Z)) (ai (kf Z Z Z (kg Z Z Z)) (ai (ai (ai (au (bc O (ex:=(ts.getD i default).cells) Z Z Z Z hget Z) (bc O (ex:=(ts.getD i default).cells) Z Z Z Z hget Z)) Z) (ai (au (bc O (ex:=(ts.getD i default).cells) Z Z Z Z hget Z) (bc O (ex:=(ts.getD i default).cells) Z Z Z Z hget Z)) Z)) (kf Z Z Z (ai (ai (au (vI Z Z) (vI Z Z)) Z) (ai (ai (au (az (u9 O Z Z Z Z Z Z Z Z Z (by first|omega|(simp at *;omega)) (by first|omega|(simp at *;omega)) (by first|omega|(simp at *;omega)) (by first|omega|(dsimp only;omega)|(simp only[bo]at *;omega)) (by first|omega|(simp at *;omega)) Z Z Z Z)) (az (u9 O Z Z Z Z Z Z Z Z Z (by first|omega|(simp at *;omega)) (by first|omega|(simp at *;omega)) (by first|omega|(simp at *;omega)) (by first|omega|(dsimp only;omega)|(simp only[bo]at *;omega)) (by first|omega|(simp at *;omega)) Z Z Z Z))) Z) (kf Z Z Z (ai (ai (ai (az (Eff.alloc O Z Z Z Z Z Z)) Z) (ai (az (Eff.alloc O Z Z Z Z Z Z)) Z)) (ai (ai (au trivial (az (eS Z Z Z))) Z) trivial))))))))))) ?_
 refine jw [5,11,0,3,4] Z (bJ ?_)
 refine ae (ac (js Z (jn (ak (ap (X:=Nat) (fun j=>⟨[(0,.c (.rs 500 0 ts.length)),(3,.c (.rs 900 0 i)),(4,eI i),(5,.c (.pt 5 0 0)),(6,eI j)],[(5,.box [.d (.int .i64 (ts.getD i default).c),.rs 901 0 j,.rs 21 0 ts.length]),(21,.row true 1 (List.replicate ts.length [.int .i64 0])),(900,rz (fB ts i)),(500,aD ts),(901,aE (kp (ts.getD i default).xs j))]⟩) (fun j=>j≤10) (fun j=>10-j) 0 (((ah [5,21,900,500] (e':=[(0,_),(3,_),(4,_),(5,_),(6,_)]) Z Z ⟨Z,Z,Z,Z,Z,tv⟩ Z).trans (cf 5 901 1 true 1 Z Z Z)).trans (Ent.to ⟨Z,Z,Z,Z,Z,tv⟩ Z)) ?_ (fun j hi=>?_))))))
 exact cG _
 refine ae (ac (jb Z (jn (zc Z (fun z24=>?_) (fun z24=>?_)))))
 try simp only[bo]at z24
 refine af (ae (ak (kx [_,_,_,_,_,_,_,_,_,_,_] [pn [] 0 2,pn [0] 0 2,p0,p0,pz [2,3],p0,pe (rg 2 4) 0,pe (rg 2 5) 1,pe (rg 0 8) 2,pn (rg 0 9) 3 3,pe (rg 0 10) 3] [6,7,8,10] [_,_,_,_,_] [[],[],[901,34],[]] (ai (ka Z Z (ka Z Z (kw Z Z))) (ai (ka Z Z (ka Z Z (kw Z Z))) (ka Z Z (ka Z Z (ai (ai (vI Z Z) Z) (ka Z Z (ai (ai (az (bg O (B0:=34000) Z Z Z Z (Ea (t:=ts.getD i default) (i:=j) h1 h2 (by omega)) (.cons (.c (.pe Z hget)) (.cons (.c .d) .nil)) Z Z Z Z Z)) Z) (ai (ai (az (jG O Z Z Z Z Z Z Z Z Z Z Z Z Z)) Z) (ai (ai (dq (zs:=(kp (ts.getD i default).xs (j+1)).map fun n=>[.int .i64 n]) (n:=j+1) O Z Z Z Z Z Z Z Z Z Z Z Z Z Z Z Z (.row Z (by simp[eH])) Z Z (by decide) Z (by simp[eH];omega) (by simp[eH];omega) (by rw[wq,List.map_append];rfl) (by simp[eH]) Z) Z) (ka Z Z (ai (ai (az (eS Z Z Z)) Z) trivial))))))))))) ?_)))
 refine jw [24,23,0,3,4,5,6] Z (bJ ?_)
 refine ag (js Z (ji Z (js Z (jn ?_))))
 refine⟨j+1,((ah [5,21,900,500,35] (e':=[(0,_),(3,_),(4,_),(5,_),(6,_)]) Z Z ⟨Z,Z,Z,Z,Z,tv⟩ Z).trans (aa 35 901 Z Z)),by omega,by omega⟩
 try simp only[bo]at z24
 refine aR (ac ?_)
 obtain rfl:j=10:=by omega
 refine jc Z (db Z Z (hp (bL (ex:=[.int .i64 0]) (xs':=(jq ts.length i).map (fun n=>[D.int .i64 n])) O Z Z Z Z Z Z Z Z Z Z Z Z Z Z (by rw[Nat.zero_add,Int.toNat_natCast,List.getElem?_replicate,if_pos (by omega)]) uf) Z ?_))
 refine am ?_
 refine jn (ag (an (Ent.freeze 901 (e':=[(3,_),(5,_),(0,_),(4,_)]) Z (fe [3,5,0,4] Z) (.cons Z (.box (ck Z (.cons (.row Z (by simp[eH])) (fk Z)))) (cw Z (cw Z (cw Z (.skip .nil)))))) ?_))
 refine an (Ent.freeze 21 (e':=[(3,_),(5,_),(0,_),(4,_)]) Z (fe [3,5,0,4] Z) (.cons Z (.box (ck Z (ck Z (.cons (.row Z (by simp[gD])) .nil)))) (.skip (cw Z (cw Z .nil))))) ?_
 refine jb Z (hp (aZ O Z Z Z Z Z Z Z Z Z Z Z) Z (am ?_))
 refine hp (ko (own:=false) (zs:=(fB ts (i+1)).map Rw.cells) (n:=i+1) O Z (.row Z (by simp[ca])) (.whole Z Z (.inr ⟨Z,Z⟩)) (by simp) Z (by simp[ca];omega) (by simp[ca];omega) (by rw[oE,List.map_append];rfl) (by simp[ca])) Z (am ?_)
 refine js Z (jn (ag (js Z (ji Z (js Z (jn ?_))))))
 refine⟨i+1,((ah [44,500] (e':=[(0,_),(3,_),(4,_)]) Z Z ⟨Z,Z,Z,tv⟩ Z).trans (aa 44 900 Z Z)),by omega,by omega⟩
 try simp only[bo]at z11
 refine aR (ac (jb Z (jr ?_)))
 refine eR Z ?_
 refine⟨?_,Z⟩
 obtain rfl:i=ts.length:=by omega
 exact .v (.c (.whole Z (by simp[ca])))
theorem Ai{n m:Int}{xs ys:List Int}{i:Nat}:((iw n m xs ys (i+1)).map fun n=>[D.int .i64 n])[0+((i:Nat):Int).toNat]? = some [D.int .i64 (n*xs.getD i default+m*ys.getD i default)]:=by
 rw[Nat.zero_add,Int.toNat_natCast,jC,List.map_append,List.getElem?_append_right (by simp[bF])]
 simp[bF]
def nI(c0:Bool)(xs:List Int)(g:Int)(i:Nat):Bool:=c0&&(xs.take i).all fun x=>num (x.tdiv g)
theorem GA{c0:Bool}{xs:List Int}{g:Int}:nI c0 xs g 0=c0:=by simp[nI]
theorem sa{c0:Bool}{xs:List Int}{g:Int}{i:Nat}(h:i<xs.length):nI c0 xs g (i+1)=(nI c0 xs g i&&num ((xs.getD i default).tdiv g)):=by
 unfold nI
 rw[List.take_succ_eq_append_getElem h,List.all_append,aw h,Bool.and_assoc]
 simp
theorem CC{r:Rw}{g:Nat}:wX (nJ r g)=nI (nI (num (r.c.tdiv g)) r.xs g r.xs.length) r.ms g r.ms.length:=by
 simp[wX,nJ,nI,List.all_map,Function.comp_def]
theorem lr{a b B:Int}(h: -B≤a∧a≤B): -B≤a.tdiv b∧a.tdiv b≤B:=by
 have h1:(a.tdiv b).natAbs≤a.natAbs:=by rw[Int.natAbs_tdiv];exact Nat.div_le_self _ _
 omega
theorem nQ{a b:Int}{xs ys:List Int}{i:Nat}(h1:1≤a∧a≤1000000)(h2:1≤b∧b≤1000000)(hx: ∀k,-1000000≤xs.getD k default∧xs.getD k default≤1000000)(hy: ∀k,-1000000≤ys.getD k default∧ys.getD k default≤1000000) :
    ∀x∈iw a b xs ys i,-2000000000000≤x∧x≤2000000000000:=fun x h=>by
 obtain⟨k,_,rfl⟩:=pq h
 exact sU h1 h2 (hx k) (hy k)
theorem Dq{C:Int}{l:List Int}(hC: -2000000000000≤C∧C≤2000000000000)(hl: ∀x∈l,-2000000000000≤x∧x≤2000000000000):bk (C::l)≤2000000000000:=qp fun x hx=>by
 rcases List.mem_cons.1 hx with rfl|hx
 omega
 have:=hl x hx;omega
theorem Gi{a b:List Int}(ha: ∀x∈a,-2000000000000≤x∧x≤2000000000000)(hb: ∀x∈b,-2000000000000≤x∧x≤2000000000000): ∀x∈a++b,-2000000000000≤x∧x≤2000000000000:=fun x hx=>by
 rcases List.mem_append.1 hx with hx|hx
 exact ha x hx
 exact hb x hx
theorem Af{xs:List Int}{g:Int}{i:Nat}(h:i<xs.length):((oy xs g (i+1)).map fun n=>[D.int .i64 n])[0+((i:Nat):Int).toNat]? = some [D.int .i64 ((xs.getD i default).tdiv g)]:=by
 rw[Nat.zero_add,Int.toNat_natCast,←jA h,List.map_set,List.getElem?_set]
 simp[mr,h]
theorem pp{xs:List Int}{i:Nat}(h:i<xs.length):xs.getD i default∈xs:=by rw[aw h];exact List.getElem_mem h
variable{n k:Nat}
theorem DL{p q:Rw}(hp:ROk n p)(hq:ROk n q)(hk:k<10)(hx:0<p.xs.getD k default)(hy:q.xs.getD k default<0)(hn:n≤1000):MQ h1 h2 184 [ptr p.cells,ptr q.cells,eI k] [] (Plain (.tup [Ks (ef p q k),eB (wX (ef p q k))])):=by
 refine MC.data (jB 196 h1 h2 Tryz.func184 Z fun O hF=>?_)
 obtain⟨hg0,hm0,hn0⟩:=tg hp hq hx hy
 have hb1:=hp.get k
 have hb2:=hq.get k
 have lp:=hp.l
 have lq:=hq.l
 have lpm:=hp.n
 have lqm:=hq.n
 have hd1:=ej (a:=p.xs.getD k default) (b:=((go p q k:Nat):Int)) (by omega)
 have hd2:=ej (a:= -(q.xs.getD k default)) (b:=((go p q k:Nat):Int)) (by omega)
 obtain⟨m,em⟩: ∃m,m=nG p q k:=⟨_,rfl⟩
 obtain⟨nn,en⟩: ∃m,m=nF p q k:=⟨_,rfl⟩
 rw[←em]at hm0
 rw[←en]at hn0
 have z1:=gx (a:=nn) (b:=p.c) (by omega) (IZ.1 hp.c)
 have z2:=gx (a:=m) (b:=q.c) (by omega) (IZ.1 hq.c)
 have hpm: ∀j,-1000000≤p.ms.getD j default∧p.ms.getD j default≤1000000:=fun j=>by have:=hp.mul j;omega
 have hqm: ∀j,-1000000≤q.ms.getD j default∧q.ms.getD j default≤1000000:=fun j=>by have:=hq.mul j;omega
 refine ac (jl Z (am ?_))
 refine js Z (aN (jd Z (js Z ?_)))
 first|refine jh Z Z ?_|refine nC Z Z ?_|refine db Z Z ?_
 refine jb Z (aN (jd Z (js Z ?_)))
 first|refine jh Z Z ?_|refine nC Z Z ?_|refine db Z Z ?_
 refine js Z (st ((aS O Z Z (by omega) (by omega)).cast (v':=eI (-(q.xs.getD k default))) (by rw[Int.zero_sub])) Z (js Z (aN (jb Z (lo Z ((xi (a:=p.xs.getD k default) (b:= -(q.xs.getD k default)) h1 h2 (by omega) (by omega)).plain (u:=eI (go p q k)) (by rw[Int.natAbs_neg])) 35000 Z (js Z (aN (jb Z (st ((fU O Z Z Z Z (by omega) (by omega) (by omega)).cast (v':=eI m) (by rw[em])) Z (js Z (aN (jb Z (st ((fU O Z Z Z Z (by omega) (by omega) (by omega)).cast (v':=eI nn) (by rw[en])) Z (js Z (jn (ae (rk [_,_,_,_,_,_,_,_,_,_,_,_,_,_,_,_] [p0,p0,pz [1],pz [1,2],pz [1,2,3],pz [0,1,2,3,4],p0,p0,pz [7],pz [7,8],pz [7,8,9],pz [6,7,8,9,10],pz [0,1,2,3,4,5,6,7,8,9,10,11],pz [0,1,2,3,4,5,6,7,8,9,10,11,12],p0,pe [0,1,2,3,4,5,6,7,8,9,10,11,12,13,14] 0] [15] 14 11 (.box [.d (.int .i64 0),.d .nils,.d .nils]) [_] [_] [] (kf Z Z Z (kf Z Z Z (kf Z Z Z (kf Z Z Z (kf Z Z Z (ai (ai (au (vF Z) (vF Z)) Z) (kf Z Z Z (kf Z Z Z (kf Z Z Z (kf Z Z Z (kf Z Z Z (ai (ai (au (vF Z) (vF Z)) Z) (ai (ai (au (vF Z) (vF Z)) Z) (kf Z Z Z (ai (ai (az (Eff.alloc O Z Z Z Z Z Z)) Z) (ai (ai (au trivial (az (eS Z Z Z))) Z) trivial)))))))))))))))) ?_)))))))))))))))))
 refine jw [11,9,8,10,7,6,0,1,2] Z (bJ ?_)
 refine ac ?_
 obtain⟨C,eC⟩: ∃C,C=nn*p.c+m*q.c:=⟨_,rfl⟩
 have hC: -2000000000000≤C∧C≤2000000000000:=by omega
 rw[←eC]
 refine jb Z (lo Z ((xi (a:=0) (b:=C) h1 h2 (by decide) (by omega)).plain (u:=eI (bk [C])) (by rw[Bo];exact congrArg (fun z:Nat=>eI z) (Nat.gcd_zero_left _))) 58000 Z (js Z (jn (ae (ac (js Z (jn (ak (ap (X:=Nat) (fun i=>⟨[(0,ptr p.cells),(1,ptr q.cells),(6,.c (.pt 6 0 0)),(8,eI m),(9,eI nn),(10,eI (bk (C::iw nn m p.xs q.xs i))),(11,.c (.pt 11 0 0)),(12,eI i)],[(6,.box [.d (.int .i64 0),.d .nils,.d .nils]),(11,.box [.d (.int .i64 C),.rs 900 0 i,.d .nils]),(900,aE (iw nn m p.xs q.xs i))]⟩) (fun i=>i≤p.xs.length) (fun i=>p.xs.length-i) 0 ((cf 11 900 1 true 1 Z Z Z).trans (Ent.to ⟨Z,Z,Z,Z,Z,Z,Z,Z,tv⟩ Z)) ?_ (fun i hi=>?_))))))))))
 exact cG _
 refine ae (ac (jd Z (js Z ?_)))
 first|refine cW Z ?_|refine js Z ?_|refine db Z Z ?_
 refine js Z (jn (zc Z (fun z64=>?_) (fun z64=>?_)))
 try simp only[bo]at z64
 refine af (ae (ak (ae ?_)))
 have f1:=gx (a:=nn) (b:=p.xs.getD i default) (by omega) (hp.get i)
 have f2:=gx (a:=m) (b:=q.xs.getD i default) (by omega) (hq.get i)
 have hgl:=Dq hC (l:=iw nn m p.xs q.xs i) (nQ hn0 hm0 hp.get hq.get)
 refine kx [_,_,_,_,_,_,_,_,_,_,_,_,_,_,_,_,_,_,_,_,_,_,_,_,_] [pn [] 0 1,pn [0] 0 1,p0,p0,pz [3],pz [3,4],pz [3,4,5],p0,pz (rg 3 5),pz (rg 3 6),pz (rg 2 8),p0,p0,pz [12],pz [12,13],pz [12,13,14],p0,pz (rg 12 5),pz (rg 12 6),pz (rg 11 8),pz (rg 2 18),pe (rg 2 19) 0,pe (rg 0 22) 1,pn (rg 0 23) 2 2,pe (rg 0 24) 2] [21,22,24] [_,_,_,_] [[],[900,88],[]] (ai (ka Z Z (kw Z Z)) (ai (ka Z Z (kw Z Z)) (ka Z Z (ka Z Z (ka Z Z (ka Z Z (ka Z Z (ka Z Z (ai (ai (vN Z) Z) (ka Z Z (ai (ai (vF Z) Z) (ka Z Z (ka Z Z (ka Z Z (ka Z Z (ka Z Z (ka Z Z (ai (ai (vN Z) Z) (ka Z Z (ai (ai (vF Z) Z) (ai (ai (vF Z) Z) (ai (ai (az (jG O Z Z Z Z Z Z Z Z Z Z Z Z Z)) Z) (ai (ai (dq (zs:=(iw nn m p.xs q.xs (i+1)).map fun n=>[.int .i64 n]) (n:=i+1) O Z Z Z Z Z Z Z Z Z Z Z Z Z Z Z Z (.row Z (by simp[bF])) Z Z (by decide) Z (by simp[bF];omega) (by simp[bF];omega) (by rw[jC,List.map_append];rfl) (by simp[bF]) Z) Z) (ka Z Z (ai (ai (az (eS Z Z Z)) Z) trivial))))))))))))))))))))))))) ?_
 refine jw [64,0,1,6,8,9,10,11,12] Z (bJ ?_)
 refine ag (jd Z ?_)
 first|refine jh Z Z ?_|refine nC Z Z ?_|refine db Z Z ?_
 refine st (bc O (ex:=[.int .i64 (nn*p.xs.getD i default+m*q.xs.getD i default)]) Z Z Z Z Ai Z) Z (lo Z ((xi (a:=(bk (C::iw nn m p.xs q.xs i):Nat)) (b:=nn*p.xs.getD i default+m*q.xs.getD i default) h1 h2 (by omega) (by omega)).plain (u:=eI (bk (C::iw nn m p.xs q.xs (i+1)))) (by rw[Int.natAbs_natCast,jC,←List.cons_append,r4])) 98000 Z (js Z (jn (ag (js Z ?_)))))
 first|refine ji Z ?_|refine db Z Z ?_
 refine js Z (jn ?_)
 refine⟨i+1,((ah [6,11,89] (e':=[(0,_),(1,_),(6,_),(8,_),(9,_),(10,_),(11,_),(12,_)]) Z Z ⟨Z,Z,Z,Z,Z,Z,Z,Z,tv⟩ Z).trans (aa 89 900 Z Z)),by omega,by omega⟩
 try simp only[bo]at z64
 refine aR (ae (ac ?_))
 obtain rfl:i=p.xs.length:=by omega
 obtain⟨X,eX⟩: ∃X,X=iw nn m p.xs q.xs p.xs.length:=⟨_,rfl⟩
 have lXp:X.length=p.xs.length:=by rw[eX,bF]
 have hXb: ∀x∈X,-2000000000000≤x∧x≤2000000000000:=by rw[eX];exact nQ hn0 hm0 hp.get hq.get
 rw[←eX]
 refine js Z (jn (ak (ap (X:=Nat) (fun j=>⟨[(0,ptr p.cells),(1,ptr q.cells),(6,.c (.pt 6 0 0)),(8,eI m),(9,eI nn),(10,eI (bk (C::X++iw nn m p.ms q.ms j))),(11,.c (.pt 11 0 0)),(13,eI j)],[(6,.box [.d (.int .i64 0),.d .nils,.d .nils]),(11,.box [.d (.int .i64 C),.rs 900 0 p.xs.length,.rs 901 0 j]),(900,aE X),(901,aE (iw nn m p.ms q.ms j))]⟩) (fun j=>j≤p.ms.length) (fun j=>p.ms.length-j) 0 ((cf 11 901 1 true 2 Z Z Z).trans (Ent.to ⟨Z,Z,Z,Z,Z,congrArg (fun z=>some (eI (bk z))) (List.append_nil (C::X)).symm,Z,Z,tv⟩ Z)) ?_ (fun j hi=>?_))))
 exact cG _
 refine ae (ac (jd Z (js Z ?_)))
 first|refine cW Z ?_|refine js Z ?_|refine db Z Z ?_
 refine js Z (jn (zc Z (fun z104=>?_) (fun z104=>?_)))
 try simp only[bo]at z104
 refine af (ae (ak (ae ?_)))
 have f1:=gx (a:=nn) (b:=p.ms.getD j default) (by omega) (hpm j)
 have f2:=gx (a:=m) (b:=q.ms.getD j default) (by omega) (hqm j)
 have hgl:bk (C::X++iw nn m p.ms q.ms j)≤2000000000000:=Dq hC (Gi hXb (nQ hn0 hm0 hpm hqm))
 refine kx [_,_,_,_,_,_,_,_,_,_,_,_,_,_,_,_,_,_,_,_,_,_,_,_,_] [pn [] 0 1,pn [0] 0 1,p0,p0,pz [3],pz [3,4],pz [3,4,5],p0,pz (rg 3 5),pz (rg 3 6),pz (rg 2 8),p0,p0,pz [12],pz [12,13],pz [12,13,14],p0,pz (rg 12 5),pz (rg 12 6),pz (rg 11 8),pz (rg 2 18),pe (rg 2 19) 0,pe (rg 0 22) 1,pn (rg 0 23) 2 2,pe (rg 0 24) 2] [21,22,24] [_,_,_,_] [[],[901,128],[]] (ai (ka Z Z (kw Z Z)) (ai (ka Z Z (kw Z Z)) (ka Z Z (ka Z Z (ka Z Z (ka Z Z (ka Z Z (ka Z Z (ai (ai (vN Z) Z) (ka Z Z (ai (ai (vF Z) Z) (ka Z Z (ka Z Z (ka Z Z (ka Z Z (ka Z Z (ka Z Z (ai (ai (vN Z) Z) (ka Z Z (ai (ai (vF Z) Z) (ai (ai (vF Z) Z) (ai (ai (az (jG O Z Z Z Z Z Z Z Z Z Z Z Z Z)) Z) (ai (ai (dq (zs:=(iw nn m p.ms q.ms (j+1)).map fun n=>[.int .i64 n]) (n:=j+1) O Z Z Z Z Z Z Z Z Z Z Z Z Z Z Z Z (.row Z (by simp[bF])) Z Z (by decide) Z (by simp[bF];omega) (by simp[bF];omega) (by rw[jC,List.map_append];rfl) (by simp[bF]) Z) Z) (ka Z Z (ai (ai (az (eS Z Z Z)) Z) trivial))))))))))))))))))))))))) ?_
 refine jw [104,0,1,6,8,9,10,11,13] Z (bJ ?_)
 refine ag (jd Z ?_)
 first|refine jh Z Z ?_|refine nC Z Z ?_|refine db Z Z ?_
 refine st (bc O (ex:=[.int .i64 (nn*p.ms.getD j default+m*q.ms.getD j default)]) Z Z Z Z Ai Z) Z (lo Z ((xi (a:=(bk (C::X++iw nn m p.ms q.ms j):Nat)) (b:=nn*p.ms.getD j default+m*q.ms.getD j default) h1 h2 (by omega) (by omega)).plain (u:=eI (bk (C::X++iw nn m p.ms q.ms (j+1)))) (by rw[Int.natAbs_natCast,jC,←gm,r4])) 138000 Z (js Z (jn (ag (js Z ?_)))))
 first|refine ji Z ?_|refine db Z Z ?_
 refine js Z (jn ?_)
 refine⟨j+1,((ah [6,11,900,129] (e':=[(0,_),(1,_),(6,_),(8,_),(9,_),(10,_),(11,_),(13,_)]) Z Z ⟨Z,Z,Z,Z,Z,Z,Z,Z,tv⟩ Z).trans (aa 129 901 Z Z)),by omega,by omega⟩
 try simp only[bo]at z104
 refine aR (ac ?_)
 obtain rfl:j=p.ms.length:=by omega
 obtain⟨Y,eY⟩: ∃Y,Y=iw nn m p.ms q.ms p.ms.length:=⟨_,rfl⟩
 have lYp:Y.length=p.ms.length:=by rw[eY,bF]
 have hYb: ∀x∈Y,-2000000000000≤x∧x≤2000000000000:=by rw[eY];exact nQ hn0 hm0 hpm hqm
 rw[←eY]
 obtain⟨G,eG⟩: ∃G,G=bk (C::X++Y):=⟨_,rfl⟩
 rw[←eG]
 have hG:0<G∧G≤2000000000000:=by rw[eG,eC,eX,eY,em,en];exact pA hp hq hx hy
 have hq0:=lr (b:=(G:Int)) hC
 refine jc Z ?_
 first|refine st (vQ Z Z Z Z) Z ?_|refine ji Z ?_
 refine js Z (jo Z (am ?_))
 refine aN (jb Z (lo Z (zv h1 h2) 146000 Z (js Z (jn (ae (ac (js Z (jn (ak (ap (X:=Nat) (fun i=>⟨[(6,.c (.pt 6 0 0)),(10,eI G),(11,.c (.pt 11 0 0)),(14,eB (nI (num (C.tdiv G)) X G i)),(15,eI i)],[(6,.box [.d (.int .i64 0),.d .nils,.d .nils]),(11,.box [.d (.int .i64 (C.tdiv G)),.rs 900 0 p.xs.length,.rs 901 0 p.ms.length]),(900,aE (oy X G i)),(901,aE Y)]⟩) (fun i=>i≤p.xs.length) (fun i=>p.xs.length-i) 0 (((ah [6,11,900,901] (e':=[(6,_),(10,_),(11,_),(14,_),(15,_)]) Z Z ⟨Z,Z,Z,Z,Z,tv⟩ Z)).trans (Ent.to ⟨Z,Z,Z,congrArg (fun z=>some (eB z)) GA.symm,Z,tv⟩ (by rw[kL];rfl))) ?_ (fun i hi=>?_)))))))))))
 exact cG _
 refine ae (ac (jc Z ?_))
 first|refine cW Z ?_|refine js Z ?_|refine db Z Z ?_
 refine js Z (jn (zc Z (fun z150=>?_) (fun z150=>?_)))
 try simp only[bo]at z150
 refine af (ae (ak (ac ?_)))
 have hil:i<X.length:=by omega
 have hxi:=lr (b:=(G:Int)) (hXb _ (pp hil))
 refine jc Z ?_
 first|refine jh Z Z ?_|refine nC Z Z ?_|refine db Z Z ?_
 refine st (bc O (ex:=[.int .i64 (X.getD i default)]) Z Z Z Z (by rw[Nat.zero_add];exact fZ (by omega)) Z) Z (js Z ?_)
 first|refine st (vQ Z Z Z Z) Z ?_|refine ji Z ?_
 first|refine jh Z Z ?_|refine nC Z Z ?_|refine db Z Z ?_
 refine hp (bL (ex:=[.int .i64 (X.getD i default)]) (xs':=(oy X G (i+1)).map (fun n=>[D.int .i64 n])) O Z Z Z Z Z Z Z Z Z Z Z Z Z Z (by rw[Nat.zero_add];exact fZ (by omega)) (by rw[←jA (by omega),List.map_set,Nat.zero_add];rfl)) Z (am ?_)
 refine jn (ag (jb Z (ar 6 Z Z Z (fun hx=>nz hx Z (nz hx Z (nz hx Z (ny hx (vI Z Z) Z (ny hx (bc O (ex:=[.int .i64 ((X.getD i default).tdiv G)]) Z Z Z Z (Af (by omega)) Z) Z (bj O hx Z Z Z Z (zv h1 h2) (ab Z) Z Z Z Z Z Z Z (B0:=169000) Z (AN.nil))))))) Z Z ?_)))
 first|refine st (aq O Z Z Z Z Z) Z ?_|refine st (ay O Z Z Z Z Z) Z ?_|refine st (Val.pickB O Z Z Z Z Z) Z ?_
 refine js Z (jn (ag (js Z ?_)))
 first|refine ji Z ?_|refine db Z Z ?_
 refine js Z (jn ?_)
 refine⟨i+1,Ent.to ⟨Z,Z,Z,congrArg (fun z=>some (eB z)) (by rw[sa (by omega),Bool.cond_false_right]),Z,tv⟩ Z,by omega,by omega⟩
 try simp only[bo]at z150
 refine aR (ae (ac ?_))
 obtain rfl:i=p.xs.length:=by omega
 refine js Z (jn (ak (ap (X:=Nat) (fun j=>⟨[(6,.c (.pt 6 0 0)),(10,eI G),(11,.c (.pt 11 0 0)),(14,eB (nI (nI (num (C.tdiv G)) X G p.xs.length) Y G j)),(16,eI j)],[(6,.box [.d (.int .i64 0),.d .nils,.d .nils]),(11,.box [.d (.int .i64 (C.tdiv G)),.rs 900 0 p.xs.length,.rs 901 0 p.ms.length]),(900,aE (oy X G p.xs.length)),(901,aE (oy Y G j))]⟩) (fun j=>j≤p.ms.length) (fun j=>p.ms.length-j) 0 (((ah [6,11,900,901] (e':=[(6,_),(10,_),(11,_),(14,_),(16,_)]) Z Z ⟨Z,Z,Z,Z,Z,tv⟩ Z)).trans (Ent.to ⟨Z,Z,Z,congrArg (fun z=>some (eB z)) GA.symm,Z,tv⟩ (by rw[kL];rfl))) ?_ (fun j hi=>?_))))
 exact cG _
 refine ae (ac (jc Z ?_))
 first|refine cW Z ?_|refine js Z ?_|refine db Z Z ?_
 refine js Z (jn (zc Z (fun z174=>?_) (fun z174=>?_)))
 try simp only[bo]at z174
 refine af (ae (ak (ac ?_)))
 have hjl:j<Y.length:=by omega
 have hyj:=lr (b:=(G:Int)) (hYb _ (pp hjl))
 refine jc Z ?_
 first|refine jh Z Z ?_|refine nC Z Z ?_|refine db Z Z ?_
 refine st (bc O (ex:=[.int .i64 (Y.getD j default)]) Z Z Z Z (by rw[Nat.zero_add];exact fZ (by omega)) Z) Z (js Z ?_)
 first|refine st (vQ Z Z Z Z) Z ?_|refine ji Z ?_
 first|refine jh Z Z ?_|refine nC Z Z ?_|refine db Z Z ?_
 refine hp (bL (ex:=[.int .i64 (Y.getD j default)]) (xs':=(oy Y G (j+1)).map (fun n=>[D.int .i64 n])) O Z Z Z Z Z Z Z Z Z Z Z Z Z Z (by rw[Nat.zero_add];exact fZ (by omega)) (by rw[←jA (by omega),List.map_set,Nat.zero_add];rfl)) Z (am ?_)
 refine jn (ag (jb Z (ar 6 Z Z Z (fun hx=>nz hx Z (nz hx Z (nz hx Z (ny hx (vI Z Z) Z (ny hx (bc O (ex:=[.int .i64 ((Y.getD j default).tdiv G)]) Z Z Z Z (Af (by omega)) Z) Z (bj O hx Z Z Z Z (zv h1 h2) (ab Z) Z Z Z Z Z Z Z (B0:=193000) Z (AN.nil))))))) Z Z ?_)))
 first|refine st (aq O Z Z Z Z Z) Z ?_|refine st (ay O Z Z Z Z Z) Z ?_|refine st (Val.pickB O Z Z Z Z Z) Z ?_
 refine js Z (jn (ag (js Z ?_)))
 first|refine ji Z ?_|refine db Z Z ?_
 refine js Z (jn ?_)
 refine⟨j+1,Ent.to ⟨Z,Z,Z,congrArg (fun z=>some (eB z)) (by rw[sa (by omega),Bool.cond_false_right]),Z,tv⟩ Z,by omega,by omega⟩
 try simp only[bo]at z174
 refine aR (ac (jb Z (jo Z (am ?_))))
 refine js Z (jr ?_)
 refine eR Z ?_
 obtain rfl:j=p.ms.length:=by omega
 have e1:oy X G p.xs.length=X.map (fun x=>x.tdiv G):=by rw[←lXp];exact lA
 have e2:oy Y G p.ms.length=Y.map (fun x=>x.tdiv G):=by rw[←lYp];exact lA
 rw[e1,e2]
 rw[show ef p q k=nJ ⟨C,X,Y⟩ G by subst eG;subst eY;subst eX;subst eC;subst em;subst en;rfl,CC]
 show VR _ _ (.tup [Ks (nJ ⟨C,X,Y⟩ G),eB (nI (nI (num (C.tdiv G)) X G X.length) Y G Y.length)])
 rw[lXp,lYp]
 exact .tup (.cons (.agg (.cons .d (.cons (.whole Z (by simp[nJ,lXp])) (.cons (.whole Z (by simp[nJ,lYp])) .nil)))) (.cons (.c .d) .nil))
def DZ(k:Nat)(rs:List Rw):List Rw×Nat×Bool:=match fh k rs with
  | none=>([],0,false)
  | some new=>(cS k rs++new,(cS k rs).length,true)
theorem uq{k:Nat}{rs:List Rw}(h:fh k rs=none):DZ k rs=([],0,false):=by unfold DZ;rw[h]
theorem qd{k:Nat}{rs new:List Rw}(h:fh k rs=some new):DZ k rs=(cS k rs++new,(cS k rs).length,true):=by unfold DZ;rw[h]
theorem HC{k:Nat}{rs:List Rw}(h:(DZ k rs).2.2=true): ∃new,fh k rs=some new:=by
 cases hs:fh k rs with
 | none=>rw[uq hs]at h;cases h
 | some new=>exact⟨new,Z⟩
theorem HD{k:Nat}{rs:List Rw}(h:(DZ k rs).2.2=false):fh k rs=none:=by
 cases hs:fh k rs with
 | none=>rfl
 | some new=>rw[qd hs]at h;cases h
def BM(ts:List Tm):List Rw×List Rw×Bool:=match dk ts with
  | none=>([],[],false)
  | some z=>(z.1,z.2,true)
theorem qu{ts:List Tm}(h:dk ts=none):BM ts=([],[],false):=by unfold BM;rw[h]
theorem ii{ts:List Tm}{z:List Rw×List Rw}(h:dk ts=some z):BM ts=(z.1,z.2,true):=by unfold BM;rw[h]
theorem xa{ts:List Tm}(h:(BM ts).2.2=true): ∃z,dk ts=some z:=by
 cases hs:dk ts with
 | none=>rw[qu hs]at h;cases h
 | some z=>exact⟨z,Z⟩
theorem xb{ts:List Tm}(h:(BM ts).2.2=false):dk ts=none:=by
 cases hs:dk ts with
 | none=>rfl
 | some z=>rw[ii hs]at h;cases h
abbrev HF(z:List Rw×Nat×Bool):A:=.tup [nM z.1,eI z.2.1,eB z.2.2]
abbrev Dk(z:List Rw×List Rw×Bool):A:=.tup [nM z.1,nM z.2.1,eB z.2.2]
theorem Hb{a b:Int}(h:(bif decide (a≤0)then true else decide (0≤b))=true):a≤0∨0≤b:=by
 by_cases h1:a≤0
 exact .inl h1
 right;simpa[h1]using h
theorem Hc{a b:Int}(h:(bif decide (a≤0)then true else decide (0≤b))=false): ¬(a≤0∨0≤b):=by
 by_cases h1:a≤0
 simp[h1]at h
 rintro(h2|h2)
 exact h1 h2
 simp[h1,h2]at h
theorem Dr{o:Bool}{n:Nat}(h:(bif !o then true else decide ((n:Int)=60))=true): ¬(o=true∧n≠60):=by
 rintro⟨h1,h2⟩
 simp[h1]at h;omega
theorem Dt{o:Bool}{n:Nat}(h:(bif !o then true else decide ((n:Int)=60))=false):o=true∧n≠60:=by
 cases o with
 | false=>simp at h
 | true=>simp at h;exact⟨rfl,by omega⟩
theorem IC{rs:List Rw}(hr:AllR n rs)(hl60:rs.length≤60)(hk:k<10)(hn:n≤1000):MQ h1 h2 174 [nM rs,eI k] [] (Plain (HF (DZ k rs))):=by
 refine MC.data (jB 95 h1 h2 Tryz.func174 Z fun O hF=>?_)
 refine ac (jc Z (aN (hp (aZ O Z Z Z Z Z Z Z Z Z Z Z) Z (am ?_))))
 refine js Z (jn (ae (ac (js Z (jn (ak (ap (X:=Nat) (fun i=>⟨[(0,nM rs),(1,eI k),(7,.c (.rs 900 0 (cS k (rs.take i)).length)),(8,eI i)],[(900,rz (cS k (rs.take i)))]⟩) (fun i=>i≤rs.length) (fun i=>rs.length-i) 0 ((aa 14 900 Z Z).trans (Ent.to ⟨Z,Z,Z,Z,tv⟩ Z)) ?_ (fun i hi=>?_))))))))
 exact cG _
 refine ae (ac (jb Z (cW Z (js Z (jf [18,0,1,7,8] Z (jn (zc Z (fun z18=>?_) (fun z18=>?_))))))))
 refine af (ae (ak (ac ?_)))
 have hil:i<rs.length:=by have:=bt z18;omega
 have hri:=(hr.get hil).l
 refine jb Z (jh Z Z (jc Z (jh Z Z (jb Z (jf [29,18,0,1,7,8] Z (jn (zc Z (fun z29=>?_) (fun z29=>?_))))))))
 refine ag (jc Z (jh Z Z (js Z (jf [34,30,29,18,0,1,7,8] Z (hp (aZ O Z Z Z Z Z Z Z Z Z Z Z) Z (am ?_))))))
 refine jf [35,30,29,18,0,1,7,8] Z ?_
 have hki:=gf (k:=k) (rs:=rs.take (i+1))
 rw[List.length_take]at hki
 refine hp (ko (own:=false) (zs:=(cS k (rs.take (i+1))).map Rw.cells) (n:=(cS k (rs.take (i+1))).length) O Z (.row Z (bA _).symm) (.whole Z Z (.inr ⟨Z,Z⟩)) (by simp) Z (by have:=gf (k:=k) (rs:=rs.take i);simp at this ⊢;omega) (by have:=gf (k:=k) (rs:=rs.take i);simp at this ⊢;omega) (by rw[xD hil (bt z29),List.map_append];rfl) (bA _)) Z (am ?_)
 refine js Z (jf [7,29,18,0,1,8] Z (jn (ag (js Z (ji Z (js Z (jf [8,7,29,18,0,1] Z (jn ?_))))))))
 refine⟨i+1,((ah [36] (e':=[(0,_),(1,_),(7,_),(8,_)]) Z Z ⟨Z,Z,Z,Z,tv⟩ Z).trans (aa 36 900 Z Z)),by omega,by omega⟩
 refine af (ag (js Z (ji Z (js Z (jf [8,29,18,0,1,7] Z (jn ?_))))))
 have hkf:=xE (k:=k) (i:=i) (rs:=rs) (by omega) (b9 z29)
 rw[←hkf]
 refine⟨i+1,Ent.to ⟨Z,Z,Z,Z,tv⟩ Z,by omega,by omega⟩
 refine aR (ac ?_)
 have hie:i=rs.length:=by have:=b9 z18;omega
 subst hie
 rw[List.take_length]
 have hkl:=gf (k:=k) (rs:=rs)
 obtain⟨KP,eK⟩: ∃KP,KP=cS k rs:=⟨_,rfl⟩
 rw[←eK]
 rw[←eK]at hkl
 refine js Z (db Z Z (js Z (jf [9,18,0,1,7,8] Z (jn (ae (ac (js Z (jn (ak (ap (X:=Nat×List Rw) (fun x=>⟨[(0,nM rs),(1,eI k),(7,.c (.rs 900 0 (KP.length+x.2.length))),(9,eI KP.length),(10,eI x.1)],[(900,rz (KP++x.2))]⟩) (fun x=>x.1≤rs.length∧sE k KP.length rs (rs.drop x.1) x.2=sE k KP.length rs rs []∧AllR n x.2∧KP.length+x.2.length≤60) (fun x=>rs.length-x.1) (0,[]) (Ent.to ⟨Z,Z,Z,Z,Z,tv⟩ (by rw[List.append_nil])) ?_ (fun x hi=>?_)))))))))))
 exact⟨cG _,Z,AllR.nil,by simp only[List.length_nil];omega⟩
 refine ae (ac (jb Z (cW Z (js Z (jf [42,0,1,7,9,10] Z (jn (zc Z (fun z42=>?_) (fun z42=>?_))))))))
 refine af (ae (ak (ac ?_)))
 obtain⟨hx1,hx2,hx3,hx4⟩:=hi
 have hxl:x.1<rs.length:=by have:=bt z42;omega
 refine js Z (jn (ak (ap (X:=Nat×List Rw) (fun y=>⟨[(0,nM rs),(1,eI k),(7,.c (.rs 900 0 (KP.length+y.2.length))),(9,eI KP.length),(10,eI x.1),(11,eI y.1)],[(900,rz (KP++y.2))]⟩) (fun y=>y.1≤rs.length∧tU (rs.getD x.1 default) k KP.length (rs.drop y.1) y.2=tU (rs.getD x.1 default) k KP.length rs x.2∧AllR n y.2∧KP.length+y.2.length≤60) (fun y=>rs.length-y.1) (0,x.2) (Ent.to ⟨Z,Z,Z,Z,Z,Z,tv⟩ Z) ?_ (fun y hi=>?_))))
 exact⟨cG _,Z,hx3,hx4⟩
 refine ae (ac (jb Z (cW Z (js Z (jf [48,0,1,7,9,10,11] Z (jn (zc Z (fun z48=>?_) (fun z48=>?_))))))))
 refine af (ae (ak (ae (ac ?_))))
 obtain⟨hy1,hy2,hy3,hy4⟩:=hi
 have hyl:y.1<rs.length:=by have:=bt z48;omega
 have hpi:=hr.get hxl
 have hqj:=hr.get hyl
 have l1:=hpi.l
 have l2:=hqj.l
 have hgj:=uJ (p:=(rs.getD x.1 default)) (k:=k) (b:=KP.length) (rs:=rs) (new:=y.2) (j:=y.1) hyl
 refine jb Z (jh Z Z (jc Z (jh Z Z (jc Z (jf [60,48,0,1,7,9,10,11] Z (ar 9 Z Z Z (fun hx=>nz hx Z (nz hx Z (ny hx (vN Z) Z (nz hx Z (nz hx Z (nz hx Z (ny hx (vN Z) Z (nz hx Z (nz hx Z (AN.nil)))))))))) Z Z (st (ay O Z Z Z Z Z) Z (jf [70,48,0,1,7,9,10,11] Z (jn (zc Z (fun z70=>?_) (fun z70=>?_)))))))))))
 refine aR (ag (js Z (ji Z (js Z (jf [11,70,48,0,1,7,9,10] Z (jn ?_))))))
 rw[if_pos (Hb z70)]at hgj
 refine⟨(y.1+1,y.2),Ent.to ⟨Z,Z,Z,Z,Z,Z,tv⟩ Z,⟨by show y.1+1≤_;omega,hgj.symm.trans hy2,hy3,hy4⟩,by show rs.length-(y.1+1)<rs.length-y.1;omega⟩
 refine af (ae ?_)
 have hcc:=Hc z70
 have hpk:0<(rs.getD x.1 default).xs.getD k default:=by omega
 have hqk:(rs.getD y.1 default).xs.getD k default<0:=by omega
 refine rk [_,_,_,_,_,_,_,_,_,_,_,_,_,_] [p0,p0,pz [0,1],p0,p0,pz [3,4],p0,pe [0,1,2,3,4,5,6] 0,pn [0,1,2,3,4,5,6,7] 1 1,pn [0,1,2,3,4,5,6,7,8] 1 1,pn [0,1,2,3,4,5,6,7,8] 1 2,pn [] 0 1,pe [0,1,2,3,4,5,6,7,8,9,11] 1,pn [0,1,2,3,4,5,6,7,8,9,10,11,12] 2 2] [7,12] 11 12 (.box [.d (.int .i64 0),.d .nils,.d .nils]) [_,_] [_] [] (kf Z Z Z (kf Z Z Z (ai (ai (au (vN Z) (vN Z)) Z) (kf Z Z Z (kf Z Z Z (ai (ai (au (vN Z) (vN Z)) Z) (kf Z Z Z (ai (ai (au (az (bB O (B0:=80000) Z Z Z Z (DL (p:=(rs.getD x.1 default)) (q:=(rs.getD y.1 default)) (k:=k) h1 h2 hpi hqj hk hpk hqk hn) (ab Z) Z Z Z Z Z)) (az (bB O (B0:=80000) Z Z Z Z (DL (p:=(rs.getD x.1 default)) (q:=(rs.getD y.1 default)) (k:=k) h1 h2 hpi hqj hk hpk hqk hn) (ab Z) Z Z Z Z Z))) Z) (kf Z Z Z (kf Z Z Z (ai (kf Z Z Z (kg Z Z Z)) (ai (ai (ai (az (Eff.alloc O Z Z Z Z Z Z)) Z) (ai (az (Eff.alloc O Z Z Z Z Z Z)) Z)) (ai (ai (au trivial (az (eS Z Z Z))) Z) (ai (ai (au trivial (V Z)) Z) trivial)))))))))))))) ?_
 refine jw [13,12,70,48,0,1,7,9,10,11] Z (bJ ?_)
 refine ae (ac ?_)
 rw[if_neg hcc]at hgj
 refine jc Z (jf [84,12,70,48,0,1,7,9,10,11] Z (ar 3 Z Z Z (fun hx=>nz hx Z (ny hx (vI Z Z) Z (nz hx Z (AN.nil)))) Z Z (st (ay O Z Z Z Z Z) Z (jf [88,12,70,48,0,1,7,9,10,11] Z (jn (zc Z (fun z88=>?_) (fun z88=>?_)))))))
 refine ac (jc Z (jr ?_))
 refine eR Z ?_
 have hno:=Dr z88
 rw[if_neg hno]at hgj
 have hgi:=m9 (k:=k) (b:=KP.length) (rs:=rs) (new:=x.2) (i:=x.1) hxl
 rw[←hy2,hgj]at hgi
 rw[uq (by show sE k (cS k rs).length rs rs []=none;rw[←eK,←hx2];exact hgi)]
 exact .tup (.cons (.c .nils) (.cons (.c .d) (.cons (.c .d) .nil)))
 refine af (ag ?_)
 have hyes:=Dt z88
 refine jb Z (hp (aZ O Z Z Z Z Z Z Z Z Z Z Z) Z (am ?_))
 refine jf [91,89,88,12,70,48,0,1,7,9,10,11] Z (hp (ko (own:=false) (xs:=(KP++y.2).map Rw.cells) (zs:=(KP++(y.2++[ef (rs.getD x.1 default) (rs.getD y.1 default) k])).map Rw.cells) (n:=KP.length+(y.2++[ef (rs.getD x.1 default) (rs.getD y.1 default) k]).length) O Z (.row Z (by simp)) (.whole Z Z (.inr ⟨Z,Z⟩)) (by simp) Z (by simp;omega) (by simp;omega) (by rw[←gm,List.map_append (l₁:=KP++y.2)];rfl) (by simp)) Z (am ?_))
 refine js Z (jf [7,88,12,70,48,0,1,9,10,11] Z (jn (ag (js Z (ji Z (js Z (jf [11,7,88,12,70,48,0,1,9,10] Z (jn ?_))))))))
 rw[if_pos hyes]at hgj
 refine⟨(y.1+1,y.2++[ef (rs.getD x.1 default) (rs.getD y.1 default) k]),((ah [92] (e':=[(0,_),(1,_),(7,_),(9,_),(10,_),(11,_)]) Z Z ⟨Z,Z,Z,Z,Z,Z,tv⟩ Z).trans (aa 92 900 Z Z)),⟨by show y.1+1≤_;omega,hgj.symm.trans hy2,hy3.snoc (sS hpi hqj hpk hqk hyes.1),by simp only[cp,du];omega⟩,by show rs.length-(y.1+1)<rs.length-y.1;omega⟩
 refine aR (ag (js Z (ji Z (js Z (jf [10,48,0,1,7,9,11] Z (jn ?_))))))
 obtain⟨hy1,hy2,hy3,hy4⟩:=hi
 have hye:rs.length≤y.1:=by have:=b9 z48;omega
 rw[xG hye]at hy2
 have hgi:=m9 (k:=k) (b:=KP.length) (rs:=rs) (new:=x.2) (i:=x.1) (by omega)
 rw[←hy2]at hgi
 refine⟨(x.1+1,y.2),Ent.to ⟨Z,Z,Z,Z,Z,tv⟩ Z,⟨by show x.1+1≤_;omega,hgi.symm.trans hx2,hy3,hy4⟩,by show rs.length-(x.1+1)<rs.length-x.1;omega⟩
 refine aR (ac (jd Z (js Z (jf [6,5,4,42,0,1,7,9,10] Z (jr ?_)))))
 refine eR Z ?_
 obtain⟨hx1,hx2,hx3,hx4⟩:=hi
 have hxe:rs.length≤x.1:=by have:=b9 z42;omega
 rw[xJ hxe]at hx2
 rw[qd (new:=x.2) (by show sE k (cS k rs).length rs rs []=some x.2;rw[←eK,←hx2]),←eK]
 exact .tup (.cons (.c (.whole Z (by simp))) (.cons (.c .d) (.cons (.c .d) .nil)))
theorem DP(hf:Fs ts):MQ h1 h2 148 [.c (.rs 0 0 ts.length)] [(0,aD ts)] (aO (Dk (BM ts)) [(0,aD ts)]):=by
 refine MC.shift 500 Z (gk (jH 35 [500] h1 h2 Tryz.func148 Z fun O hF=>?_))
 have hlen:=hf.len
 refine ac (jc Z (aN (js Z (ao O [500] (bin:=[aD ts]) Z Z Z Z (ID (ts:=ts) h1 h2 hf) Z Z Z Z Z Z (B0:=13000) Z Z (am ?_)))))
 refine js Z (aN (hp (aZ O Z Z Z Z Z Z Z Z Z Z Z) Z (am ?_)))
 refine js Z (jn (ae (ac (js Z (jn (ak (ap (X:=Nat×List Rw×List Rw) (fun x=>⟨[(5,nM x.2.1),(6,.c (.rs 900 0 x.2.2.length)),(7,eI x.1)],[(900,rz x.2.2),(500,aD ts)]⟩) (fun x=>x.1≤10∧gT (10-x.1) x.1 x.2.1 x.2.2=dk ts∧AllR ts.length x.2.1∧x.2.1.length≤60∧AllR ts.length x.2.2∧x.2.2.length≤60*x.1) (fun x=>10-x.1) (0,t5 ts,[]) ((aa 13 900 Z Z).trans (Ent.to ⟨Z,Z,Z,tv⟩ Z)) ?_ (fun x hi=>?_))))))))
 exact⟨cG _,Z,qe hf,by show(fB ts ts.length).length≤60;rw[ca];omega,AllR.nil,cG _⟩
 refine ae (ac (jb Z (jn (zc Z (fun z15=>?_) (fun z15=>?_)))))
 refine af (ae (ak (ac ?_)))
 obtain⟨hx1,hx2,hx3,hx4,hx5,hx6⟩:=hi
 have hxl:x.1<10:=by have:=bt z15;omega
 refine jb Z (aj O Z Z Z Z (IC (n:=ts.length) (rs:=x.2.1) (k:=x.1) h1 h2 hx3 hx4 hxl (by omega)) (ab Z) Z Z Z Z (B0:=22000) Z Z (jd Z (jc Z (jn (ae (ac (jb Z (jn (zc Z (fun z26=>?_) (fun z26=>?_))))))))))
 refine ac (jc Z (jr ?_))
 refine eR Z ?_
 refine⟨?_,Z⟩
 have hs:=HD (k:=x.1) (rs:=x.2.1) (by simpa using z26)
 have he:dk ts=none:=by rw[←hx2,show 10-x.1=(10-(x.1+1))+1 by omega,ke hs]
 rw[qu he]
 exact .tup (.cons (.c .nils) (.cons (.c .nils) (.cons (.c .d) .nil)))
 refine af (ac ?_)
 obtain⟨new,hs⟩:=HC (k:=x.1) (rs:=x.2.1) (by simpa using z26)
 have hso:=n3 hx3 hx4 hs
 rw[qd hs]
 refine jc Z (st ((dV O Z Z ⟨by simp,by simp⟩).cast (v':=nM new) (by simp[List.map_append];exact List.take_of_length_le (by simp))) Z (hp (ko (own:=false) (xs:=x.2.2.map Rw.cells) (ys:=new.map Rw.cells) (zs:=(x.2.2++new).map Rw.cells) (n:=(x.2.2++new).length) O Z (.row Z (bA _).symm) (.slc (.inl Z)) (by simp) Z (by simp;omega) (by simp;omega) (by simp) (by simp)) Z (am ?_)))
 refine js Z (jn (ag (jb Z (jn (ag (js Z (ji Z (js Z (jn ?_)))))))))
 refine⟨(x.1+1,cS x.1 x.2.1++new,x.2.2++new),((ah [31,500] (e':=[(5,_),(6,_),(7,_)]) Z Z ⟨Z,Z,Z,tv⟩ Z).trans (aa 31 900 Z Z)),⟨by show x.1+1≤10;omega,?_,hso.1,hso.2.1,hx5.app hso.2.2.1,?_⟩,by show 10-(x.1+1)<10-x.1;omega⟩
 show gT (10-(x.1+1)) (x.1+1) _ _=_
 rw[←hx2,show 10-x.1=(10-(x.1+1))+1 by omega,kd hs]
 show(x.2.2++new).length≤60*(x.1+1)
 rw[cp];omega
 refine aR (ac (jd Z (js Z (jr ?_))))
 refine eR Z ?_
 refine⟨?_,Z⟩
 obtain⟨hx1,hx2,hx3,hx4,hx5,hx6⟩:=hi
 have hxe:x.1=10:=by have:=b9 z15;omega
 rw[hxe]at hx2
 have he:dk ts=some x.2:=hx2.symm
 rw[ii he]
 exact .tup (.cons (.c .d) (.cons (.c (.whole Z (bA _).symm)) (.cons (.c .d) .nil)))
abbrev zA(z:List Int×Bool):A:=.tup [bO z.1,eB z.2]
def t2(ts:List Tm):Tm×List Int×Int×Bool:=match eQ ts with
  | none=>(⟨0,[]⟩,[],0,false)
  | some r=>((aC ts r.tm).1,r.ms,(bk r.tm.xs:Int),true)
abbrev Dl(z:Tm×List Int×Int×Bool):A:=.tup [cR z.1,bO z.2.1,eI z.2.2.1,eB z.2.2.2]
theorem om{ts:List Tm}(h:eQ ts=none):t2 ts=(⟨0,[]⟩,[],0,false):=by unfold t2;rw[h]
theorem ol{ts:List Tm}{r:Rw}(h:eQ ts=some r):t2 ts=((aC ts r.tm).1,r.ms,(bk r.tm.xs:Int),true):=by unfold t2;rw[h]
theorem xS{ts:List Tm}(h:dk ts=none):eQ ts=none:=by unfold eQ;rw[h]
theorem pG{ts:List Tm}{z:List Rw×List Rw}(h:dk ts=some z):eQ ts=kq ts z.2:=by unfold eQ;rw[h]
theorem xw{ts:List Tm}(h:dk ts=none):dj ts=([],false):=by unfold dj;rw[h]
theorem Ab{ts:List Tm}{z:List Rw×List Rw}(h:dk ts=some z)(h2:gR z.1=none):dj ts=([],false):=by unfold dj;rw[h];simp only;rw[h2]
theorem Aa{ts:List Tm}{z:List Rw×List Rw}{r:Rw}(h:dk ts=some z)(h2:gR z.1=some r):dj ts=(r.ms,true):=by unfold dj;rw[h];simp only;rw[h2]
def tX(ts:List Tm):Int×Tm:=match fM ts with
  | some i=>((i:Int),(aC ts (ts.getD i default)).1)
  | none=>(-1,⟨0,[]⟩)
abbrev Dj(z:Int×Tm):A:=.tup [eI z.1,cR z.2]
theorem nY{ts:List Tm}{i:Nat}(h:fM ts=some i):tX ts=((i:Int),(aC ts (ts.getD i default)).1):=by unfold tX;rw[h]
theorem rP{ts:List Tm}(h:fM ts=none):tX ts=(-1,⟨0,[]⟩):=by unfold tX;rw[h]
theorem zY{ts:List Tm}{i:Nat}(h:i<ts.length)(h2:(aC ts (ts.getD i default)).2=true):pK ts (ts.length-i) i=some i:=by
 rw[show ts.length-i=(ts.length-(i+1))+1 by omega,pK,if_pos h2]
theorem zZ{ts:List Tm}{i:Nat}(h:i<ts.length)(h2:(aC ts (ts.getD i default)).2=false):pK ts (ts.length-i) i=pK ts (ts.length-(i+1)) (i+1):=by
 rw[show ts.length-i=(ts.length-(i+1))+1 by omega,pK,if_neg (by rw[h2];decide)]
theorem yF{ts:List Tm}{i:Nat}(h:i<ts.length):(ts.map Tm.cells)[0+((i:Nat):Int).toNat]? = some (ts.getD i default).cells:=by
 rw[Nat.zero_add,Int.toNat_natCast,List.getElem?_map,List.getElem?_eq_getElem h,aw h];rfl
theorem IL(hf:Fs ts):MQ h1 h2 104 [.c (.rs 0 0 ts.length)] [(0,aD ts)] (aO (zA (dj ts)) [(0,aD ts)]):=by
 refine MC.shift 500 Z (gk (jH 33 [500] h1 h2 Tryz.func104 Z fun O hF=>?_))
 refine ac (jb Z (aN (js Z (ao O [500] (bin:=[aD ts]) Z Z Z Z (DP (ts:=ts) h1 h2 hf) Z Z Z Z Z Z (B0:=11000) Z Z (am ?_)))))
 refine jd Z (jc Z (jn (ae (ac (jb Z (jn (zc Z (fun z15=>?_) (fun z15=>?_))))))))
 refine ac (jb Z (jr ?_))
 refine eR Z ?_
 refine⟨?_,Z⟩
 rw[xw (xb (by simpa using z15))]
 exact .tup (.cons (.c .nils) (.cons (.c .d) .nil))
 refine af (ae (ac ?_))
 obtain⟨z,hz⟩:=xa (ts:=ts) (by simpa using z15)
 rw[ii hz]
 obtain⟨ha,hal,hb,hbl⟩:=jF hf (a:=z.1) (b:=z.2) hz
 refine js Z (jn (ak (ap (X:=Nat) (fun i=>⟨[(4,nM z.1),(7,eI i)],[(500,aD ts)]⟩) (fun i=>i≤z.1.length∧gR (z.1.drop i)=gR z.1) (fun i=>z.1.length-i) 0 (Ent.to ⟨Z,Z,tv⟩ Z) ?_ (fun i hi=>?_))))
 exact⟨cG _,Z⟩
 refine ae (ac (jb Z (cW Z (js Z (jn (zc Z (fun z19=>?_) (fun z19=>?_)))))))
 refine af (ae (ak (ac ?_)))
 have hil:i<z.1.length:=by have:=bt z19;omega
 have hfc:=qU (rs:=z.1) hil
 refine jb Z (jh Z Z (jc Z (jn (zc Z (fun z27=>?_) (fun z27=>?_)))))
 refine ac (jb Z (jh Z Z (jd Z (jr ?_))))
 refine eR Z ?_
 refine⟨?_,Z⟩
 rw[if_pos (bt z27),hi.2]at hfc
 rw[Aa hz hfc]
 exact .tup (.cons (.c .d) (.cons (.c .d) .nil))
 refine af (ag (js Z (ji Z (js Z (jn ?_)))))
 rw[if_neg (b9 z27)]at hfc
 exact⟨i+1,Ent.to ⟨Z,Z,tv⟩ Z,⟨by omega,hfc.symm.trans hi.2⟩,by omega⟩
 refine aR (ac (jb Z (jr ?_)))
 refine eR Z ?_
 refine⟨?_,Z⟩
 have hle:z.1.length≤i:=by have:=b9 z19;omega
 have h9:=hi.2
 rw[r8 hle]at h9
 rw[Ab hz h9.symm]
 exact .tup (.cons (.c .nils) (.cons (.c .d) .nil))
theorem IK(hf:Fs ts):MQ h1 h2 105 [.c (.rs 0 0 ts.length)] [(0,aD ts)] (aO (Dl (t2 ts)) [(0,aD ts)]):=by
 refine MC.shift 500 Z (gk (jH 46 [500] h1 h2 Tryz.func105 Z fun O hF=>?_))
 refine ac (jl Z (am ?_))
 refine jc Z (aN (js Z (ao O [500] (bin:=[aD ts]) Z Z Z Z (DP (ts:=ts) h1 h2 hf) Z Z Z Z Z Z (B0:=16000) Z Z (an (Ent.to (e':=[(15,Dk (BM ts)),(0,.c (.rs 500 0 ts.length)),(2,.c (.pt 2 0 0))]) (H':=[(2,.box [.d (.int .i64 0),.d .nils]),(500,aD ts)]) ⟨Z,Z,Z,tv⟩ Z) (jd Z (jc Z (jn (ae (ac (jb Z (jn (zc Z (fun z20=>?_) (fun z20=>?_)))))))))))))
 refine ac (js Z (jo Z (am ?_)))
 refine jc Z (jr ?_)
 refine eR Z ?_
 refine⟨?_,Z⟩
 rw[om (xS (xb (by simpa using z20)))]
 exact .tup (.cons (.agg (.cons .d (.cons .nils .nil))) (.cons (.c .nils) (.cons (.c .d) (.cons (.c .d) .nil))))
 refine af (ae (ac ?_))
 obtain⟨z,hz⟩:=xa (ts:=ts) (by simpa using z20)
 rw[ii hz]
 obtain⟨ha,hal,hb,hbl⟩:=jF hf (a:=z.1) (b:=z.2) hz
 refine js Z (jn (ak (ap (X:=Nat) (fun i=>⟨[(0,.c (.rs 500 0 ts.length)),(2,.c (.pt 2 0 0)),(7,nM z.2),(9,eI i)],[(2,.box [.d (.int .i64 0),.d .nils]),(500,aD ts)]⟩) (fun i=>i≤z.2.length∧kq ts (z.2.drop i)=kq ts z.2) (fun i=>z.2.length-i) 0 (Ent.to ⟨Z,Z,Z,Z,tv⟩ Z) ?_ (fun i hi=>?_))))
 exact⟨cG _,Z⟩
 refine ae (ac (jb Z (cW Z (js Z (jn (zc Z (fun z25=>?_) (fun z25=>?_)))))))
 refine af (ae (ak (ac ?_)))
 have hil:i<z.2.length:=by have:=bt z25;omega
 have hfc:=qV (ts:=ts) (rs:=z.2) hil
 have hro:=hb.get hil
 refine jb Z (jh Z Z (aj O Z Z Z Z (IG (r:=z.2.getD i default) h1 h2 hro.tm) (ab Z) Z Z Z Z (B0:=32000) Z Z (jl Z (am ?_))))
 refine jo Z (am ?_)
 refine aN (an (Ent.freeze 10 (e':=[(10,_),(0,_),(2,_),(7,_),(9,_)]) Z (.cons Z (.c (.box (cs:=Tm.cells (z.2.getD i default).tm) Z (ax Z))) (fe [0,2,7,9] Z)) (cb Z (.skip (cw Z .nil)))) ?_)
 refine js Z (ao O [500] (bin:=[aD ts]) Z Z Z Z (Gb (ts:=ts) (t:=(z.2.getD i default).tm) h1 h2 hro.tm) Z Z Z Z Z Z (B0:=35000) Z Z (an (Ent.to (e':=[(34,iG (aC ts (z.2.getD i default).tm)),(0,.c (.rs 500 0 ts.length)),(2,.c (.pt 2 0 0)),(7,nM z.2),(9,eI i),(10,ptr (Tm.cells (z.2.getD i default).tm))]) (H':=[(2,.box [.d (.int .i64 0),.d .nils]),(500,aD ts)]) ⟨Z,Z,Z,Z,Z,Z,tv⟩ Z) (jc Z (jl Z (am ?_)))))
 refine jo Z (am ?_)
 refine js Z (aN (js Z (jn (zc Z (fun z37=>?_) (fun z37=>?_)))))
 refine ae (fJ [_,_,_,_,_,_,_,_,_,_,_] [pn [] 0 1,pn [] 0 2,pn [] 0 2,pn [1,2] 0 2,pn [1,2,3] 0 2,pn (rg 1 4) 0 2,pe [] 0,pe [0,6] 1,pn (rg 0 8) 2 2,pn (rg 0 9) 2 2,pn (rg 0 10) 2 2] [6,7] [_,_,_] (ai (kc Z (V Z)) (ai (kc Z (kc Z (V Z))) (ai (kc Z (kc Z (V Z))) (ai (ai (vN Z) (ai (vN Z) (vN Z))) (ai (kc Z (kc Z (V Z))) (ai (kc Z (kc Z (V Z))) (ai (bg O (B0:=45000) Z Z Z Z (zo (t:=(z.2.getD i default).tm) h1 h2 (Small.of hro.tm).xs) (ab Z) Z Z Z Z Z) (ai (eS Z Z Z) (kc Z (kc Z (kc Z trivial))))))))))) ?_)
 refine jw [5,4,3,37,12,11,0,2,7,9,10] Z (bJ ?_)
 refine dJ ?_
 refine eR Z ?_
 refine⟨?_,Z⟩
 rw[if_pos z37,hi.2,←pG hz]at hfc
 rw[ol hfc]
 exact .tup (.cons (.agg (ax Z)) (.cons (.c .d) (.cons (.c .d) (.cons (.c .d) .nil))))
 refine af (ag (js Z (ji Z (js Z (jn ?_)))))
 rw[if_neg (by rw[z37];decide)]at hfc
 refine⟨i+1,((ah [2,500] (e':=[(0,_),(2,_),(7,_),(9,_)]) Z Z ⟨Z,Z,Z,Z,tv⟩ Z).trans bK),⟨by omega,hfc.symm.trans hi.2⟩,by omega⟩
 refine aR (ac (js Z (jo Z (am ?_))))
 refine jc Z (jr ?_)
 refine eR Z ?_
 refine⟨?_,Z⟩
 have hle:z.2.length≤i:=by have:=b9 z25;omega
 have h9:=hi.2
 rw[r9 hle,←pG hz]at h9
 rw[om h9.symm]
 exact .tup (.cons (.agg (.cons .d (.cons .nils .nil))) (.cons (.c .nils) (.cons (.c .d) (.cons (.c .d) .nil))))
theorem IM(hf:Fs ts):MQ h1 h2 103 [.c (.rs 0 0 ts.length)] [(0,aD ts)] (aO (Dj (tX ts)) [(0,aD ts)]):=by
 refine MC.shift 500 Z (gk (jH 25 [500] h1 h2 Tryz.func103 Z fun O hF=>?_))
 have hlen:=hf.len
 refine ac (js Z (jl Z (am ?_)))
 refine jn (ae (ac (js Z (jn (ak (ap (X:=Nat) (fun i=>⟨[(0,.c (.rs 500 0 ts.length)),(3,.c (.pt 3 0 0)),(4,eI i)],[(3,.box [.d (.int .i64 0),.d .nils]),(500,aD ts)]⟩) (fun i=>i≤ts.length∧pK ts (ts.length-i) i=fM ts) (fun i=>ts.length-i) 0 (Ent.to ⟨Z,Z,Z,tv⟩ Z) ?_ (fun i hi=>?_)))))))
 exact⟨cG _,Z⟩
 refine ae (ac (jb Z (db Z Z (js Z (jn (zc Z (fun z10=>?_) (fun z10=>?_)))))))
 refine af (ae (ak (ac ?_)))
 have hil:i<ts.length:=by have:=bt z10;omega
 have hget:=yF hil
 have hti:=hf.get hil
 refine jc Z (db Z Z (ao O [500] (bin:=[aD ts]) Z Z Z Z (Gc (ts:=ts) (t:=ts.getD i default) h1 h2 hget hti) Z Z Z Z Z Z (B0:=19000) Z Z (an (Ent.to (e':=[(18,iG (aC ts (ts.getD i default))),(0,.c (.rs 500 0 ts.length)),(3,.c (.pt 3 0 0)),(4,eI i)]) (H':=[(3,.box [.d (.int .i64 0),.d .nils]),(500,aD ts)]) ⟨Z,Z,Z,Z,tv⟩ Z) (jc Z (jl Z (am ?_))))))
 refine jo Z (am ?_)
 refine js Z (aN (js Z (jn (zc Z (fun z21=>?_) (fun z21=>?_)))))
 refine ae (fJ [_,_,_,_] [p0,p0,pz [0],pe [0,1,2] 0] [3] [_,_] (kc Z (kc Z (kc Z (ai (eS Z Z Z) trivial)))) ?_)
 refine jw [2,21,6,5,0,3,4] Z (bJ ?_)
 refine dJ ?_
 refine eR Z ?_
 refine⟨?_,Z⟩
 have hg:=zY hil z21
 rw[hi.2]at hg
 rw[nY hg]
 exact .tup (.cons (.c .d) (.cons (.agg (ax Z)) .nil))
 refine af (ag (js Z (ji Z (js Z (jn ?_)))))
 have hg:=zZ hil z21
 refine⟨i+1,((ah [3,500] (e':=[(0,_),(3,_),(4,_)]) Z Z ⟨Z,Z,Z,tv⟩ Z).trans bK),⟨by omega,hg.symm.trans hi.2⟩,by omega⟩
 refine aR (ac (jb Z (jo Z (am ?_))))
 refine jr ?_
 refine eR Z ?_
 refine⟨?_,Z⟩
 have hie:i=ts.length:=by have:=b9 z10;omega
 have h9:=hi.2
 rw[hie,Nat.sub_self]at h9
 rw[rP h9.symm]
 exact .tup (.cons (.c .d) (.cons (.agg (.cons .d (.cons .nils .nil))) .nil))
abbrev fK(ts:List Tm):Option (List Nd×List Nd):=jT (15-ts.length) ts
theorem yv{ts:List Tm}{i:Nat}(hl:ts.length=14)(h:fM ts=some i):fK ts=none:=by
 unfold fK;rw[show 15-ts.length=0+1 by omega,jT,h];simp only;rw[if_pos hl]
theorem A0{ts:List Tm}{i:Nat}(hl:ts.length<14)(h:fM ts=some i):fK ts=(fK (ts++[(aC ts (ts.getD i default)).1])).map fun z=>(dS i::z.1,z.2):=by
 unfold fK;rw[cp,du,show 15-ts.length=(15-(ts.length+1))+1 by omega,jT,h];simp only;rw[if_neg (by omega)]
theorem A2{ts:List Tm}(hl:ts.length≤14)(h:fM ts=none)(h2:(dj ts).2=true):fK ts=some ([c7 (dj ts).1],[]):=by
 unfold fK;rw[show 15-ts.length=(14-ts.length)+1 by omega,jT,h];simp only;rw[if_pos h2]
theorem qM{ts:List Tm}(hl:ts.length≤14)(h:fM ts=none)(h2:(dj ts).2=false)(h3:eQ ts=none):fK ts=none:=by
 unfold fK;rw[show 15-ts.length=(14-ts.length)+1 by omega,jT,h];simp only;rw[if_neg (by rw[h2];decide),h3]
theorem wm{ts:List Tm}{r:Rw}(hl:ts.length=14)(h:fM ts=none)(h2:(dj ts).2=false)(h3:eQ ts=some r):fK ts=none:=by
 unfold fK;rw[show 15-ts.length=0+1 by omega,jT,h];simp only;rw[if_neg (by rw[h2];decide),h3];simp only;rw[if_pos hl]
theorem wl{ts:List Tm}{r:Rw}(hl:ts.length≤14)(h:fM ts=none)(h2:(dj ts).2=false)(h3:eQ ts=some r)(h4:(aL (aC ts r.tm).1).2=false):fK ts=none:=by
 unfold fK;rw[show 15-ts.length=(14-ts.length)+1 by omega,jT,h];simp only;rw[if_neg (by rw[h2];decide),h3];simp only;split
 rfl
 rw[if_neg (by rw[h4];decide)]
theorem A1{ts:List Tm}{r:Rw}(hl:ts.length<14)(h:fM ts=none)(h2:(dj ts).2=false)(h3:eQ ts=some r)(h4:(aL (aC ts r.tm).1).2=true):fK ts=(fK (ts++[(aC ts r.tm).1])).map fun z=>(dn (aC ts r.tm).1::z.1,z.2++[c7 (eP r)]):=by
 unfold fK;rw[cp,du,show 15-ts.length=(15-(ts.length+1))+1 by omega,jT,h];simp only;rw[if_neg (by rw[h2];decide),h3];simp only;rw[if_neg (by omega),if_pos h4]
theorem lN{s:Sq}{b:Int}(hok:(aL s.goal).2=true)(h:fK (s.facts++[(aL s.goal).1])=none):cz s b=([],false):=by
 unfold fK at h;rw[cp,du]at h
 unfold cz;rw[if_pos hok,h]
theorem rW{s:Sq}{b:Int}{z:List Nd×List Nd}(hok:(aL s.goal).2=true)(h:fK (s.facts++[(aL s.goal).1])=some z):cz s b=if((z.1++z.2).length:Int)≤b then(z.1++z.2,true)else([],false):=by
 unfold fK at h;rw[cp,du]at h
 unfold cz;rw[if_pos hok,h]
theorem uu{s:Sq}{b:Int}(hok:(aL s.goal).2=false):cz s b=([],false):=by
 unfold cz;rw[if_neg (by rw[hok];decide)]
theorem En{ts:List Tm}(h:0≤(tX ts).1): ∃i,fM ts=some i:=by
 cases ht:fM ts with
 | some i=>exact⟨i,Z⟩
 | none=>rw[rP ht]at h;exact absurd h (by decide)
theorem Eo{ts:List Tm}(h: ¬0≤(tX ts).1):fM ts=none:=by
 cases ht:fM ts with
 | none=>rfl
 | some i=>rw[nY ht]at h;exact absurd (Int.natCast_nonneg i) h
theorem EP{ts:List Tm}(h:(t2 ts).2.2.2=true): ∃r,eQ ts=some r:=by
 cases ht:eQ ts with
 | some r=>exact⟨r,Z⟩
 | none=>rw[om ht]at h;cases h
theorem EQ{ts:List Tm}(h:(t2 ts).2.2.2=false):eQ ts=none:=by
 cases ht:eQ ts with
 | none=>rfl
 | some r=>rw[ol ht]at h;cases h
theorem Fs.snoc'{ts:List Tm}{t:Tm}(h:Fs ts)(ht:t.ok=true)(hl: ¬(ts.length:Int)=14):Fs (ts++[t]):=h.snoc ht (by omega)
theorem pj{s:Sq}(hs:dF s=true)(hok:(aL s.goal).2=true):Fs (s.facts++[(aL s.goal).1]):=by
 obtain⟨q1,q2,q3⟩:=fj hs
 exact Fs.snoc ⟨q1,by omega⟩ (lz hok) (by omega)
abbrev rA(z:List Nd×Bool):A:=.tup [nN z.1,eB z.2]
theorem ic{H:List (Nat×B)}:VR H (.tup [.c (.d .nils),eB false]) (rA ([],false)):=.tup (.cons (.c .nils) (.cons (.c .d) .nil))
structure PvI(C:List Tm)(x:List Tm×List Nd×List Nd):Prop where
  f:Fs x.1
  a:x.2.1.length≤x.1.length
  b:x.2.2.length≤x.1.length
  e:(fK x.1).map (fun z=>(x.2.1++z.1,z.2++x.2.2))=fK C
theorem PvI.none{C:List Tm}{x:List Tm×List Nd×List Nd}(h:PvI C x)(hn:fK x.1=none):fK C=none:=by rw[←h.e,hn];rfl
theorem PvI.zero{C:List Tm}(h:Fs C):PvI C (C,[],[]):=⟨h,cG _,cG _,by
  simp only[List.nil_append,List.append_nil]
  cases fK C<;>rfl⟩
theorem PvI.tig{C:List Tm}{x:List Tm×List Nd×List Nd}{i:Nat}(h:PvI C x)(hl: ¬(x.1.length:Int)=14)(hi:fM x.1=some i):PvI C (x.1++[(aC x.1 (x.1.getD i default)).1],x.2.1++[dS i],x.2.2):=by
 have h14:=h.f.len
 refine⟨h.f.snoc' (e6 (lJ hi).2.2) hl,by simp only[cp,du];have:=h.a;omega,by simp only[cp,du];have:=h.b;omega,?_⟩
 rw[←h.e,A0 (by omega) hi]
 cases fK (x.1++[(aC x.1 (x.1.getD i default)).1])<;>simp
theorem PvI.cut{C:List Tm}{x:List Tm×List Nd×List Nd}{r:Rw}(h:PvI C x)(hl: ¬(x.1.length:Int)=14)(h0:fM x.1= .none)(h2:(dj x.1).2=false)(h3:eQ x.1=some r)(h4:(aL (aC x.1 r.tm).1).2=true):PvI C (x.1++[(aC x.1 r.tm).1],x.2.1++[dn (aC x.1 r.tm).1],c7 (eP r)::x.2.2):=by
 have h14:=h.f.len
 refine⟨h.f.snoc' (e6 (j5 h.f h3).2) hl,by simp only[cp,du];have:=h.a;omega,by simp only[cp,du,dW];have:=h.b;omega,?_⟩
 rw[←h.e,A1 (by omega) h0 h2 h3 h4]
 cases fK (x.1++[(aC x.1 r.tm).1])<;>simp
theorem JC{o:Bool}{n:Nat}(h:(bif !o then true else decide ((n:Int)=14))=true):o=false∨n=14:=by
 cases o with
 | false=>exact .inl Z
 | true=>simp at h;right;omega
theorem HL{o:Bool}{n:Nat}(h:(bif !o then true else decide ((n:Int)=14))=false):o=true∧¬(n:Int)=14:=by
 cases o with
 | false=>simp at h
 | true=>simp at h;exact⟨rfl,by omega⟩
variable{s:Sq}
theorem Ib(hg:Small s.goal)(hn:s.facts.length≤1000)(hok:(aL s.goal).2=true):MQ h1 h2 102 [ptr s.cells] [] (Rows (.tup [.c (.rs 0 0 (s.facts++[(aL s.goal).1]).length),eB true]) [aD (s.facts++[(aL s.goal).1])]):=by
 refine cq (jB 23 h1 h2 Tryz.func102 Z fun O hF=>?_)
 refine ac (jb Z (aN (jc Z (aj O Z Z Z Z (zu (t:=s.goal) h1 h2 hg) (.cons (.c (.sub Z)) .nil) Z Z Z Z (B0:=11000) Z Z (jc Z (jl Z (jo Z (js Z (jn (ae (ac (jb Z (jn (zc Z (fun z14=>?_) (fun z14=>?_)))))))))))))))
 try simp only[bo]at z14
 rw[hok]at z14;cases z14
 try simp only[bo]at z14
 refine af (ae (jw [4,0] Z (rk [_,_,_,_,_,_,_,_,_,_] [p0,pz [0],pz [0,1],pz [0,1,2],pe [0,1,2,3] 0,pn [] 0 1,pn [5] 0 1,pe [0,1,2,3,4,5,6] 1,pn [0,1,2,3,4,5,6,7] 2 2,pn [0,1,2,3,4,5,6,7,8] 2 2] [4,7] 6 21 (.row false 2 [Tm.cells (aL s.goal).1]) [_,_] [_] [[],[20000]] (kf Z Z Z (kf Z Z Z (kf Z Z Z (kf Z Z Z (ai (ai (au (az (dO O (B0:=20000) Z Z Z Z (sM (ts:=s.facts) h1 h2) (ab Z) Z Z Z Z)) (az (dO O (B0:=20000) Z Z Z Z (sM (ts:=s.facts) h1 h2) (ab Z) Z Z Z Z))) Z) (ai (kf Z Z Z (kg Z Z Z)) (ai (ai (ai (az (cD O Z Z Z Z Z Z Z Z Z Z Z Z Z Z)) Z) (ai (az (cD O Z Z Z Z Z Z Z Z Z Z Z Z Z Z)) Z)) (ai (ai (au trivial (bW (own:=false) (xs:=s.facts.map Tm.cells) (ys:=[Tm.cells (aL s.goal).1]) (zs:=(s.facts++[(aL s.goal).1]).map Tm.cells) (n:=(s.facts++[(aL s.goal).1]).length) O Z Z Z Z Z Z Z Z Z Z Z Z Z Z Z Z (.row Z (bA _).symm) (.whole Z Z (.inr ⟨Z,Z⟩)) (by simp) Z (by simp;omega) (by simp;omega) (by simp) (by simp) Z)) Z) (ai (ai (au trivial (V Z)) Z) (ai (ai (au trivial (V Z)) Z) trivial)))))))))) ?_)))
 refine jw [3,2,4,0] Z (bJ ?_)
 refine dJ ?_
 refine⟨.inl Z,_,bK,_,Z,[22],by decide,Z,Z,Z⟩
theorem Gf(hs:dF s=true)(hb:1≤b∧b≤60)(hok:(aL s.goal).2=true):MQ h1 h2 67 [ptr s.cells,eI b] [] (Plain (rA (cz s b))):=by
 refine MC.data (jB 104 h1 h2 Tryz.func67 Z fun O hF=>?_)
 obtain⟨hs1,hs2,hs3⟩:=fj hs
 refine ac (jb Z (aN (js Z (ip O (B0:=21000) Z Z Z Z (Ib (s:=s) h1 h2 (Small.of hs3) (by omega) hok) (ab Z) Z Z Z Z Z (jd Z (js Z (jn (ae (ac (jb Z (jn (zc Z (fun z24=>?_) (fun z24=>?_)))))))))))))
 exact absurd z24 (by decide)
 refine af (ac (hp (aZ O Z Z Z Z Z Z Z Z Z Z Z) Z (am ?_)))
 refine js Z (aN (hp (aZ O Z Z Z Z Z Z Z Z Z Z Z) Z (am ?_)))
 refine js Z (jn (ae (ak (ap (X:=List Tm×List Nd×List Nd) (fun x=>⟨[(1,eI b),(6,.c (.rs 901 0 x.1.length)),(8,.c (.rs 902 0 x.2.1.length)),(9,.c (.rs 903 0 x.2.2.length))],[(902,dc x.2.1),(903,dc x.2.2),(901,aD x.1)]⟩) (fun x=>PvI (s.facts++[(aL s.goal).1]) x) (fun x=>15-x.1.length) ((s.facts++[(aL s.goal).1]),[],[]) (((((ah [25,26,21000] (e':=[(1,_),(6,_),(8,_),(9,_)]) Z Z ⟨Z,Z,Z,Z,tv⟩ Z).trans (aa 25 902 Z Z)).trans (aa 26 903 Z Z)).trans (aa 21000 901 Z Z))) ?_ (fun x hi=>?_)))))
 exact PvI.zero (pj hs hok)
 refine ak (ac ?_)
 have hlen:=hi.f.len;have hla:=hi.a;have hlb:=hi.b
 refine js Z (ao O [901] (bin:=[aD x.1]) Z Z Z Z (IM (ts:=x.1) h1 h2 hi.f) Z Z Z Z Z Z (B0:=30000) Z Z (an (Ent.to (e':=[(29,Dj (tX x.1)),(1,eI b),(6,.c (.rs 901 0 x.1.length)),(8,.c (.rs 902 0 x.2.1.length)),(9,.c (.rs 903 0 x.2.2.length))]) (H':=[(902,dc x.2.1),(903,dc x.2.2),(901,aD x.1)]) ⟨Z,Z,Z,Z,Z,tv⟩ Z) (jc Z (jl Z (am ?_)))))
 refine js Z (jo Z (am ?_))
 refine jn (ae (ac (jb Z (jn (zc Z (fun z33=>?_) (fun z33=>?_))))))
 refine ae (ac ?_)
 obtain⟨i,hti⟩:=En (bt z33)
 rw[nY hti]
 refine js Z (db Z Z (js Z (jn (zc Z (fun z36=>?_) (fun z36=>?_)))))
 refine ac (jb Z (jr ?_))
 refine eR Z ?_
 rw[lN hok (hi.none (yv (by have:=bt z36;omega) hti))]
 exact ic
 refine af (ac (jc Z (hp (aZ O Z Z Z Z Z Z Z Z Z Z Z) Z (an (Ent.rowLe 40 Z (NLess.cons (ys:=[]) (y:=Nd.cells (dS i)) (cr (cr (cr (.cons (.nil (sz:=1)) (.cons (.nil (sz:=1)) .nil))))) .nil)) (am ?_)))))
 refine am ?_
 refine hp (ko (own:=false) (xs:=(x.2.1).map Nd.cells) (ys:=[Nd.cells (dS i)]) (zs:=(x.2.1++[dS i]).map Nd.cells) (n:=(x.2.1++[dS i]).length) O Z (.row Z (bA _).symm) (.whole Z Z (.inr ⟨Z,Z⟩)) (by simp) Z (by simp only[bA,cp,du,dW,List.length_nil];omega) (by simp only[bA,cp,du,dW,List.length_nil];omega) (by rw[List.map_append];rfl) (bA _)) Z (am ?_)
 refine am ?_
 refine js Z (aN (jb Z (hp (aZ O Z Z Z Z Z Z Z Z Z Z Z) Z (am ?_))))
 refine hp (ko (own:=false) (xs:=(x.1).map Tm.cells) (ys:=[Tm.cells (aC x.1 (x.1.getD i default)).1]) (zs:=(x.1++[(aC x.1 (x.1.getD i default)).1]).map Tm.cells) (n:=(x.1++[(aC x.1 (x.1.getD i default)).1]).length) O Z (.row Z (bA _).symm) (.whole Z Z (.inr ⟨Z,Z⟩)) (by simp) Z (by simp only[bA,cp,du,dW,List.length_nil];omega) (by simp only[bA,cp,du,dW,List.length_nil];omega) (by rw[List.map_append];rfl) (bA _)) Z (am ?_)
 refine am ?_
 refine js Z (jn (aR ?_))
 refine⟨(x.1++[(aC x.1 (x.1.getD i default)).1],x.2.1++[dS i],x.2.2),(((ah [41,903,45] (e':=[(1,_),(6,_),(8,_),(9,_)]) Z Z ⟨Z,Z,Z,Z,tv⟩ Z).trans (aa 41 902 Z Z)).trans (aa 45 901 Z Z)),hi.tig (b9 z36) hti,by simp only[cp,du];have:=b9 z36;omega⟩
 refine af (ac ?_)
 have htn:=Eo (b9 z33)
 refine an (ah [902,903,901] (e':=[(1,_),(6,_),(8,_),(9,_)]) Z Z ⟨Z,Z,Z,Z,tv⟩ Z) (js Z (ao O [901] (bin:=[aD x.1]) Z Z Z Z (IL (ts:=x.1) h1 h2 hi.f) Z Z Z Z Z Z (B0:=49000) Z Z (an (Ent.to (e':=[(48,zA (dj x.1)),(1,eI b),(6,.c (.rs 901 0 x.1.length)),(8,.c (.rs 902 0 x.2.1.length)),(9,.c (.rs 903 0 x.2.2.length))]) (H':=[(902,dc x.2.1),(903,dc x.2.2),(901,aD x.1)]) ⟨Z,Z,Z,Z,Z,tv⟩ Z) (jd Z (js Z (jn (ae (ac (js Z (jn (zc Z (fun z51=>?_) (fun z51=>?_))))))))))))
 refine ac (js Z ?_)
 have hrl:=(td hi.f z51).2
 refine js Z (aj O Z Z Z Z (t6 (xs:=(dj x.1).1) h1 h2) (ab Z) Z Z Z Z (B0:=55000) Z Z (js Z (hp (aZ O Z Z Z Z Z Z Z Z Z Z Z) Z (an (Ent.rowLe 56 Z (NLess.cons (ys:=[]) (y:=Nd.cells (c7 (dj x.1).1)) (cr (cr (cr (.cons (.nil (sz:=1)) (.cons .refl .nil))))) .nil)) (am ?_)))))
 refine am ?_
 refine hp (ko (own:=false) (xs:=(x.2.1).map Nd.cells) (ys:=[Nd.cells (c7 (dj x.1).1)]) (zs:=(x.2.1++[c7 (dj x.1).1]).map Nd.cells) (n:=(x.2.1++[c7 (dj x.1).1]).length) O Z (.row Z (bA _).symm) (.whole Z Z (.inr ⟨Z,Z⟩)) (by simp) Z (by simp only[bA,cp,du,dW,List.length_nil];omega) (by simp only[bA,cp,du,dW,List.length_nil];omega) (by rw[List.map_append];rfl) (bA _)) Z (am ?_)
 refine am ?_
 refine js Z (jn (aR (ac (jb Z (hp (ko (own:=false) (xs:=(x.2.1++[c7 (dj x.1).1]).map Nd.cells) (zs:=(x.2.1++[c7 (dj x.1).1]++x.2.2).map Nd.cells) (n:=(x.2.1++[c7 (dj x.1).1]++x.2.2).length) O Z (.row Z (bA _).symm) (.whole Z (bA _).symm (.inr ⟨Z,Z⟩)) (by simp) Z (by simp only[bA,cp,du,dW,List.length_nil];omega) (by simp only[bA,cp,du,dW,List.length_nil];omega) (by rw[←List.map_append]) (bA _)) Z (am ?_))))))
 refine am ?_
 refine js Z (jn (ae (ac (js Z ?_))))
 have hz:=hi.e
 rw[A2 (by omega) htn z51]at hz
 have hpv:=rW (b:=b) hok hz.symm
 have hl9:(x.2.1++[c7 (dj x.1).1]++x.2.2).length≤40:=by simp only[cp,du];omega
 refine db Z Z (jb Z (jn (zc Z (fun z102=>?_) (fun z102=>?_))))
 refine ac (jb Z (jr ?_))
 refine eR Z ?_
 rw[hpv,if_neg (by have:=bt z102;simpa using this)]
 exact ic
 refine af (ac (jc Z (jr ?_)))
 refine eR Z ?_
 rw[hpv,if_pos (by have:=b9 z102;simpa using this)]
 exact .tup (.cons (.c (.whole Z (by simp))) (.cons (.c .d) .nil))
 refine af (ac ?_)
 have hrf:(dj x.1).2=false:=z51
 refine an (ah [902,903,901] (e':=[(1,_),(6,_),(8,_),(9,_)]) Z Z ⟨Z,Z,Z,Z,tv⟩ Z) (js Z (ao O [901] (bin:=[aD x.1]) Z Z Z Z (IK (ts:=x.1) h1 h2 hi.f) Z Z Z Z Z Z (B0:=61000) Z Z (an (Ent.to (e':=[(60,Dl (t2 x.1)),(1,eI b),(6,.c (.rs 901 0 x.1.length)),(8,.c (.rs 902 0 x.2.1.length)),(9,.c (.rs 903 0 x.2.2.length))]) (H':=[(902,dc x.2.1),(903,dc x.2.2),(901,aD x.1)]) ⟨Z,Z,Z,Z,Z,tv⟩ Z) (jd Z (js Z (jl Z (am ?_)))))))
 refine jo Z (am ?_)
 refine jc Z (jn (ae (ac (jc Z (ar 3 Z Z Z (fun hx=>nz hx Z (ny hx (vI Z Z) Z (nz hx Z (AN.nil)))) Z Z (st (ay O Z Z Z Z Z) Z (jn (zc Z (fun z71=>?_) (fun z71=>?_)))))))))
 refine ac (jb Z (jr ?_))
 refine eR Z ?_
 rw[lN hok (hi.none (by rcases JC z71 with h|h;exact qM hlen htn hrf (EQ h);cases hcr:eQ x.1 with|none=>exact qM hlen htn hrf hcr|some r=>exact wm h htn hrf hcr))]
 exact ic
 refine af (ac ?_)
 obtain⟨hcT,h14⟩:=HL z71
 obtain⟨r,hcr⟩:=EP hcT
 obtain⟨hro,hsr⟩:=j5 hi.f hcr
 have hTo:=e6 hsr
 have hrn:=hro.n
 rw[ol hcr]
 dsimp only
 refine an (Ent.freeze 14 (e':=[(14,_),(15,_),(16,_),(1,_),(6,_),(8,_),(9,_)]) Z (.cons Z (.c (.box (cs:=Tm.cells (aC x.1 r.tm).1) Z (ax Z))) (fe [15,16,1,6,8,9] Z)) (.skip (cw Z (cw Z (cw Z .nil))))) ?_
 refine aj O Z Z Z Z (zu (t:=(aC x.1 r.tm).1) h1 h2 (Small.of hTo)) (ab Z) Z Z Z Z (B0:=74000) Z Z (jd Z (jn (ae (ac (jb Z (jn (zc Z (fun z77=>?_) (fun z77=>?_))))))))
 refine ac (jb Z (jr ?_))
 refine eR Z ?_
 rw[lN hok (hi.none (wl hlen htn hrf hcr (by simpa using z77)))]
 exact ic
 refine af (ac ?_)
 have hop:(aL (aC x.1 r.tm).1).2=true:=by simpa using z77
 refine jc Z (hp (aZ O Z Z Z Z Z Z Z Z Z Z Z) Z (an (Ent.rowLe 81 Z (NLess.cons (ys:=[]) (y:=Nd.cells (dn (aC x.1 r.tm).1)) (cr (cr (cr (cr (.cons (.nil (sz:=1)) .nil))))) .nil)) (am ?_)))
 refine am ?_
 refine hp (ko (own:=false) (xs:=(x.2.1).map Nd.cells) (ys:=[Nd.cells (dn (aC x.1 r.tm).1)]) (zs:=(x.2.1++[dn (aC x.1 r.tm).1]).map Nd.cells) (n:=(x.2.1++[dn (aC x.1 r.tm).1]).length) O Z (.row Z (bA _).symm) (.whole Z Z (.inr ⟨Z,Z⟩)) (by simp) Z (by simp only[bA,cp,du,dW,List.length_nil];omega) (by simp only[bA,cp,du,dW,List.length_nil];omega) (by rw[List.map_append];rfl) (bA _)) Z (am ?_)
 refine am ?_
 refine js Z (aN (an (ah [82,903,901] (e':=[(14,_),(15,_),(16,_),(1,_),(6,_),(8,_),(9,_)]) Z Z ⟨Z,Z,Z,Z,Z,Z,Z,tv⟩ Z) (js Z (ip O (B0:=85000) Z Z Z Z (B4 (xs:=r.ms) h1 h2) (ab Z) Z Z Z Z Z (js Z (hp (bz O Z Z Z) Z (am ?_)))))))
 refine am ?_
 refine hp (cu (zs:=(eP r).map fun n=>[.int .i64 n]) (n:=(eP r).length) O Z Z Z Z Z Z Z Z Z Z Z Z Z Z Z Z (.row Z (bA _).symm) Z Z (by decide) Z (by simp;omega) (by simp;omega) (List.map_append (f:=fun n=>[D.int .i64 n]) (l₁:=r.ms) (l₂:=[(bk r.tm.xs:Int)])).symm (bA _)) Z (am ?_)
 refine am ?_
 refine an (Ent.freeze 87 (e':=[(87,_),(14,_),(1,_),(6,_),(8,_),(9,_)]) Z (.cons Z (.c (.row Z (bA _).symm)) (fe [14,1,6,8,9] Z)) (by first|exact .skip (cw Z (cw Z (cw Z .nil)))|exact cw Z (.skip (cw Z (cw Z .nil)))|exact cw Z (cw Z (.skip (cw Z .nil))))) ?_
 refine js Z (hp (aZ O Z Z Z Z Z Z Z Z Z Z Z) Z (an (Ent.rowLe 89 Z (NLess.cons (ys:=[]) (y:=Nd.cells (c7 (eP r))) (cr (cr (cr (.cons (.nil (sz:=1)) (.cons .refl .nil))))) .nil)) (am ?_)))
 refine am ?_
 refine js Z (hp (ko (own:=false) (xs:=[Nd.cells (c7 (eP r))]) (ys:=(x.2.2).map Nd.cells) (zs:=(c7 (eP r)::x.2.2).map Nd.cells) (n:=(c7 (eP r)::x.2.2).length) O Z (.row Z Z) (.whole Z (bA _).symm (.inr ⟨Z,Z⟩)) (by simp) Z (by simp only[bA,cp,du,dW,List.length_nil];omega) (by simp only[bA,cp,du,dW,List.length_nil];omega) Z (bA _)) Z (am ?_))
 refine am ?_
 refine js Z (jn (ag (jb Z (hp (aZ O Z Z Z Z Z Z Z Z Z Z Z) Z (am ?_)))))
 refine hp (ko (own:=false) (xs:=(x.1).map Tm.cells) (ys:=[Tm.cells (aC x.1 r.tm).1]) (zs:=(x.1++[(aC x.1 r.tm).1]).map Tm.cells) (n:=(x.1++[(aC x.1 r.tm).1]).length) O Z (.row Z (bA _).symm) (.whole Z Z (.inr ⟨Z,Z⟩)) (by simp) Z (by simp only[bA,cp,du,dW,List.length_nil];omega) (by simp only[bA,cp,du,dW,List.length_nil];omega) (by rw[List.map_append];rfl) (bA _)) Z (am ?_)
 refine am ?_
 refine js Z (jn ?_)
 refine⟨(x.1++[(aC x.1 r.tm).1],x.2.1++[dn (aC x.1 r.tm).1],c7 (eP r)::x.2.2),((((ah [82,91,95] (e':=[(1,_),(6,_),(8,_),(9,_)]) Z Z ⟨Z,Z,Z,Z,tv⟩ Z).trans (aa 82 902 Z Z)).trans (aa 91 903 Z Z)).trans (aa 95 901 Z Z)),hi.cut h14 htn hrf hcr hop,by simp only[cp,du];omega⟩
theorem Gg(hs:dF s=true)(hok:(aL s.goal).2=false):MQ h1 h2 67 [ptr s.cells,eI b] [] (Plain (rA (cz s b))):=by
 refine MC.data (jB 104 h1 h2 Tryz.func67 Z fun O hF=>?_)
 obtain⟨hs1,hs2,hs3⟩:=fj hs
 refine ac (jb Z (aN (js Z (aj O Z Z Z Z (J3 (s:=s) h1 h2 (Small.of hs3) (by omega)) (ab Z) Z Z Z Z (B0:=21000) Z Z (jd Z (js Z (jn (ae (ac (jb Z (jn (zc Z (fun z24=>?_) (fun z24=>?_)))))))))))))
 refine ac (jb Z (jr ?_))
 refine eR Z ?_
 rw[uu hok]
 exact ic
 rw[vZ,hok]at z24;cases z24
theorem IP{L:Nat}(h1:4096≤L)(h2:L≤1073741824){s:Sq}{b:Int}(hs:dF s=true)(hb:1≤b∧b≤60):MC Tryz.prog L 67 [ptr s.cells,eI b] [] (Plain (rA (cz s b))):=by
 cases hok:(aL s.goal).2 with
 | true=>exact Gf h1 h2 hs hb hok
 | false=>exact Gg h1 h2 hs hok
theorem I5{a b:Bool}(h:(bif !a then true else !b)=true):(a&&b)=false:=by cases a<;>cases b<;>simp_all
theorem I6{a b:Bool}(h:(bif !a then true else !b)=false):a=true∧b=true:=by cases a<;>cases b<;>simp_all
theorem mQ{b:Int}(h:kB b=true):1≤b∧b≤60:=by simpa[kB]using h
theorem pV{s:Sq}{b:Int}(h1:dF s=true)(h2:kB b=true):jm s b=cz s b:=by unfold jm;rw[h1,h2];rfl
theorem GD{a:Bool}(h:(!a)=true):a=false:=by simpa using h
theorem Gr{a:Bool}(h:(!a)=false):a=true:=by simpa using h
theorem xk:MQ h1 h2 35 [eI b] [] (Plain (eB (kB b))):=by
 refine aB ?_ Z
 refine jB 5 h1 h2 Tryz.func35 Z fun O hF=>?_
 refine ac (js Z (aN (js Z (lo Z (Gw h1 h2) 5000 Z (js Z (jr ?_))))))
 refine eR Z ?_
 rfl
abbrev C6(s:Sq)(b:Int):List D:=C7 (cz s b).1
abbrev Do(ss:List Sq)(b:Int):B:=.row false 1 (ss.map fun s=>C6 s b)
theorem xZ{ss:List Sq}(h:ss.all dF=true){i:Nat}(hi:i<ss.length):dF (ss.getD i default)=true:=by rw[aw hi];exact List.all_eq_true.1 h _ (List.getElem_mem hi)
theorem uZ{b:Int}{ss:List Sq}{i:Nat}(h:i5 b ss=(ss.take i).map fun s=>(cz s b).1)(hi:i≤ss.length):(i5 b ss).map C7=(ss.take i).map fun s=>C6 s b:=by rw[h,List.map_map];rfl
variable{ss:List Sq}
theorem DV(hs:ss.all dF=true)(hb:1≤b∧b≤60):MQ h1 h2 37 [mG ss,eI b] [] (Plain (pU (i5 b ss))):=by
 refine MC.data (jB 31 h1 h2 Tryz.func37 Z fun O hF=>?_)
 have hl:ss.length≤L:=by simpa[As.fact,A.fact,M.fact,D.fact,Ds.fact]using hF.1.1
 refine ac (js Z (aN (hp (aZ O Z Z Z Z Z Z Z Z Z Z Z) Z (am ?_))))
 refine js Z (jn (ae (ac (js Z (jn (ak (ap (X:=Nat) (fun i=>⟨[(0,mG ss),(1,eI b),(5,.c (.rs 900 0 i)),(6,eI i)],[(900,Do (ss.take i) b)]⟩) (fun i=>i≤ss.length∧∀j (h:j<ss.length),j<i→(cz ss[j] b).2=true) (fun i=>ss.length-i) 0 ((aa 9 900 Z Z).trans (Ent.to ⟨Z,Z,Z,Z,tv⟩ Z)) ?_ (fun i hi=>?_))))))))
 exact⟨cG _,fun j h hj=>absurd hj (Nat.not_lt_zero j)⟩
 refine ae (ac (jb Z (cW Z (js Z (jn (zc Z (fun z13=>?_) (fun z13=>?_)))))))
 refine af (ae (ak (ac ?_)))
 have hil:i<ss.length:=by have:=bt z13;omega
 refine jb Z (jh Z Z (js Z (aj O Z Z Z Z (IP (s:=ss.getD i default) (b:=b) h1 h2 (xZ hs hil) hb) (ab Z) Z Z Z Z (B0:=22000) Z Z (jd Z (js Z (jn (ae (ac (jb Z (jn (zc Z (fun z25=>?_) (fun z25=>?_))))))))))))
 refine aR (ac (jb Z (jr ?_)))
 refine eR Z ?_
 have hst:=uZ (yS hil hi.2 (GD z25)) hi.1
 show VR _ _ (.c (.d (.slc 1 ((i5 b ss).map C7))))
 rw[hst]
 exact .v (.c (.whole Z (by simp;omega)))
 refine af (ag (jb Z (hp (aZ O Z Z Z Z Z Z Z Z Z Z Z) Z (am ?_))))
 refine hp (ko (own:=false) (xs:=(ss.take i).map fun s=>C6 s b) (ys:=[C6 (ss.getD i default) b]) (zs:=(ss.take (i+1)).map fun s=>C6 s b) (n:=i+1) O Z (.row Z (by simp;omega)) (.whole Z Z (.inr ⟨Z,Z⟩)) (by simp) Z (by simp;omega) (by simp;omega) (by rw[List.take_succ_eq_append_getElem hil,List.map_append,aw hil];rfl) (by simp;omega)) Z (am ?_)
 refine js Z (jn (ag (js Z (ji Z (js Z (jn ?_))))))
 refine⟨i+1,((ah [29] (e':=[(0,_),(1,_),(5,_),(6,_)]) Z Z ⟨Z,Z,Z,Z,tv⟩ Z).trans (aa 29 900 Z Z)),⟨by omega,fun j h hj=>?_⟩,by omega⟩
 by_cases e:j=i
 subst e;rw[aw h]at z25;exact Gr z25
 exact hi.2 j h (by omega)
 refine aR (ac (jb Z (jr ?_)))
 refine eR Z ?_
 obtain rfl:i=ss.length:=by have:=b9 z13;omega
 have hst:=uZ (b:=b) (ss:=ss) (i:=ss.length) (by rw[List.take_length];exact sr fun j hj=>hi.2 j hj hj) (cQ _)
 show VR _ _ (.c (.d (.slc 1 ((i5 b ss).map C7))))
 rw[hst]
 exact .v (.c (.whole Z (by simp)))
theorem lv{ss:List Sq}(h:zg ss=true):ss.all dF=true∧ss.length≤60:=by
 unfold zg at h;rw[bC,decide_eq_true_eq]at h;exact⟨h.1,by omega⟩
theorem HV{x:Int}(hx: -4000000000000≤x∧x≤4000000000000):MQ h1 h2 170 [eI x] [] (Plain (eI x.natAbs)):=by
 refine aB ?_ Z
 refine jB 7 h1 h2 Tryz.func170 Z fun O hF=>?_
 refine ac (js Z (aN (jb Z (ji Z (jb Z (jr ?_))))))
 refine eR Z ?_
 exact congrArg eI (show(if 0-x>x then 0-x else x)=(x.natAbs:Int) by split<;>omega)
theorem HY(ht: ∀x∈xs,-4000000000000≤x∧x≤4000000000000):MQ h1 h2 146 [bO xs] [] (Plain (eI (bk xs))):=by
 refine aB ?_ Z
 refine jB 26 h1 h2 Tryz.func146 Z fun O hF=>?_
 have hl:xs.length≤L:=by simpa[As.fact,A.fact,M.fact,D.fact,Ds.fact]using hF.1.1
 refine ac (js Z (aN (js Z (jn (ae (ac (js Z (cW Z (js Z (jn (ak (ap (X:=Nat) (fun i=>⟨[(3,eI (bk (xs.take i))),(8,bO xs),(9,eI xs.length),(10,eI i)],[]⟩) (fun i=>i≤xs.length) (fun i=>xs.length-i) 0 (Ent.env ⟨Z,Z,Z,Z,tv⟩) ?_ (fun i hi=>?_)))))))))))))
 exact cG _
 refine ac (js Z (jn (ae (zc Z (fun z11=>?_) (fun z11=>?_)))))
 try simp only[bo]at z11
 refine af (ae (ak (ac ?_)))
 have hi0:=hi
 have hx:=ht _ (List.getElem_mem (show i<xs.length by omega))
 rw[←aw (by omega)]at hx
 have hgs:=lP (xs:=xs) (i:=i) (by omega)
 have hgl:bk (xs.take i)≤4000000000000:=qp fun x hx=>by have:=ht x (List.mem_of_mem_take hx);omega
 refine st (aQ O Z Z Z Z Z Z Z Z (dx (by omega))) Z (jb Z (aN (jb Z (lo Z (HV (x:=xs.getD i default) h1 h2 hx) 17000 Z (jb Z (jn (ae (ak (ap (X:=Nat×Nat) (fun z=>⟨[(8,bO xs),(9,eI xs.length),(10,eI i),(6,eI z.1),(7,eI z.2)],[]⟩) (fun z=>Nat.gcd z.1 z.2=Nat.gcd (bk (xs.take i)) (xs.getD i default).natAbs∧z.1≤4000000000000∧z.2≤4000000000000) (fun z=>z.2) (bk (xs.take i),(xs.getD i default).natAbs) (Ent.env ⟨Z,Z,Z,Z,Z,tv⟩) ?_ (fun z hi=>?_))))))))))
 exact⟨Z,hgl,by show(xs.getD i default).natAbs≤4000000000000;omega⟩
 have hz: -4000000000000≤(z.1:Int).tmod z.2∧(z.1:Int).tmod z.2≤4000000000000:=by have:=Nat.mod_le z.1 z.2;rw[←Int.ofNat_tmod];omega
 refine ae (ac (jb Z (jn (zc Z (fun z18=>?_) (fun z18=>?_)))))
 try simp only[bo]at z18
 refine af (ak (ov O _ [_,_,_,_,_,_] [p0,p0,p0,pz [1,2],pz [0,1],pz (rg 0 5)] [] [[],[],[6],[6],[],[6]] [_] Z Z (by decide) (by decide) (by kernel_rfl) (kc Z (kc Z (kc Z (ai (jP O Z Z Z Z (by omega) (by omega) (by omega)) (kc Z (kc Z trivial)))))) ?_))
 have hm:z.1%z.2<z.2:=Nat.mod_lt _ (by omega)
 refine⟨(z.2,z.1%z.2),Ent.env ⟨Z,Z,Z,Z,Z,tv⟩,⟨?_,hi.2.2,by show z.1%z.2≤4000000000000;omega⟩,hm⟩
 show Nat.gcd z.2 (z.1%z.2)=_
 rw[←hi.1,Nat.gcd_comm z.2,←Nat.gcd_rec,Nat.gcd_comm]
 try simp only[bo]at z18
 refine aR (ag (jb Z (jn (ag (ji Z (js Z (jn ?_)))))))
 have hz0:z.2=0:=by omega
 have hz1:z.1=bk (xs.take (i+1)):=by rw[hgs,←hi.1,hz0,Nat.gcd_zero_right]
 rw[hz1]
 exact⟨i+1,Ent.env ⟨Z,Z,Z,Z,tv⟩,by omega,by omega⟩
 try simp only[bo]at z11
 refine aR (ac (jb Z (jr ?_)))
 refine eR Z ?_
 obtain rfl:i=xs.length:=by omega
 rw[List.take_length]
theorem Er{xs:List Int}{n:Nat}(h0:0<n)(h:n≤xs.length):(xs.map fun n=>[D.int .i64 n])[0+((n:Int)-1).toNat]? = some [D.int .i64 (xs.getD (n-1) default)]:=by
 rw[Nat.zero_add,show((n:Int)-1).toNat=n-1 by omega,List.getElem?_map,List.getElem?_eq_getElem (by omega),aw (by omega)];rfl
theorem HX{c:Int}(hl:xs.length≤L):MQ h1 h2 179 [.agg [.d (.int .i64 c),.rs 0 0 xs.length]] [(0,aE xs)] (aO (.agg [.d (.int .i64 c),.rs 0 0 (bv xs).length]) [(0,aE xs)]):=by
 refine MC.shift 500 Z (MC.keep [500] (bs:=[aE xs]) Z Z (jH 26 [500] h1 h2 Tryz.func179 Z fun O hF=>?_))
 refine ac (jx Z (jl Z (aN (jb Z (db Z Z (js Z (jn (ae (ak (ap (X:=Nat) (fun n=>⟨[(1,.c (.pt 1 0 0)),(2,.c (.pt 2 0 0)),(3,eI n)],[(1,.box [.d (.int .i64 c),.rs 500 0 xs.length]),(2,.box [.d (.int .i64 0),.d .nils]),(500,aE xs)]⟩) (fun n=>n≤xs.length∧bv (xs.take n)=bv xs) (fun n=>n) xs.length (Ent.env ⟨Z,Z,Z,tv⟩) ?_ (fun n hi=>?_)))))))))))
 exact⟨cQ _,by rw[List.take_length]⟩
 refine ae (ac (jc Z (ar 7 Z Z Z (fun hx=>nz hx Z (nz hx Z (nz hx Z (ny hx (vF Z) Z (ny hx (vI Z Z) Z (ny hx (bc O (ex:=[.int .i64 (xs.getD (n-1) default)]) Z Z Z Z (Er (by first|omega|(simp at *;omega)) (by first|omega|(simp at *;omega))) Z) Z (nz hx Z (AN.nil)))))))) Z Z (st (aq O Z Z Z Z Z) Z (jn (zc Z (fun z17=>?_) (fun z17=>?_)))))))
 refine af (ak (ag (js Z (ji Z (js Z (jn ?_))))))
 rw[Bool.cond_false_right,bC,decide_eq_true_eq,decide_eq_true_eq]at z17
 obtain⟨k,hk⟩: ∃k,n=k+1:=⟨n-1,by omega⟩
 subst hk
 have hk2:((k+1:Nat):Int)-1=k:=by omega
 refine⟨k,Ent.to ⟨Z,Z,by rw[hk2];rfl,tv⟩ Z,⟨by omega,?_⟩,Nat.lt_succ_self k⟩
 rw[←hi.2,nV (by omega) (by simpa using z17.2)]
 refine aR (ac (jc Z ?_))
 have hd:bv (xs.take n)=xs.take n:=lG hi.1 (by
  rw[Bool.cond_false_right]at z17
  rcases Nat.eq_zero_or_pos n with h0|h0
  ·
   exact .inl h0
  ·
   refine .inr (fun h9=>?_)
   rw[h9]at z17;simp at z17;omega)
 have ht:(bv xs).length=n:=by have:=hi.1;rw[←hi.2,hd,List.length_take];omega
 refine st ((dV O Z Z ⟨by omega,by omega⟩).cast (v':=.c (.rs 500 0 (bv xs).length)) (by rw[ht];simp)) Z (js Z (jo Z (aN (js Z (jo Z (jr ?_))))))
 refine eR Z ?_
 exact⟨Z,Z⟩
theorem HW{L:Nat}(h1:4096≤L)(h2:L≤1073741824){c:Int}{xs:List Int}{n:Nat}(hl:xs.length=n)(hn:n≤L):MC Tryz.prog L 179 [.agg [.d (.int .i64 c),.rs 0 0 n]] [(0,aE xs)] (aO (.agg [.d (.int .i64 c),.rs 0 0 (bv xs).length]) [(0,aE xs)]):=by
 subst hl;exact HX h1 h2 (by omega)
variable{ms:List Int}
theorem H5(hc:CtxOk ts)(hm:ms.all num=true)(hle:ts.length≤ms.length):MQ h1 h2 157 [bM ts,bO ms] [] (Rows (.agg [.d (.int .i64 (bm Tm.c ts ms)),.rs 0 0 (bv (bE ts ms)).length]) [aE (bE ts ms)]):=by
 refine cq (jB 55 h1 h2 Tryz.func157 Z fun O hF=>?_)
 have hl:ms.length≤L:=by simpa[As.fact,A.fact,M.fact,D.fact,Ds.fact]using hF.2.1.1
 have hlc:=hc.len
 refine ac (jl Z (aN (hp (f6 O Z Z Z Z Z Z Z Z Z (by first|omega|(simp at *;omega)) (by first|omega|(simp at *;omega)) (by first|omega|(simp at *;omega)) (by first|omega|(dsimp only;omega)|(simp only[bo]at *;omega)) (by first|omega|(simp at *;omega)) Z Z Z) Z (js Z (jl Z (jo Z (jn (ae (ac (js Z (cW Z (js Z (jn (ak (ap (X:=Nat) (fun i=>⟨[(1,bO ms),(4,.c (.pt 4 0 0)),(5,.c (.pt 5 0 0)),(12,bM ts),(13,eI ts.length),(14,eI i)],[(4,.box [.d (.int .i64 0),.d .nils]),(5,.box [.d (.int .i64 (bm Tm.c (ts.take i) (ms.take i))),.rs 10 0 10]),(10,aE (bE (ts.take i) (ms.take i)))]⟩) (fun i=>i≤ts.length) (fun i=>ts.length-i) 0 (Ent.to ⟨Z,Z,Z,Z,Z,Z,tv⟩ Z) ?_ (fun i hi=>?_))))))))))))))))
 exact cG _
 refine ac (js Z (jn (ae (zc Z (fun z15=>?_) (fun z15=>?_)))))
 try simp only[bo]at z15
 refine af (ae (ak (ac (js Z (jh Z Z (js Z (jl Z (js Z (jo Z (jn (ae ?_)))))))))))
 have hi0:=hi
 have hts:=Small.of (hc.get (show i<ts.length by omega))
 have hd1:=j1 (f:=Tm.c) (ts:=ts) (ms:=ms) (fun t ht=>(Small.of (hc.ok t ht)).c) hm hi (by omega)
 have hd2:=gL (f:=Tm.c) (ts:=ts) (ms:=ms) (i:=i) (by omega) (by omega)
 have hmi:num (ms.getD i default)=true:=by rw[aw (by omega)];exact List.all_eq_true.1 hm _ (List.getElem_mem _)
 have hmu:=ff hmi hts.c
 refine fJ [_,_,_,_,_,_,_,_,_,_,_,_] [p0,pz [0],p0,p0,pz [2,3],pz [2,3,4],p0,pz [6],pz (rg 2 6),pz (rg 0 9),pz (rg 0 10),pe (rg 0 11) 0] [11] [_,_] (k4 Z (ai (vN Z) (kc Z (kc Z (kc Z (ai (vF Z) (ai (vF Z) (kc Z (ai (eS Z Z Z) trivial))))))))) ?_
 refine jw [6,7,18,15,1,4,5,12,13,14] Z (bJ ?_)
 refine ac (jb Z (cW Z (js Z (jn (ak (ap (X:=Nat) (fun j=>⟨[(1,bO ms),(4,.c (.pt 4 0 0)),(5,.c (.pt 5 0 0)),(12,bM ts),(13,eI ts.length),(14,eI i),(6,eI i),(31,bO (ts.getD i default).xs),(32,eI (ts.getD i default).xs.length),(33,eI j)],[(4,.box [.d (.int .i64 0),.d .nils]),(5,.box [.d (.int .i64 (bm Tm.c (ts.take i) (ms.take i)+ms.getD i default*(ts.getD i default).c)),.rs 10 0 10]),(10,aE (fv ts ms i j))]⟩) (fun j=>j≤(ts.getD i default).xs.length) (fun j=>(ts.getD i default).xs.length-j) 0 (((ah [4,5,10] (e':=[(1,_),(4,_),(5,_),(12,_),(13,_),(14,_),(6,_),(31,_),(32,_),(33,_)]) Z Z ⟨Z,Z,Z,Z,Z,Z,Z,Z,Z,Z,tv⟩ Z)).trans (Ent.to ⟨Z,Z,Z,Z,Z,Z,Z,Z,Z,Z,tv⟩ (by rw[n4];rfl))) ?_ (fun j hi=>?_)))))))
 exact cG _
 refine ac (js Z (jn (ae (zc Z (fun z34=>?_) (fun z34=>?_)))))
 try simp only[bo]at z34
 refine af (ae (ak (ac (js Z (jh Z Z (jc Z (jn ?_)))))))
 have hjl:j<10:=by have:=pW (hc.get (show i<ts.length by omega));omega
 have hpj:=mX (ts:=ts) (ms:=ms) (i:=i) hjl
 have hps:=n5 (ts:=ts) (ms:=ms) (i:=i) hjl
 have hpl:=ea (ts:=ts) (ms:=ms) (i:=i) (j:=j)
 have hd3:=j1 (f:=jU j) (ts:=ts) (ms:=ms) (fun t ht=>(Small.of (hc.ok t ht)).get j) hm hi0 (by omega)
 have hmx:=ff hmi (hts.get j)
 rw[show(ts.getD i default).xs.getD j 0=(ts.getD i default).xs.getD j default from Z]at hmx
 refine fJ [_,_,_,_,_,_,_,_,_,_,_,_,_,_] [p0,pz [0],p0,pz [0,1,2],pz (rg 0 4),p0,p0,pz [5,6],pz [5,6,7],p0,pz (rg 5 5),pz (rg 0 11),pz (rg 0 12),pe (rg 0 13) 0] [13] [_,_] (kc Z (kc Z (kc Z (ai (vI Z Z) (ai (bc O (ex:=[.int .i64 ((fv ts ms i j).getD j default)]) Z Z Z Z (vx (by omega)) Z) (kc Z (kc Z (ai (vN Z) (kc Z (kc Z (ai (vF Z) (ai (vF Z) (ai (vI Z Z) (ai (cE (ex:=[.int .i64 ((fv ts ms i j).getD j default)]) (xs':=(fv ts ms i (j+1)).map (fun n=>[D.int .i64 n])) O Z Z Z Z Z Z Z Z Z Z Z Z Z Z Z (vx (by omega)) (by rw[←hps,List.map_set];simp only[Int.toNat_natCast,Nat.zero_add];rfl) Z) trivial)))))))))))))) ?_
 refine jw [34,1,4,5,12,13,14,6,31,32,33] Z (bJ ?_)
 refine ag (ji Z (js Z (jn ?_)))
 refine⟨j+1,Ent.to ⟨Z,Z,Z,Z,Z,Z,Z,Z,Z,Z,tv⟩ Z,by omega,by omega⟩
 try simp only[bo]at z34
 refine aR (ag (ji Z (js Z (jn ?_))))
 refine⟨i+1,((ah [4,5,10] (e':=[(1,_),(4,_),(5,_),(12,_),(13,_),(14,_)]) Z Z ⟨Z,Z,Z,Z,Z,Z,tv⟩ Z)).trans (Ent.to ⟨Z,Z,Z,Z,Z,Z,tv⟩ ?_),by omega,by omega⟩
 rw[hd2,←qf (j:=j) (by omega) (by omega) (by omega)];rfl
 try simp only[bo]at z15
 refine aR (ac ?_)
 obtain rfl:i=ts.length:=by omega
 rw[nj hle,sm hle]
 have hcl:(bE ts ms).length=10:=kl
 refine an ((ah [4,5,10] (e':=[(4,_),(5,_)]) Z Z ⟨Z,Z,tv⟩ Z)) (js Z (ao O [10] (bin:=[aE (bE ts ms)]) Z Z Z Z (HW (c:=bm Tm.c ts ms) (xs:=bE ts ms) (n:=10) h1 h2 hcl (by omega)) Z Z Z Z Z Z (B0:=55000) Z Z (am ?_)))
 refine jo Z (jr ?_)
 refine⟨.inl Z,_,bK,_,Z,[10],by decide,Z,Z,Z⟩
theorem t9:MQ h1 h2 181 [cR t,eI k] [] (Plain (eI (t.xs.getD k default))):=by
 refine aB ?_ Z
 refine jB 15 h1 h2 Tryz.func181 Z fun O hF=>?_
 have hl:t.xs.length≤L:=by simpa[As.fact,A.fact,M.fact,Ms.fact,D.fact,Ds.fact]using hF.1.2.1.1
 refine ac (jx Z (js Z (jn (ae (ac (jc Z (cW Z (js Z (jn (zc Z (fun z9=>?_) (fun z9=>?_)))))))))))
 try simp only[bo]at z9
 refine ac (jc Z (jh Z Z (jb Z (jr ?_))))
 refine eR Z ?_
 rfl
 try simp only[bo]at z9
 refine af (ac (js Z (jr ?_)))
 refine eR Z ?_
 rw[List.getD_eq_getElem?_getD,List.getElem?_eq_none (by omega)];rfl
theorem Iy:MQ h1 h2 185 [bO xs,bO ys] [] (Plain (eB (decide (xs=ys)))):=by
 refine aB ?_ Z
 refine jB 26 h1 h2 Tryz.func185 Z fun O hF=>?_
 have hl:xs.length≤L:=by simpa[As.fact,A.fact,M.fact,D.fact,Ds.fact]using hF.1.1
 have hl2:ys.length≤L:=by simpa[As.fact,A.fact,M.fact,D.fact,Ds.fact]using hF.2.1.1
 refine ac (js Z (jn (ae (ac (js Z (cW Z (js Z (cW Z (js Z (jn (zc Z (fun z10=>?_) (fun z10=>?_))))))))))))
 try simp only[bo]at z10
 refine ac (js Z (jr ?_))
 refine eR Z ?_
 rw[decide_eq_false (fun e=>by subst e;simp at z10)]
 try simp only[bo]at z10
 refine af (ae (ac (js Z (cW Z (js Z (jn (ak (ap (X:=Nat) (fun i=>⟨[(0,bO xs),(1,bO ys),(12,eI xs.length),(13,eI i)],[]⟩) (fun i=>i≤xs.length∧∀j,j<i→xs[j]? = ys[j]?) (fun i=>xs.length-i) 0 (Ent.env ⟨Z,Z,Z,Z,tv⟩) ?_ (fun i hi=>?_)))))))))
 exact⟨cG _,fun j hj=>absurd hj (Nat.not_lt_zero j)⟩
 refine ac (js Z (jn (ae (zc Z (fun z14=>?_) (fun z14=>?_)))))
 try simp only[bo]at z14
 refine af (ae (ak (ac (jb Z (jn (ae (fJ [_,_,_,_,_,_,_,_,_] [p0,p0,pz [0,1],pz [0,1,2],p0,p0,pz [4,5],pz [4,5,6],pz (rg 0 8)] [] [_] (kc Z (kc Z (ai (vN Z) (kc Z (kc Z (kc Z (ai (vN Z) (kc Z (kc Z trivial))))))))) ?_)))))))
 refine zc Z (fun z24=>?_) (fun z24=>?_)
 try simp only[bo]at z24
 refine ac (js Z (jr ?_))
 refine eR Z ?_
 rw[decide_eq_false (fun e=>by subst e;simp at z24)]
 try simp only[bo]at z24
 refine af (ag (ji Z (js Z (jn ?_))))
 refine⟨i+1,Ent.env ⟨Z,Z,Z,Z,tv⟩,⟨by omega,fun j hj=>?_⟩,by omega⟩
 rcases Nat.lt_or_ge j i with h|h
 exact hi.2 j h
 obtain rfl:j=i:=by omega
 rw[aw (by omega),aw (by omega)]at z24
 rw[List.getElem?_eq_getElem (by omega),List.getElem?_eq_getElem (by omega),z24]
 try simp only[bo]at z14
 refine aR (ac (js Z (jr ?_)))
 refine eR Z ?_
 have e:xs=ys:=List.ext_getElem? fun j=>by
  rcases Nat.lt_or_ge j i with h|h
  ·
   exact hi.2 j h
  ·
   rw[List.getElem?_eq_none (by omega),List.getElem?_eq_none (by omega)]
 rw[decide_eq_true e]
theorem Em{a b:Tm}:(bif decide (a.c=b.c)then decide (a.xs=b.xs)else false)=decide (a=b):=by
 cases a;cases b;simp[Bool.cond_false_right]
def sJ(t:Tm):List Tm→Nat→Int
  | [],_=> -1
  | u::us,i=>if t=u then(i:Int)else sJ t us (i+1)
theorem yD{t:Tm}{ts:List Tm}{i:Nat}(h:i<ts.length):sJ t (ts.drop i) i=if t=ts.getD i default then(i:Int)else sJ t (ts.drop (i+1)) (i+1):=by
 rw[List.drop_eq_getElem_cons h,aw h];rfl
theorem Bj{t:Tm}{ts:List Tm}{i:Nat}(h:ts.length≤i):sJ t (ts.drop i) i= -1:=by rw[List.drop_of_length_le h];rfl
theorem uD{t:Tm}: ∀{us:List Tm} {i:Nat},decide (sJ t us i≥0)=gX us t
 | [],_=>rfl
 | u::us,i=>by
  rw[sJ,gX,List.any_cons]
  by_cases h:t=u
  rw[if_pos h,decide_eq_true h.symm,Bool.true_or];exact decide_eq_true (by omega)
  rw[if_neg h,show decide (u=t)=false from decide_eq_false (fun e=>h e.symm),Bool.false_or];exact uD
theorem IB{b:Tm}:MQ h1 h2 180 [cR a,cR b] [] (Plain (eB (decide (a=b)))):=by
 refine aB ?_ Z
 refine jB 17 h1 h2 Tryz.func180 Z fun O hF=>?_
 refine ac (jx Z (jx Z (js Z (aN (jd Z (jb Z (ar 5 Z Z Z (fun hx=>nz hx Z (nz hx Z (nz hx Z (nz hx Z (bj O hx Z Z Z Z (Iy (xs:=a.xs) (ys:=b.xs) h1 h2) (ab Z) Z Z Z Z Z Z Z (B0:=16000) Z (AN.nil)))))) Z Z (st (aq O Z Z Z Z Z) Z (js Z (jr ?_))))))))))
 refine eR Z ?_
 exact congrArg eB Em
theorem H6:MQ h1 h2 162 [bM ts,.c (.fb 180 (t.cells.map .d))] [] (Plain (eI (sJ t ts 0))):=by
 refine aB ?_ Z
 refine jB 19 h1 h2 Tryz.func162 Z fun O hF=>?_
 have hl:ts.length≤L:=by simpa[As.fact,A.fact,M.fact,D.fact,Ds.fact]using hF.1.1
 refine ac (js Z (jn (ae (ac (js Z (cW Z (js Z (jn (ak (ap (X:=Nat) (fun i=>⟨[(0,bM ts),(1,.c (.fb 180 (t.cells.map .d))),(7,eI ts.length),(8,eI i)],[]⟩) (fun i=>i≤ts.length∧sJ t (ts.drop i) i=sJ t ts 0) (fun i=>ts.length-i) 0 (Ent.env ⟨Z,Z,Z,Z,tv⟩) ?_ (fun i hi=>?_)))))))))))
 exact⟨cG _,Z⟩
 refine ac (js Z (jn (ae (zc Z (fun z9=>?_) (fun z9=>?_)))))
 refine af (ae (ak (ac ?_)))
 have hil:i<ts.length:=by have:=bt z9;omega
 have hkc:=yD (t:=t) hil
 refine jb Z (aN (jc Z (jh Z Z (js Z (wV O Z Z Z Z (IB (a:=t) (b:=ts.getD i default) h1 h2) (ab Z) Z Z Z Z Z (B0:=17000) Z (jn (zc Z (fun z16=>?_) (fun z16=>?_))))))))
 refine ac (jb Z (jr ?_))
 refine eR Z ?_
 rw[if_pos (bt z16),hi.2]at hkc
 rw[hkc]
 refine af (ag (ji Z (js Z (jn ?_))))
 rw[if_neg (b9 z16)]at hkc
 exact⟨i+1,Ent.env ⟨Z,Z,Z,Z,tv⟩,⟨by omega,hkc.symm.trans hi.2⟩,by omega⟩
 refine aR (ac (js Z (jr ?_)))
 refine eR Z ?_
 have h9:=hi.2
 rw[Bj (by have:=b9 z9;omega)]at h9
 rw[←h9]
theorem H9:MQ h1 h2 132 [bM ts,.c (.fb 180 (t.cells.map .d))] [] (Plain (eB (gX ts t))):=by
 refine aB ?_ Z
 refine jB 9 h1 h2 Tryz.func132 Z fun O hF=>?_
 refine ac (js Z (aN (jb Z (da O Z Z Z Z (H6 (ts:=ts) (t:=t) h1 h2) (.cons (.c .d) (.cons (.c (.fb (ax Z))) .nil)) Z Z Z Z Z (B0:=8000) Z (jb Z (jr ?_))))))
 refine eR Z ?_
 exact congrArg eB uD
theorem IF:MQ h1 h2 166 [bM ts,cR t] [] (Plain (eB (gX ts t))):=by
 refine aB ?_ Z
 refine jB 9 h1 h2 Tryz.func166 Z fun O hF=>?_
 refine ac (jx Z (js Z (aN (jb Z (st (yU (ms:=t.cells.map .d) O Z Z Z Z Z) Z (da O Z Z Z Z (H9 (ts:=ts) (t:=t) h1 h2) (.cons (.c .d) (.cons (.c (.fb (ax Z))) .nil)) Z Z Z Z Z (B0:=9000) Z (js Z (jr ?_))))))))
 refine eR Z ?_
 first|rfl|skip
theorem IE:MQ h1 h2 167 [bM ts] [] (Plain (eB (fA ts 14))):=by
 refine aB ?_ Z
 refine jB 5 h1 h2 Tryz.func167 Z fun O hF=>?_
 refine ac (js Z (aN (js Z (lo Z (Ed h1 h2) 5000 Z (js Z (jr ?_))))))
 refine eR Z ?_
 first|rfl|skip
def jj(n:Nat):List Int:=(List.range n).map Int.ofNat
theorem dp{n:Nat}:(jj n).length=n:=by simp[jj]
theorem yk{n:Nat}:jj (n+1)=jj n++[(n:Int)]:=by simp[jj,List.range_succ]
theorem AM{n k:Nat}(h:k<n):(jj n).getD k default=k:=by rw[aw (by rw[dp];exact h)];simp[jj]
theorem DN(hn:n≤1000):MQ h1 h2 169 [eI n] [] (Plain (bO (jj n))):=by
 refine MC.data (jB 15 h1 h2 Tryz.func169 Z fun O hF=>?_)
 refine ac (js Z (aN (js Z (jn (ae (ac (jb Z (jn (ak (ap (X:=Nat) (fun i=>⟨[(3,.c (.rs 900 0 i)),(5,eI n),(6,eI i)],[(900,aE (jj i))]⟩) (fun i=>i≤n) (fun i=>n-i) 0 ((cx 3 900 1 true Z Z).trans (Ent.to ⟨Z,Z,Z,tv⟩ Z)) ?_ (fun i hi=>?_)))))))))))
 exact cG _
 refine ac (js Z (jn (ae (zc Z (fun z7=>?_) (fun z7=>?_)))))
 try simp only[bo]at z7
 refine af (ae (ak (ac (jb Z (jn (ag (jb Z (hp (bz O Z Z Z) Z (am ?_)))))))))
 refine hp (cu (zs:=((jj (i+1))).map fun n=>[.int .i64 n]) (n:=i+1) O Z Z Z Z Z Z Z Z Z Z Z Z Z Z Z Z (.row Z (by simp[dp])) Z Z (by decide) Z (by simp[dp];omega) (by simp[dp];omega) (by rw[yk,List.map_append];rfl) (by simp[dp])) Z (am ?_)
 refine js Z (jn (ag (ji Z (js Z (jn ?_)))))
 refine⟨i+1,((ah [12] (e':=[(3,_),(5,_),(6,_)]) Z Z ⟨Z,Z,Z,tv⟩ Z).trans (aa 12 900 Z Z)),by omega,by omega⟩
 try simp only[bo]at z7
 refine aR (ac (jb Z (jr ?_)))
 refine eR Z ?_
 obtain rfl:i=n:=by omega
 exact .v (.c (.whole Z (by simp[dp])))
theorem DR(ht:t.ok=true):MQ h1 h2 141 [cR t,bM ts] [] (Plain (iG (aC ts t))):=by
 refine MC.data (jB 35 h1 h2 Tryz.func141 Z fun O hF=>?_)
 have hs:=Small.of ht
 have hc:=IZ.1 hs.c
 have hr:=iM (a:=t.c) (b:=bk t.xs) hc
 refine ac (jx Z (am ?_))
 refine jf [2,1] Z (jl Z (am ?_))
 refine js Z (aN (jb Z (jf [10,5,4,2,1] Z (lo Z (BZ (xs:=t.xs) h1 h2 hs.xs) 12000 Z (js Z (jf [6,5,4,2,1] Z (jn (ae (ac (jc Z (jf [14,6,5,4,2,1] Z (ar 5 Z Z Z (fun hx=>nz hx Z (nz hx Z (nz hx Z (ny hx (vR Z Z Z Z) Z (nz hx Z (AN.nil)))))) Z Z (st (ay O Z Z Z Z Z) Z (jf [20,5,4,2,1] Z (jn (zc Z (fun z20=>?_) (fun z20=>?_)))))))))))))))))
 refine ac (js Z (jf [21,5,4,2,1] Z (jo Z (am ?_))))
 refine js Z (jr ?_)
 refine eR Z ?_
 have hn:bk t.xs<2∨t.c.tmod (bk t.xs)=0:=by by_cases h9:bk t.xs<2;exact .inl h9;refine .inr ?_;simpa[show¬(bk t.xs:Int)≤1 by omega]using z20
 rw[show aC ts t=BU from if_pos hn]
 exact .tup (.cons (.agg (.cons .d (.cons .nils .nil))) (.cons (.c .d) .nil))
 refine af (ac (js Z (jf [23,5,4,2,1] Z (aj O Z Z Z Z (G5 (t:=t) h1 h2 hs) (ab Z) Z Z Z Z (B0:=25000) Z Z (js Z ?_)))))
 have hn: ¬(bk t.xs<2∨t.c.tmod (bk t.xs)=0):=by intro h9;rcases h9 with h9|h9<;>simp[h9]at z20<;>omega
 have hok:=nX ht (fun h=>hn (.inl h))
 rw[ga ht]
 refine jb Z (jf [26,25,5,4,2,1] Z (jl Z (am ?_)))
 refine jo Z (am ?_)
 refine js Z (jf [8,7,5,4,2,1] Z (jn (ae (jw [8,7,4,2,1] Z ?_))))
 rw[hok]
 refine zd [_,_,_,_,_,_,_,_,_,_] [pn [] 0 1,p0,pz [1],pz [1,2],pz [1,2],pe (rg 1 4) 0,pn (rg 1 5) 1 2,pn (rg 1 6) 1 2,pe (rg 0 6) 1,pn (rg 0 9) 2 2] [5,8] [_,_,_] (ai (kc Z (V Z)) (k4 Z (ai (bg O (B0:=33000) Z Z Z Z (IF (ts:=ts) (t:=(bX t).1) h1 h2) (ab Z) Z Z Z Z Z) (ai (kc Z (V Z)) (ai (ai (aV O Z Z Z Z Z) (aV O Z Z Z Z Z)) (ai (eS Z Z Z) (kc Z trivial))))))) ?_
 refine jw [5,7,4,2] Z (bJ ?_)
 refine dJ ?_
 refine eR Z ?_
 rw[show aC ts t=((bX t).1,!gX ts (bX t).1) by unfold aC;rw[if_neg hn,hok];rfl]
 exact .tup (.cons (.agg (ax Z)) (.cons (.c .d) .nil))
abbrev GK(r:Rw):A:=.agg (r.comb.map .d)
theorem yj{xs:List Int}:xs.take (bv xs).length=bv xs:=by
 obtain⟨z,hz⟩:=jv xs
 exact(congrArg (fun l=>l.take (bv xs).length) hz).trans List.take_left
theorem AH{xs:List Int}{x:Int}(h:x∈bv xs):x∈xs:=by
 obtain⟨z,hz⟩:=jv xs
 rw[hz];exact List.mem_append_left _ h
theorem HI{p q:Rw}{n m:Int}:bm Tm.c [p.tm,q.tm] [n,m]=n*p.c+m*q.c:=by
 show n*p.c+(m*q.c+0)=n*p.c+m*q.c
 omega
theorem Eu{p q:Rw}{n m:Int}(hl:p.xs.length=10):bE [p.tm,q.tm] [n,m]=iw n m p.xs q.xs p.xs.length:=by
 show(List.range 10).map _=iw _ _ _ _ p.xs.length
 rw[hl]
 unfold iw
 apply List.map_congr_left
 intro i _
 show n*(bv p.xs).getD i 0+(m*(bv q.xs).getD i 0+0)=_
 rw[eu,eu]
 show n*p.xs.getD i default+(m*q.xs.getD i default+0)=_
 omega
theorem uB{C:Int}{X Y:List Int}{G:Nat}(hG:G=bk (C::X++Y))(h0:0<G)(hl:X.length=10) :
    GK (nJ ⟨C,X,Y⟩ G)= .agg [.d (.int .i64 (C.tdiv G)),.d (cK ((bv X).map fun x=>x.tdiv G)),.d (cK (Y.map fun x=>x.tdiv G))]∧
    wX (nJ ⟨C,X,Y⟩ G)=((⟨C.tdiv G,(bv X).map fun x=>x.tdiv G⟩:Tm).ok&&(Y.map fun x=>x.tdiv G).all num):=by
 have e:bv (X.map fun x=>x.tdiv G)=(bv X).map fun x=>x.tdiv G:=by
  subst hG
  exact Bv (r:=⟨C,X,Y⟩) h0
 constructor
 show A.agg [.d (.int .i64 (C.tdiv G)),.d (cK (bv (X.map fun x=>x.tdiv G))),.d (cK (Y.map fun x=>x.tdiv G))]=_
 rw[e]
 have h1:=Dh (r:=nJ ⟨C,X,Y⟩ G) (by show(X.map _).length=10;rw[bA,hl])
 have h2:(nJ ⟨C,X,Y⟩ G).tm=⟨C.tdiv G,(bv X).map fun x=>x.tdiv G⟩:=by
  show(⟨C.tdiv G,bv (X.map fun x=>x.tdiv G)⟩:Tm)=_
  rw[e]
 rw[h2]at h1
 rw[h1];rfl
theorem xo{a b:Int}(ha: -1000000≤a∧a≤1000000)(hb: -1000000≤b∧b≤1000000):[a,b].all num=true:=by
 simp only[List.all_cons,List.all_nil,Bool.and_true,bC]
 exact⟨IZ.2 ha,IZ.2 hb⟩
theorem Cn{n:Nat}{p q:Rw}(hp:ROk n p)(hq:ROk n q):CtxOk [p.tm,q.tm]:=⟨fun t ht=>by
 rcases List.mem_cons.1 ht with rfl|ht
 exact hp.tm
 rw[List.mem_singleton.1 ht];exact hq.tm,by simp⟩
theorem r3{xs:List Int}:Scal (xs.map fun n=>[D.int .i64 n]):=Scal.map fun _=>rfl
theorem IA{p q:Rw}(hp:ROk n p)(hq:ROk n q)(hk:k<10)(hx:0<p.xs.getD k default)(hy:q.xs.getD k default<0)(hn:n≤1000):MQ h1 h2 182 [GK p,GK q,eI k] [] (Plain (.tup [GK (ef p q k),eB (wX (ef p q k))])):=by
 refine MC.data (jB 120 h1 h2 Tryz.func182 Z fun O hF=>?_)
 obtain⟨hg0,hm0,hn0⟩:=tg hp hq hx hy
 have hb1:=hp.get k
 have hb2:=hq.get k
 have lp:=hp.l
 have lq:=hq.l
 have lpm:=hp.n
 have lqm:=hq.n
 have hd1:=ej (a:=p.xs.getD k default) (b:=((go p q k:Nat):Int)) (by omega)
 have hd2:=ej (a:= -(q.xs.getD k default)) (b:=((go p q k:Nat):Int)) (by omega)
 obtain⟨m,em⟩: ∃m,m=nG p q k:=⟨_,rfl⟩
 obtain⟨nn,en⟩: ∃m,m=nF p q k:=⟨_,rfl⟩
 rw[←em]at hm0
 rw[←en]at hn0
 have z1:=gx (a:=nn) (b:=p.c) (by omega) (IZ.1 hp.c)
 have z2:=gx (a:=m) (b:=q.c) (by omega) (IZ.1 hq.c)
 have hpm: ∀j,-1000000≤p.ms.getD j default∧p.ms.getD j default≤1000000:=fun j=>by have:=hp.mul j;omega
 have hqm: ∀j,-1000000≤q.ms.getD j default∧q.ms.getD j default≤1000000:=fun j=>by have:=hq.mul j;omega
 refine ac (jx Z (am ?_))
 refine an (Ent.freeze 3 (e':=[(3,_),(1,_),(2,_)]) Z (.cons Z (.c (.box (cs:=Rw.comb p) Z (ax Z))) (fe [1,2] Z)) (.skip .nil)) ?_
 refine am ?_
 refine jx Z (am ?_)
 refine an (Ent.freeze 4 (e':=[(4,_),(3,_),(2,_)]) Z (.cons Z (.c (.box (cs:=Rw.comb q) Z (ax Z))) (fe [3,2] Z)) (.skip .nil)) ?_
 refine am ?_
 refine jl Z (am ?_)
 refine js Z (jn (ae (fJ [_,_,_,_,_,_,_,_,_,_,_] [p0,pz [0],p0,pe [0,1,2] 0,pn [] 0 1,pn [4] 0 1,pn [] 0 1,pe (rg 0 7) 1,pn (rg 0 8) 2 2,pn (rg 0 8) 2 2,pn (rg 0 10) 2 2] [3,7] [_,_,_] (kc Z (kc Z (kc Z (ai (bg O (B0:=20000) Z Z Z Z ((t9 (t:=p.tm) (k:=k) h1 h2).plain (u:=eI (p.xs.getD k default)) (congrArg eI (eu p.xs k))) (ab Z) Z Z Z Z Z) (ai (kc Z (V Z)) (ai (kc Z (V Z)) (ai (kc Z (V Z)) (ai (bg O (B0:=24000) Z Z Z Z ((t9 (t:=q.tm) (k:=k) h1 h2).plain (u:=eI (q.xs.getD k default)) (congrArg eI (eu q.xs k))) (ab Z) Z Z Z Z Z) (ai ((aS O Z Z (by omega) (by omega)).cast (v':=eI (-(q.xs.getD k default))) (by rw[Int.zero_sub])) (kc Z (kc Z trivial))))))))))) ?_)))
 refine jw [9,8,7,6,4,3] Z (bJ ?_)
 refine ac (jb Z (hp (bz O Z Z Z) Z (am ?_)))
 refine da O Z Z Z Z ((BZ (xs:=[p.xs.getD k default,-(q.xs.getD k default)]) h1 h2 (xo hb1 (by omega))).plain (u:=eI (go p q k)) (by rw[Bm,Int.natAbs_neg])) (.cons (.c (.whole Z Z)) .nil) Z Z Z Z Z (B0:=29000) Z (js Z (jn (ae (ov O _ [_,_,_,_,_,_,_,_] [p0,p0,pz [0,1],p0,p0,pz [3,4],pz [0,1,2],pz (rg 0 7)] [] [[],[],[],[8],[8],[8],[],[8]] [_] Z Z (by decide) (by decide) (by kernel_rfl) (kc Z (kc Z (ai ((fU O Z Z Z Z (by omega) (by omega) (by omega)).cast (v':=eI m) (by rw[em])) (kc Z (kc Z (ai ((fU O Z Z Z Z (by omega) (by omega) (by omega)).cast (v':=eI nn) (by rw[en])) (kc Z (kc Z trivial)))))))) ?_))))
 refine ac (jd Z (hp (aZ O Z Z Z Z Z Z Z Z Z Z Z) Z (am ?_)))
 refine jb Z (hp (bz O Z Z Z) Z (am ?_))
 refine bS O (B0:=44000) Z Z Z Z (H5 (ts:=[p.tm,q.tm]) (ms:=[nn,m]) h1 h2 (Cn hp hq) (xo (by omega) (by omega)) (cQ _)) (.cons (.c (.whole Z Z)) (.cons (.c (.whole Z Z)) .nil)) Z Z Z Z Z Z (am ?_)
 obtain⟨C,eC⟩: ∃C,C=nn*p.c+m*q.c:=⟨_,rfl⟩
 have hC: -2000000000000≤C∧C≤2000000000000:=by omega
 obtain⟨X,eX⟩: ∃X,X=iw nn m p.xs q.xs p.xs.length:=⟨_,rfl⟩
 have lX:X.length=10:=by rw[eX,bF,lp]
 have hXb: ∀x∈X,-2000000000000≤x∧x≤2000000000000:=by rw[eX];exact nQ hn0 hm0 hp.get hq.get
 rw[HI,Eu lp,←eC,←eX]
 refine an (Ent.cut 44000 (bv X).length Z) (am ?_)
 rw[←List.map_take,yj]
 obtain⟨XT,eT⟩: ∃XT,XT=bv X:=⟨_,rfl⟩
 rw[←eT]
 have lT:XT.length≤10:=by rw[eT,←lX];exact gl X
 have hTb: ∀x∈XT,-2000000000000≤x∧x≤2000000000000:=fun x hx=>hXb x (AH (by rwa[eT]at hx))
 refine jl Z (am ?_)
 refine am ?_
 refine jo Z (am ?_)
 refine aN (js Z (jn (ae (ac (jb Z (cW Z (js Z (jn (ak (ap (X:=Nat) (fun i=>⟨[(3,ptr p.comb),(4,ptr q.comb),(6,.c (.pt 6 0 0)),(8,eI m),(9,eI nn),(11,.c (.pt 11 0 0)),(12,.c (.rs 900 0 i)),(46,eI p.ms.length),(47,eI i)],[(6,.box [.d (.int .i64 0),.d .nils,.d .nils]),(11,.box [.d (.int .i64 C),.rs 44000 0 XT.length]),(44000,aE XT),(900,aE (iw nn m p.ms q.ms i))]⟩) (fun i=>i≤p.ms.length) (fun i=>p.ms.length-i) 0 (((cx 12 900 1 true Z Z).trans (ah [6,11,44000,900] (e':=[(3,_),(4,_),(6,_),(8,_),(9,_),(11,_),(12,_),(46,_),(47,_)]) Z Z ⟨Z,Z,Z,Z,Z,Z,Z,Z,Z,tv⟩ Z)).trans (Ent.to ⟨Z,Z,Z,Z,Z,Z,Z,Z,Z,tv⟩ Z)) ?_ (fun i hi=>?_)))))))))))
 exact cG _
 refine ac (js Z (jn (ae (zc Z (fun z48=>?_) (fun z48=>?_)))))
 try simp only[bo]at z48
 refine af (ae (ak (ac (jb Z (jn ?_)))))
 have f1:=gx (a:=nn) (b:=p.ms.getD i default) (by omega) (hpm i)
 have f2:=gx (a:=m) (b:=q.ms.getD i default) (by omega) (hqm i)
 refine kx [_,_,_,_,_,_,_,_,_,_,_,_,_,_,_,_,_,_,_] [pn [] 0 1,p0,p0,pz [2],p0,pz [2,3,4],pz (rg 2 4),pz (rg 1 6),p0,p0,pz [9],p0,pz [9,10,11],pz (rg 9 4),pz (rg 8 6),pz (rg 1 14),pe (rg 1 15) 0,pe (rg 0 17) 1,pn (rg 0 18) 2 2] [16,17] [_,_,_] [[],[900,66]] (ai (ka Z Z (kw Z Z)) (ka Z Z (ka Z Z (ka Z Z (ka Z Z (ai (ai (vN Z) Z) (ka Z Z (ai (ai (vF Z) Z) (ka Z Z (ka Z Z (ka Z Z (ka Z Z (ai (ai (vN Z) Z) (ka Z Z (ai (ai (vF Z) Z) (ai (ai (vF Z) Z) (ai (ai (az (jG O Z Z Z Z Z Z Z Z Z Z Z Z Z)) Z) (ai (ai (dq (zs:=(iw nn m p.ms q.ms (i+1)).map fun n=>[.int .i64 n]) (n:=i+1) O Z Z Z Z Z Z Z Z Z Z Z Z Z Z Z Z (.row Z (by simp[bF])) Z Z (by decide) Z (by simp[bF];omega) (by simp[bF];omega) (by rw[jC,List.map_append];rfl) (by simp[bF]) Z) Z) (ka Z Z trivial))))))))))))))))))) ?_
 refine jw [12,49,48,3,4,6,8,9,11,46,47] Z (bJ ?_)
 refine ag (ji Z (js Z (jn ?_)))
 refine⟨i+1,((ah [6,11,44000,67] (e':=[(3,_),(4,_),(6,_),(8,_),(9,_),(11,_),(12,_),(46,_),(47,_)]) Z Z ⟨Z,Z,Z,Z,Z,Z,Z,Z,Z,tv⟩ Z).trans (aa 67 900 Z Z)),by omega,by omega⟩
 try simp only[bo]at z48
 refine aR (ac ?_)
 obtain rfl:i=p.ms.length:=by omega
 obtain⟨Y,eY⟩: ∃Y,Y=iw nn m p.ms q.ms p.ms.length:=⟨_,rfl⟩
 have lYp:Y.length=p.ms.length:=by rw[eY,bF]
 have hYb: ∀x∈Y,-2000000000000≤x∧x≤2000000000000:=by rw[eY];exact nQ hn0 hm0 hpm hqm
 rw[←eY,←lYp]
 obtain⟨G,eG⟩: ∃G,G=bk (C::X++Y):=⟨_,rfl⟩
 have hG:0<G∧G≤2000000000000:=by rw[eG,eC,eX,eY,em,en];exact pA hp hq hx hy
 have hq0:=lr (b:=(G:Int)) hC
 have hall: ∀x∈C::XT++Y,-4000000000000≤x∧x≤4000000000000:=fun x hx=>by rcases List.mem_append.1 hx with hx|hx;(rcases List.mem_cons.1 hx with rfl|hx;omega;have:=hTb x hx;omega);have:=hYb x hx;omega
 refine jb Z (hp (bz O Z Z Z) Z (am ?_))
 refine am ?_
 refine jb Z (hp (ko (own:=true) (xs:=[[.int .i64 C]]) (ys:=XT.map (fun n=>[D.int .i64 n])) (zs:=(C::XT).map (fun n=>[D.int .i64 n])) (n:=(C::XT).length) O Z (.row Z Z) (.whole Z (bA _).symm (.inl r3)) (by simp) Z (by simp;omega) (by simp;omega) Z (bA _)) Z (am ?_))
 refine am ?_
 refine js Z (hp (ko (own:=true) (xs:=(C::XT).map (fun n=>[D.int .i64 n])) (ys:=Y.map (fun n=>[D.int .i64 n])) (zs:=(C::XT++Y).map (fun n=>[D.int .i64 n])) (n:=(C::XT++Y).length) O Z (.row Z (bA _).symm) (.whole Z (bA _).symm (.inl r3)) (by simp) Z (by simp;omega) (by simp;omega) (by rw[←List.map_append]) (bA _)) Z (am ?_))
 refine am ?_
 refine da O Z Z Z Z ((HY (xs:=C::XT++Y) h1 h2 hall).plain (u:=eI G) (by rw[eT,yG,←eG])) (.cons (.c (.whole Z (bA _).symm)) .nil) Z Z Z Z Z (B0:=78000) Z (js Z (aN (jc Z (st (vQ Z Z Z Z) Z (js Z (jo Z (am ?_)))))))
 refine jn (ae (ac (jb Z (db Z Z (js Z (jn (ak (ap (X:=Nat) (fun i=>⟨[(6,.c (.pt 6 0 0)),(10,eI G),(11,.c (.pt 11 0 0)),(12,.c (.rs 900 0 Y.length)),(85,eI XT.length),(86,eI i)],[(6,.box [.d (.int .i64 0),.d .nils,.d .nils]),(11,.box [.d (.int .i64 (C.tdiv G)),.rs 44000 0 XT.length]),(900,aE Y),(44000,aE (oy XT G i))]⟩) (fun i=>i≤XT.length) (fun i=>XT.length-i) 0 (((ah [6,11,900,44000] (e':=[(6,_),(10,_),(11,_),(12,_),(85,_),(86,_)]) Z Z ⟨Z,Z,Z,Z,Z,Z,tv⟩ Z)).trans (Ent.to ⟨Z,Z,Z,Z,Z,Z,tv⟩ (by rw[kL];rfl))) ?_ (fun i hi=>?_)))))))))
 exact cG _
 refine ac (js Z (jn (ae (zc Z (fun z87=>?_) (fun z87=>?_)))))
 try simp only[bo]at z87
 refine af (ae (ak (ac ?_)))
 have hil:i<XT.length:=by omega
 have hxi:=lr (b:=(G:Int)) (hTb _ (pp hil))
 refine jb Z (jn (ag (jc Z (db Z Z (st (bc O (ex:=[.int .i64 (XT.getD i default)]) Z Z Z Z (by rw[Nat.zero_add];exact fZ (by omega)) Z) Z (js Z (st (vQ Z Z Z Z) Z (db Z Z (hp (bL (ex:=[.int .i64 (XT.getD i default)]) (xs':=(oy XT G (i+1)).map (fun n=>[D.int .i64 n])) O Z Z Z Z Z Z Z Z Z Z Z Z Z Z (by rw[Nat.zero_add];exact fZ (by omega)) (by rw[←jA (by omega),List.map_set,Nat.zero_add];rfl)) Z (am ?_))))))))))
 refine jn (ag (ji Z (js Z (jn ?_))))
 refine⟨i+1,Ent.to ⟨Z,Z,Z,Z,Z,Z,tv⟩ Z,by omega,by omega⟩
 try simp only[bo]at z87
 refine aR (ae (ac ?_))
 obtain rfl:i=XT.length:=by omega
 rw[lA]
 refine js Z (db Z Z (js Z (jn (ak (ap (X:=Nat) (fun j=>⟨[(6,.c (.pt 6 0 0)),(10,eI G),(11,.c (.pt 11 0 0)),(12,.c (.rs 900 0 Y.length)),(99,eI Y.length),(100,eI j)],[(6,.box [.d (.int .i64 0),.d .nils,.d .nils]),(11,.box [.d (.int .i64 (C.tdiv G)),.rs 44000 0 XT.length]),(900,aE (oy Y G j)),(44000,aE (XT.map fun x=>x.tdiv G))]⟩) (fun j=>j≤Y.length) (fun j=>Y.length-j) 0 (((ah [6,11,900,44000] (e':=[(6,_),(10,_),(11,_),(12,_),(99,_),(100,_)]) Z Z ⟨Z,Z,Z,Z,Z,Z,tv⟩ Z)).trans (Ent.to ⟨Z,Z,Z,Z,Z,Z,tv⟩ (by rw[kL];rfl))) ?_ (fun j hi=>?_))))))
 exact cG _
 refine ac (js Z (jn (ae (zc Z (fun z101=>?_) (fun z101=>?_)))))
 try simp only[bo]at z101
 refine af (ae (ak (ac ?_)))
 have hjl:j<Y.length:=by omega
 have hyj:=lr (b:=(G:Int)) (hYb _ (pp hjl))
 refine jb Z (jn (ag (jb Z (db Z Z (st (bc O (ex:=[.int .i64 (Y.getD j default)]) Z Z Z Z (by rw[Nat.zero_add];exact fZ (by omega)) Z) Z (js Z (st (vQ Z Z Z Z) Z (db Z Z (hp (bL (ex:=[.int .i64 (Y.getD j default)]) (xs':=(oy Y G (j+1)).map (fun n=>[D.int .i64 n])) O Z Z Z Z Z Z Z Z Z Z Z Z Z Z (by rw[Nat.zero_add];exact fZ (by omega)) (by rw[←jA (by omega),List.map_set,Nat.zero_add];rfl)) Z (am ?_))))))))))
 refine jn (ag (ji Z (js Z (jn ?_))))
 refine⟨j+1,Ent.to ⟨Z,Z,Z,Z,Z,Z,tv⟩ Z,by omega,by omega⟩
 try simp only[bo]at z101
 refine aR (ae ?_)
 cases hb23:(⟨C.tdiv G,XT.map fun x=>x.tdiv G⟩:Tm).ok with
 | true=>
  obtain rfl:j=Y.length:=by omega
  rw[lA]
  refine iU (Ent.freeze 44000 (e':=[(6,_),(11,_),(12,_)]) Z (fe [6,11,12] Z) (cb Z (.cons Z (.box (ck Z (.cons (.row Z (by simp)) .nil))) (cw Z (.skip .nil))))) ?_
  refine iU (Ent.freeze 900 (e':=[(6,_),(11,_),(12,_)]) Z (.cons Z (.keep Z) (.cons Z (.keep Z) (.cons Z (.c (.row Z (by simp))) .nil))) (cb Z (cb Z (.skip .nil)))) ?_
  refine zd [_,_,_,_,_,_,_,_,_,_,_] [pn [] 0 2,pn [] 0 2,pn [0,1] 0 2,p0,pe [3] 0,pn [3,4] 1 1,pn [3,4,5] 1 1,pe (rg 3 4) 1,pn (rg 3 5) 2 3,pe (rg 0 8) 2,pn (rg 0 10) 3 3] [4,7,9] [_,_,_,_] (ai (kc Z (kc Z (V Z))) (ai (kc Z (kc Z (V Z))) (ai (kc Z (kc Z (V Z))) (kc Z (ai (bg O (B0:=116000) Z Z Z Z (mF (t:=⟨C.tdiv G,XT.map fun x=>x.tdiv G⟩) h1 h2) (ab Z) Z Z Z Z Z) (ai ((V Z).cast (v':=eB true) (congrArg eB hb23)) (kc Z (ai (bg O (B0:=119000) Z Z Z Z (vA (xs:=Y.map fun x=>x.tdiv G) h1 h2) (ab Z) Z Z Z Z Z) (ai (ai (aV O Z Z Z Z Z) (aV O Z Z Z Z Z)) (ai (eS Z Z Z) (kc Z trivial))))))))))) ?_
  refine jw [7,6,11,12] Z (bJ ?_)
  refine dJ ?_
  refine eR Z ?_
  obtain⟨q1,q2⟩:=uB eG hG.1 lX
  rw[show ef p q k=nJ ⟨C,X,Y⟩ G by subst eG;subst eY;subst eX;subst eC;subst em;subst en;rfl,q1,q2,←eT,hb23,Bool.true_and]
  exact .tup (.cons (.agg (ax Z)) (.cons (.c .d) .nil))
 | false=>
  obtain rfl:j=Y.length:=by omega
  rw[lA]
  refine iU (Ent.freeze 44000 (e':=[(6,_),(11,_),(12,_)]) Z (fe [6,11,12] Z) (cb Z (.cons Z (.box (ck Z (.cons (.row Z (by simp)) .nil))) (cw Z (.skip .nil))))) ?_
  refine iU (Ent.freeze 900 (e':=[(6,_),(11,_),(12,_)]) Z (.cons Z (.keep Z) (.cons Z (.keep Z) (.cons Z (.c (.row Z (by simp))) .nil))) (cb Z (cb Z (.skip .nil)))) ?_
  refine zd [_,_,_,_,_,_,_,_,_,_,_] [pn [] 0 1,pn [] 0 1,pn [0,1] 0 1,p0,pe [3] 0,pn [3,4] 1 1,pn [3,4,5] 0 2,pn (rg 3 4) 0 2,pn (rg 3 5) 1 2,pe (rg 0 8) 1,pn (rg 0 10) 2 2] [4,9] [_,_,_] (ai (kc Z (V Z)) (ai (kc Z (V Z)) (ai (kc Z (V Z)) (kc Z (ai (bg O (B0:=116000) Z Z Z Z (mF (t:=⟨C.tdiv G,XT.map fun x=>x.tdiv G⟩) h1 h2) (ab Z) Z Z Z Z Z) (ai ((V Z).cast (v':=eB false) (congrArg eB hb23)) (ai ⟨Z,Z⟩ (ai ⟨Z,Z⟩ (ai (ai (aI O Z Z Z Z Z) (aI O Z Z Z Z Z)) (ai (eS Z Z Z) (kc Z trivial))))))))))) ?_
  refine jw [7,6,11,12] Z (bJ ?_)
  refine dJ ?_
  refine eR Z ?_
  obtain⟨q1,q2⟩:=uB eG hG.1 lX
  rw[show ef p q k=nJ ⟨C,X,Y⟩ G by subst eG;subst eY;subst eX;subst eC;subst em;subst en;rfl,q1,q2,←eT,hb23,Bool.false_and]
  exact .tup (.cons (.agg (ax Z)) (.cons (.c .d) .nil))
set_option maxHeartbeats 8000000
abbrev Cb(rs:List Rw):A:=.c (.d (.slc 3 (rs.map Rw.comb)))
abbrev kr(rs:List Rw):B:=.row false 3 (rs.map Rw.comb)
abbrev HH(z:List Rw×List Rw×Bool):A:=.tup [Cb z.1,Cb z.2.1,eB z.2.2]
theorem qn{rs:List Rw}{i:Nat}(h:i<rs.length):(rs.map Rw.comb)[0+((i:Nat):Int).toNat]? = some (rs.getD i default).comb:=by
 rw[Nat.zero_add,Int.toNat_natCast,List.getElem?_map,List.getElem?_eq_getElem h,aw h];rfl
theorem yq{ts:List Tm}(h:Fs ts){i:Nat}(hi:i<ts.length):(sI ts i).comb=[.int .i64 (ts.getD i default).c,cK (ts.getD i default).xs,cK (jq ts.length i)]:=by
 have e:(sI ts i).tm=ts.getD i default:=Cu h hi
 have e1:bv (sI ts i).xs=(ts.getD i default).xs:=congrArg Tm.xs e
 show[D.int .i64 (ts.getD i default).c,cK (bv (sI ts i).xs),cK (jq ts.length i)]=_
 rw[e1]
theorem DO(hf:Fs ts):MQ h1 h2 168 [bM ts,bO (jj 10)] [] (Plain (HH (BM ts))):=by
 refine MC.data (jB 120 h1 h2 Tryz.func168 Z fun O hF=>?_)
 have hlen:=hf.len
 refine ac (jc Z (aN (jb Z (jn (ae (ac (js Z (cW Z (js Z (jn (ak (ap (X:=Nat) (fun i=>⟨[(0,bM ts),(1,bO (jj 10)),(7,.c (.rs 900 0 i)),(8,.c (.d .nils)),(23,bM ts),(24,eI ts.length),(25,eI i)],[(900,kr (fB ts i))]⟩) (fun i=>i≤ts.length) (fun i=>ts.length-i) 0 ((cx 7 900 3 false Z Z).trans (Ent.to ⟨Z,Z,Z,Z,Z,Z,Z,tv⟩ Z)) ?_ (fun i hi=>?_)))))))))))))
 exact cG _
 refine ac (js Z (jn (ae (zc Z (fun z26=>?_) (fun z26=>?_)))))
 refine af (ae (ak (ac ?_)))
 have hil:i<ts.length:=by have:=bt z26;omega
 refine js Z (jh Z Z (js Z (jf [29,27,26,0,1,7,8,23,24,25] Z (jl Z (am ?_)))))
 refine js Z (jf [9,10,29,26,0,1,7,8,23,24,25] Z (jo Z (am ?_)))
 refine aN (js Z (cW Z (jf [31,9,10,29,26,0,1,7,8,23,24,25] Z (hp (f6 O Z Z Z Z Z Z Z Z Z (by first|omega|(simp at *;omega)) (by first|omega|(simp at *;omega)) (by first|omega|(simp at *;omega)) (by first|omega|(dsimp only;omega)|(simp only[bo]at *;omega)) (by first|omega|(simp at *;omega)) Z Z Z) Z (am ?_)))))
 refine js Z (jf [11,9,10,29,26,0,1,7,8,23,24,25] Z (aN (jb Z (db Z Z (jf [35,11,10,29,26,0,1,7,8,23,24,25] Z (hp (bL (ex:=[.int .i64 0]) (xs':=(jq ts.length i).map (fun n=>[D.int .i64 n])) O Z Z Z Z Z Z Z Z Z Z Z Z Z Z (by rw[Nat.zero_add,Int.toNat_natCast,List.getElem?_replicate,if_pos (by omega)]) uf) Z ?_))))))
 refine am ?_
 refine jn (ag (an (Ent.freeze 32 (e':=[(0,_),(1,_),(7,_),(8,_),(10,_),(11,_),(23,_),(24,_),(25,_)]) Z (.cons Z (.keep Z) (.cons Z (.keep Z) (.cons Z (.keep Z) (.cons Z (.keep Z) (.cons Z (.keep Z) (.cons Z (.c (.row Z (by simp[gD]))) (fe [23,24,25] Z))))))) (cb Z (.skip (cw Z .nil)))) ?_))
 refine jd Z (jf [39,36,0,1,7,8,10,11,23,24,25] Z (hp (aZ O Z Z Z Z Z Z Z Z Z Z Z) Z (am ?_)))
 refine jf [40,36,0,1,7,8,10,11,23,24,25] Z (hp (ko (own:=false) (xs:=(fB ts i).map Rw.comb) (ys:=[[.int .i64 (ts.getD i default).c,cK (ts.getD i default).xs,cK (jq ts.length i)]]) (zs:=(fB ts (i+1)).map Rw.comb) (n:=i+1) O Z (.row Z (by simp[ca])) (.whole Z Z (.inr ⟨Z,Z⟩)) (by simp) Z (by simp[ca];omega) (by simp[ca];omega) (by rw[oE,List.map_append,←yq hf hil];rfl) (by simp[ca])) Z (am ?_))
 refine am ?_
 refine js Z (jf [7,0,1,8,10,11,23,24,25] Z (jn (ag (ji Z (js Z (jn ?_))))))
 refine⟨i+1,((ah [41] (e':=[(0,_),(1,_),(7,_),(8,_),(23,_),(24,_),(25,_)]) Z Z ⟨Z,Z,Z,Z,Z,Z,Z,tv⟩ Z).trans (aa 41 900 Z Z)),by omega,by omega⟩
 refine aR (ae (ac ?_))
 obtain rfl:i=ts.length:=by have:=b9 z26;omega
 refine js Z (cW Z (js Z (jn (ak (ap (X:=Nat×List Rw×List Rw) (fun x=>⟨[(43,bO (jj 10)),(44,eI (jj 10).length),(45,eI x.1),(7,.c (.rs 900 0 x.2.1.length)),(8,.c (.rs 901 0 x.2.2.length))],[(900,kr x.2.1),(901,kr x.2.2)]⟩) (fun x=>x.1≤10∧gT (10-x.1) x.1 x.2.1 x.2.2=dk ts∧AllR ts.length x.2.1∧x.2.1.length≤60∧AllR ts.length x.2.2∧x.2.2.length≤60*x.1) (fun x=>10-x.1) (0,t5 ts,[]) ((cx 8 901 3 false Z Z).trans (Ent.to ⟨Z,Z,Z,congrArg (fun n=>some (A.c (.rs 900 0 n))) ca.symm,Z,tv⟩ Z)) ?_ (fun x hi=>?_))))))
 exact⟨cG _,Z,qe hf,by show(fB ts ts.length).length≤60;rw[ca];omega,AllR.nil,cG _⟩
 refine ac (js Z (jn (ae (zc Z (fun z46=>?_) (fun z46=>?_)))))
 refine af (ae (ak (ac ?_)))
 obtain⟨hx1,hx2,hx3,hx4,hx5,hx6⟩:=hi
 have hxl:x.1<10:=by have:=bt z46;simp only[dp]at this;omega
 obtain⟨k,ek⟩: ∃k,k=x.1:=⟨_,rfl⟩
 obtain⟨rs,ers⟩: ∃k,k=x.2.1:=⟨_,rfl⟩
 obtain⟨NW,eNW⟩: ∃k,k=x.2.2:=⟨_,rfl⟩
 rw[←ek,←ers,←eNW]at hx2
 rw[←ers]at hx3 hx4
 rw[←eNW]at hx5 hx6
 rw[←ek]at hx6 hxl
 rw[←ek,←ers,←eNW]
 refine st (aQ O Z Z Z Z Z Z Z Z (dx (by rw[dp];omega))) Z (st ((V Z).cast (v':=eI k) (congrArg eI (AM hxl))) Z (js Z (jf [13,46,43,44,45,7,8] Z (aN (js Z (jn (ae (ac (js Z (db Z Z (js Z (jn (ak (ap (X:=Nat) (fun i=>⟨[(43,bO (jj 10)),(44,eI (jj 10).length),(45,eI k),(7,.c (.rs 900 0 rs.length)),(8,.c (.rs 901 0 NW.length)),(13,eI k),(14,.c (.rs 902 0 (cS k (rs.take i)).length)),(49,.c (.rs 900 0 rs.length)),(50,eI rs.length),(51,eI i)],[(900,kr rs),(901,kr NW),(902,kr (cS k (rs.take i)))]⟩) (fun i=>i≤rs.length) (fun i=>rs.length-i) 0 ((cx 14 902 3 false Z Z).trans (Ent.to ⟨Z,Z,Z,Z,Z,Z,Z,Z,Z,Z,tv⟩ Z)) ?_ (fun i hi=>?_)))))))))))))))
 exact cG _
 refine ac (js Z (jn (ae (zc Z (fun z52=>?_) (fun z52=>?_)))))
 refine af (ae (ak (ac ?_)))
 have hil:i<rs.length:=by have:=bt z52;omega
 have hget:=qn hil
 refine db Z Z (st (bc O (ex:=(rs.getD i default).comb) Z Z Z Z hget Z) Z (jf [54,52,43,44,45,7,8,13,14,49,50,51] Z (jl Z (am ?_))))
 refine jo Z (am ?_)
 refine aN (jc Z (jf [57,56,16,54,52,43,44,45,7,8,13,14,49,50,51] Z (lo Z (((t9 (t:=(rs.getD i default).tm) (k:=k) h1 h2).plain (u:=eI ((rs.getD i default).xs.getD k default)) (congrArg eI (eu (rs.getD i default).xs k)))) 59000 Z (js Z (jf [59,16,54,52,43,44,45,7,8,13,14,49,50,51] Z (jn (zc Z (fun z59=>?_) (fun z59=>?_))))))))
 refine ag (jb Z (hp (aZ O Z Z Z Z Z Z Z Z Z Z Z) Z (am ?_)))
 refine jf [62,60,59,16,54,52,43,44,45,7,8,13,14,49,50,51] Z ?_
 have hki:=gf (k:=k) (rs:=rs.take (i+1))
 have hkj:=gf (k:=k) (rs:=rs.take i)
 rw[List.length_take]at hki hkj
 refine hp (ko (own:=false) (xs:=(cS k (rs.take i)).map Rw.comb) (ys:=[Rw.comb (rs.getD i default)]) (zs:=(cS k (rs.take (i+1))).map Rw.comb) (n:=(cS k (rs.take (i+1))).length) O Z (.row Z (bA _).symm) (.whole Z Z (.inr ⟨Z,Z⟩)) (by simp) Z (by simp only[bA,cp,du,dW,List.length_nil];omega) (by simp only[bA,cp,du,dW,List.length_nil];omega) (by rw[xD hil (bt z59),List.map_append];rfl) (bA _)) Z (am ?_)
 refine am ?_
 refine js Z (jf [14,59,16,54,52,43,44,45,7,8,13,49,50,51] Z (jn (ag (ji Z (js Z (jn ?_))))))
 refine⟨i+1,((ah [900,901,63] (e':=[(43,_),(44,_),(45,_),(7,_),(8,_),(13,_),(14,_),(49,_),(50,_),(51,_)]) Z Z ⟨Z,Z,Z,Z,Z,Z,Z,Z,Z,Z,tv⟩ Z).trans (aa 63 902 Z Z)),by omega,by omega⟩
 refine af (ag (ji Z (js Z (jn ?_))))
 have hkf:=xE (k:=k) (i:=i) (rs:=rs) hil (b9 z59)
 rw[←hkf]
 refine⟨i+1,((ah [900,901,902] (e':=[(43,_),(44,_),(45,_),(7,_),(8,_),(13,_),(14,_),(49,_),(50,_),(51,_)]) Z Z ⟨Z,Z,Z,Z,Z,Z,Z,Z,Z,Z,tv⟩ Z)).trans (Ent.to ⟨Z,Z,Z,Z,Z,Z,Z,Z,Z,Z,tv⟩ Z),by omega,by omega⟩
 refine aR (ae (ac ?_))
 have hie:i=rs.length:=by have:=b9 z52;omega
 subst hie
 rw[List.take_length]
 have hkl:=gf (k:=k) (rs:=rs)
 obtain⟨KP,eK⟩: ∃KP,KP=cS k rs:=⟨_,rfl⟩
 rw[←eK]
 rw[←eK]at hkl
 refine js Z (db Z Z (js Z (jn (ak (ap (X:=Nat×List Rw) (fun y=>⟨[(43,bO (jj 10)),(44,eI (jj 10).length),(45,eI k),(7,.c (.rs 900 0 rs.length)),(8,.c (.rs 901 0 (NW++y.2).length)),(13,eI k),(14,.c (.rs 902 0 (KP++y.2).length)),(65,.c (.rs 900 0 rs.length)),(66,eI rs.length),(67,eI y.1)],[(900,kr rs),(901,kr (NW++y.2)),(902,kr (KP++y.2))]⟩) (fun y=>y.1≤rs.length∧sE k KP.length rs (rs.drop y.1) y.2=sE k KP.length rs rs []∧AllR ts.length y.2∧(KP++y.2).length≤60) (fun y=>rs.length-y.1) (0,[]) (((ah [900,901,902] (e':=[(43,_),(44,_),(45,_),(7,_),(8,_),(13,_),(14,_),(65,_),(66,_),(67,_)]) Z Z ⟨Z,Z,Z,Z,Z,Z,Z,Z,Z,Z,tv⟩ Z)).trans (Ent.to ⟨Z,Z,Z,Z,(by simp only[List.append_nil];rfl),Z,(by simp only[List.append_nil];rfl),Z,Z,Z,tv⟩ (by simp only[List.append_nil];rfl))) ?_ (fun y hi=>?_))))))
 exact⟨cG _,Z,AllR.nil,by rw[List.append_nil];omega⟩
 refine ac (js Z (jn (ae (zc Z (fun z68=>?_) (fun z68=>?_)))))
 refine af (ae (ak (ac ?_)))
 obtain⟨hy1,hy2,hy3,hy4⟩:=hi
 have hyl:y.1<rs.length:=by have:=bt z68;omega
 have hget:=qn hyl
 refine db Z Z (st (bc O (ex:=(rs.getD y.1 default).comb) Z Z Z Z hget Z) Z (jf [70,68,43,44,45,7,8,13,14,65,66,67] Z (jl Z (am ?_))))
 refine jo Z (am ?_)
 refine aN (js Z (db Z Z (js Z (jn (ak (ap (X:=Nat×List Rw) (fun z=>⟨[(43,bO (jj 10)),(44,eI (jj 10).length),(45,eI k),(7,.c (.rs 900 0 rs.length)),(8,.c (.rs 901 0 (NW++z.2).length)),(13,eI k),(14,.c (.rs 902 0 (KP++z.2).length)),(65,.c (.rs 900 0 rs.length)),(66,eI rs.length),(67,eI y.1),(18,.c (.pt 18 0 0)),(71,.c (.rs 900 0 rs.length)),(72,eI rs.length),(73,eI z.1)],[(18,.box ((rs.getD y.1 default).comb.map .d)),(900,kr rs),(901,kr (NW++z.2)),(902,kr (KP++z.2))]⟩) (fun z=>z.1≤rs.length∧tU (rs.getD y.1 default) k KP.length (rs.drop z.1) z.2=tU (rs.getD y.1 default) k KP.length rs y.2∧AllR ts.length z.2∧(KP++z.2).length≤60) (fun z=>rs.length-z.1) (0,y.2) (((ah [18,900,901,902] (e':=[(43,_),(44,_),(45,_),(7,_),(8,_),(13,_),(14,_),(65,_),(66,_),(67,_),(18,_),(71,_),(72,_),(73,_)]) Z Z ⟨Z,Z,Z,Z,Z,Z,Z,Z,Z,Z,Z,Z,Z,Z,tv⟩ Z)).trans (Ent.to ⟨Z,Z,Z,Z,Z,Z,Z,Z,Z,Z,Z,Z,Z,Z,tv⟩ Z)) ?_ (fun z hi=>?_)))))))
 exact⟨cG _,Z,hy3,hy4⟩
 refine ac (js Z (jn (ae (zc Z (fun z74=>?_) (fun z74=>?_)))))
 refine af (ae (ak (ac ?_)))
 obtain⟨hz1,hz2,hz3,hz4⟩:=hi
 have hzl:z.1<rs.length:=by have:=bt z74;omega
 have hgetz:=qn hzl
 have hpi:=hx3.get hyl
 have hqj:=hx3.get hzl
 have hkz:=hz4
 have hgj:=uJ (p:=(rs.getD y.1 default)) (k:=k) (b:=KP.length) (rs:=rs) (new:=z.2) (j:=z.1) hzl
 refine db Z Z (st (bc O (ex:=(rs.getD z.1 default).comb) Z Z Z Z hgetz Z) Z (jf [76,74,43,44,45,7,8,13,14,65,66,67,18,71,72,73] Z (jl Z (am ?_))))
 refine jo Z (am ?_)
 refine jn (ae (ac (jc Z (jf [79,78,20,76,74,43,44,45,7,8,13,14,65,66,67,18,71,72,73] Z (lo Z (((t9 (t:=(rs.getD y.1 default).tm) (k:=k) h1 h2).plain (u:=eI ((rs.getD y.1 default).xs.getD k default)) (congrArg eI (eu (rs.getD y.1 default).xs k)))) 81000 Z (jb Z (jf [82,20,76,74,43,44,45,7,8,13,14,65,66,67,18,71,72,73] Z (ar 5 Z Z Z (fun hx=>nz hx Z (nz hx Z (nz hx Z (bj O hx Z Z Z Z (((t9 (t:=(rs.getD z.1 default).tm) (k:=k) h1 h2).plain (u:=eI ((rs.getD z.1 default).xs.getD k default)) (congrArg eI (eu (rs.getD z.1 default).xs k)))) (ab Z) Z Z Z Z Z Z Z (B0:=87000) Z (nz hx Z (AN.nil)))))) Z Z (st (ay O Z Z Z Z Z) Z (jf [88,20,76,74,43,44,45,7,8,13,14,65,66,67,18,71,72,73] Z (jn (zc Z (fun z88=>?_) (fun z88=>?_)))))))))))))
 refine aR (ag (ji Z (js Z (jn ?_))))
 rw[if_pos (Hb z88)]at hgj
 refine⟨(z.1+1,z.2),((ah [18,900,901,902] (e':=[(43,_),(44,_),(45,_),(7,_),(8,_),(13,_),(14,_),(65,_),(66,_),(67,_),(18,_),(71,_),(72,_),(73,_)]) Z Z ⟨Z,Z,Z,Z,Z,Z,Z,Z,Z,Z,Z,Z,Z,Z,tv⟩ Z)).trans (Ent.to ⟨Z,Z,Z,Z,Z,Z,Z,Z,Z,Z,Z,Z,Z,Z,tv⟩ Z),⟨by show z.1+1≤_;omega,hgj.symm.trans hz2,hz3,hz4⟩,by show rs.length-(z.1+1)<rs.length-z.1;omega⟩
 refine af (ac ?_)
 have hcc:=Hc z88
 rw[if_neg hcc]at hgj
 have hpk:0<(rs.getD y.1 default).xs.getD k default:=by omega
 have hqk:(rs.getD z.1 default).xs.getD k default<0:=by omega
 refine jc Z (aj O Z Z Z Z (IA (n:=ts.length) (p:=(rs.getD y.1 default)) (q:=(rs.getD z.1 default)) (k:=k) h1 h2 hpi hqj hxl hpk hqk (by omega)) (ab Z) Z Z Z Z (B0:=94000) Z Z (jc Z (jf [95,94,88,20,76,74,43,44,45,7,8,13,14,65,66,67,18,71,72,73] Z (jl Z (am ?_)))))
 refine jo Z (am ?_)
 refine js Z (jf [22,21,88,20,76,74,43,44,45,7,8,13,14,65,66,67,18,71,72,73] Z (jn (ae (ac (jc Z (jf [98,21,88,20,76,74,43,44,45,7,8,13,14,65,66,67,18,71,72,73] Z (ar 3 Z Z Z (fun hx=>nz hx Z (ny hx (vI Z Z) Z (nz hx Z (AN.nil)))) Z Z (st (ay O Z Z Z Z Z) Z (jf [102,21,88,20,76,74,43,44,45,7,8,13,14,65,66,67,18,71,72,73] Z (jn (zc Z (fun z102=>?_) (fun z102=>?_))))))))))))
 refine ac (jc Z (jr ?_))
 refine eR Z ?_
 have hno9:=Dr z102
 have hno: ¬(wX (ef (rs.getD y.1 default) (rs.getD z.1 default) k)=true∧KP.length+z.2.length≠60):=fun h=>hno9 ⟨h.1,by rw[cp];exact h.2⟩
 rw[if_neg hno]at hgj
 have hgi:=m9 (k:=k) (b:=KP.length) (rs:=rs) (new:=y.2) (i:=y.1) hyl
 rw[←hz2,hgj]at hgi
 have hs:fh k rs=none:=by show sE k (cS k rs).length rs rs []=none;rw[←eK,←hy2];exact hgi
 have he:dk ts=none:=by rw[←hx2,show 10-k=(10-(k+1))+1 by omega,ke hs]
 rw[qu he]
 exact .tup (.cons (.c .nils) (.cons (.c .nils) (.cons (.c .d) .nil)))
 refine af (ac ?_)
 have hyes9:=Dt z102
 have hyes:wX (ef (rs.getD y.1 default) (rs.getD z.1 default) k)=true∧KP.length+z.2.length≠60:=⟨hyes9.1,by have:=hyes9.2;rwa[cp]at this⟩
 have hk59:KP.length+z.2.length≤60:=by rw[←cp];exact hkz
 refine jb Z (hp (aZ O Z Z Z Z Z Z Z Z Z Z Z) Z (am ?_))
 refine jf [105,103,102,21,88,20,76,74,43,44,45,7,8,13,14,65,66,67,18,71,72,73] Z (hp (ko (own:=false) (xs:=(KP++z.2).map Rw.comb) (ys:=[Rw.comb (ef (rs.getD y.1 default) (rs.getD z.1 default) k)]) (zs:=(KP++(z.2++[ef (rs.getD y.1 default) (rs.getD z.1 default) k])).map Rw.comb) (n:=(KP++(z.2++[ef (rs.getD y.1 default) (rs.getD z.1 default) k])).length) O Z (.row Z (bA _).symm) (.whole Z Z (.inr ⟨Z,Z⟩)) (by simp) Z (by simp only[bA,cp,du,dW,List.length_nil];omega) (by simp only[bA,cp,du,dW,List.length_nil];omega) (by rw[←gm,List.map_append (l₁:=KP++z.2)];rfl) (bA _)) Z (am ?_))
 refine am ?_
 refine js Z (jf [14,102,21,88,20,76,74,43,44,45,7,8,13,65,66,67,18,71,72,73] Z (jn (ag (jb Z (hp (aZ O Z Z Z Z Z Z Z Z Z Z Z) Z (am ?_))))))
 refine jf [109,107,14,102,21,88,20,76,74,43,44,45,7,8,13,65,66,67,18,71,72,73] Z (hp (ko (own:=false) (xs:=(NW++z.2).map Rw.comb) (ys:=[Rw.comb (ef (rs.getD y.1 default) (rs.getD z.1 default) k)]) (zs:=(NW++(z.2++[ef (rs.getD y.1 default) (rs.getD z.1 default) k])).map Rw.comb) (n:=(NW++(z.2++[ef (rs.getD y.1 default) (rs.getD z.1 default) k])).length) O Z (.row Z (bA _).symm) (.whole Z Z (.inr ⟨Z,Z⟩)) (by simp) Z (by simp only[bA,cp,du,dW,List.length_nil];omega) (by simp only[bA,cp,du,dW,List.length_nil];omega) (by rw[←gm,List.map_append (l₁:=NW++z.2)];rfl) (bA _)) Z (am ?_))
 refine am ?_
 refine js Z (jf [8,14,102,21,88,20,76,74,43,44,45,7,13,65,66,67,18,71,72,73] Z (jn (ag (ji Z (js Z (jn ?_))))))
 rw[if_pos hyes]at hgj
 refine⟨(z.1+1,z.2++[ef (rs.getD y.1 default) (rs.getD z.1 default) k]),((((ah [18,900,110,106] (e':=[(43,_),(44,_),(45,_),(7,_),(8,_),(13,_),(14,_),(65,_),(66,_),(67,_),(18,_),(71,_),(72,_),(73,_)]) Z Z ⟨Z,Z,Z,Z,Z,Z,Z,Z,Z,Z,Z,Z,Z,Z,tv⟩ Z).trans (aa 110 901 Z Z)).trans (aa 106 902 Z Z))).trans (Ent.to ⟨Z,Z,Z,Z,Z,Z,Z,Z,Z,Z,Z,Z,Z,Z,tv⟩ Z),⟨by show z.1+1≤_;omega,hgj.symm.trans hz2,hz3.snoc (sS hpi hqj hpk hqk hyes.1),by rw[cp]at hkz ⊢;rw[cp,du];omega⟩,by show rs.length-(z.1+1)<rs.length-z.1;omega⟩
 refine aR (ag (ji Z (js Z (jn ?_))))
 obtain⟨hz1,hz2,hz3,hz4⟩:=hi
 have hze:rs.length≤z.1:=by have:=b9 z74;omega
 rw[xG hze]at hz2
 have hgi:=m9 (k:=k) (b:=KP.length) (rs:=rs) (new:=y.2) (i:=y.1) hyl
 rw[←hz2]at hgi
 refine⟨(y.1+1,z.2),((ah [900,901,902] (e':=[(43,_),(44,_),(45,_),(7,_),(8,_),(13,_),(14,_),(65,_),(66,_),(67,_)]) Z Z ⟨Z,Z,Z,Z,Z,Z,Z,Z,Z,Z,tv⟩ Z)).trans (Ent.to ⟨Z,Z,Z,Z,Z,Z,Z,Z,Z,Z,tv⟩ Z),⟨by show y.1+1≤_;omega,hgi.symm.trans hy2,hz3,hz4⟩,by show rs.length-(y.1+1)<rs.length-y.1;omega⟩
 refine aR (ae (ac ?_))
 have hk60:=hi.2.2.2
 refine js Z (db Z Z (js Z (jf [115,68,43,44,45,7,8,13,14,65,66,67] Z (jn (zc Z (fun z115=>?_) (fun z115=>?_))))))
 exact absurd (bt z115) (by omega)
 refine af (ag (jb Z (jn (ag (ji Z (js Z (jn ?_)))))))
 obtain⟨hy1,hy2,hy3,hy4⟩:=hi
 have hye:rs.length≤y.1:=by have:=b9 z68;omega
 rw[xJ hye]at hy2
 have hs:fh k rs=some y.2:=by show sE k (cS k rs).length rs rs []=_;rw[←eK];exact hy2.symm
 have hso:=n3 hx3 hx4 hs
 subst eK
 refine⟨(k+1,cS k rs++y.2,NW++y.2),((((ah [902,901] (e':=[(43,_),(44,_),(45,_),(7,_),(8,_)]) Z Z ⟨Z,Z,Z,Z,Z,tv⟩ Z).trans (aa 902 900 Z Z))).trans (Ent.to ⟨Z,Z,Z,Z,Z,tv⟩ Z)),⟨by show k+1≤10;omega,?_,hso.1,hso.2.1,hx5.app hso.2.2.1,?_⟩,?_⟩
 show gT (10-(k+1)) (k+1) _ _=_
 rw[←hx2,show 10-k=(10-(k+1))+1 by omega,kd hs]
 show(NW++y.2).length≤60*(k+1)
 have:=hso.2.2.2;rw[cp];omega
 show 10-(k+1)<10-k;omega
 refine aR (ac (jd Z (js Z (jf [6,5,4,46,43,44,45,7,8] Z (jr ?_)))))
 refine eR Z ?_
 obtain⟨hx1,hx2,hx3,hx4,hx5,hx6⟩:=hi
 have hxe:x.1=10:=by have:=b9 z46;simp only[dp]at this;omega
 rw[hxe]at hx2
 have he:dk ts=some x.2:=hx2.symm
 rw[ii he]
 exact .tup (.cons (.c (.whole Z (bA _).symm)) (.cons (.c (.whole Z (bA _).symm)) (.cons (.c .d) .nil)))
theorem DA{L:Nat}(h1:4096≤L)(h2:L≤1073741824){ts:List Tm}{t:Tm}(h0:0<ts.length)(hl:ts.length≤1000):MC Tryz.prog L 154 [bM ts,cR t] [] (Plain (bM (ts++[t]))):=by
 cases ts with
 | nil=>exact absurd h0 (by decide)
 | cons c r=>exact B2 (c:=c) (r:=r) (t:=t) h1 h2 hl
def zf(ts:List Tm):Tm×Rw×Bool:=match eQ ts with
  | none=>(⟨0,[]⟩,⟨0,[],[]⟩,false)
  | some r=>((aC ts r.tm).1,r,true)
abbrev HG(z:Tm×Rw×Bool):A:=.tup [cR z.1,GK z.2.1,eB z.2.2]
theorem nh{ts:List Tm}(h:eQ ts=none):zf ts=(⟨0,[]⟩,⟨0,[],[]⟩,false):=by unfold zf;rw[h]
theorem ng{ts:List Tm}{r:Rw}(h:eQ ts=some r):zf ts=((aC ts r.tm).1,r,true):=by unfold zf;rw[h]
theorem EL{ts:List Tm}(h:Fs ts):(zf ts).1.ok=true:=by
 cases hc:eQ ts with
 | none=>rw[nh hc];decide
 | some r=>rw[ng hc];exact e6 (j5 h hc).2
theorem IJ(hf:Fs ts):MQ h1 h2 144 [bM ts] [] (Plain (zA (dj ts))):=by
 refine MC.data (jB 35 h1 h2 Tryz.func144 Z fun O hF=>?_)
 refine ac (jb Z (jn (ae (ac (js Z (lo Z ((IE (ts:=ts) h1 h2).plain (u:=eB true) (congrArg eB hf.all)) 11000 Z (js Z (jn (zc Z (fun z11=>?_) (fun z11=>?_))))))))))
 exact absurd z11 (by decide)
 refine af (ac (js Z (aj O Z Z Z Z (DN (n:=10) h1 h2 (by omega)) (ab Z) Z Z Z Z (B0:=15000) Z Z (aj O Z Z Z Z (DO (ts:=ts) h1 h2 hf) (ab Z) Z Z Z Z (B0:=16000) Z Z (jd Z (jc Z (jn (ae (ac (jb Z (jn (zc Z (fun z20=>?_) (fun z20=>?_)))))))))))))
 refine ac (jb Z (jr ?_))
 refine eR Z ?_
 rw[xw (xb (GD z20))]
 exact .tup (.cons (.c .nils) (.cons (.c .d) .nil))
 refine af (ae (ac ?_))
 obtain⟨z,hz⟩:=xa (ts:=ts) (Gr z20)
 rw[ii hz]
 obtain⟨ha,hal,hb,hbl⟩:=jF hf (a:=z.1) (b:=z.2) hz
 refine js Z (cW Z (js Z (jn (ak (ap (X:=Nat) (fun i=>⟨[(21,Cb z.1),(22,eI z.1.length),(23,eI i)],[]⟩) (fun i=>i≤z.1.length∧gR (z.1.drop i)=gR z.1) (fun i=>z.1.length-i) 0 (Ent.to ⟨Z,Z,Z,tv⟩ Z) ?_ (fun i hi=>?_))))))
 exact⟨cG _,Z⟩
 refine ac (js Z (jn (ae (zc Z (fun z24=>?_) (fun z24=>?_)))))
 refine af (ae (ak (ac ?_)))
 have hil:i<z.1.length:=by have:=bt z24;omega
 have hfc:=qU (rs:=z.1) hil
 refine st (aQ O Z Z Z Z Z Z Z Z (dx hil)) Z (js Z (jl Z (am ?_)))
 refine jo Z (am ?_)
 refine aN (jd Z (jn (zc Z (fun z30=>?_) (fun z30=>?_))))
 refine ac (jb Z (aj O Z Z Z Z (DB (xs:=(z.1.getD i default).ms) h1 h2) (ab Z) Z Z Z Z (B0:=34000) Z Z (jb Z (jr ?_))))
 refine eR Z ?_
 rw[if_pos (bt z30),hi.2]at hfc
 rw[Aa hz hfc]
 exact .tup (.cons (.c .d) (.cons (.c .d) .nil))
 refine af (ag (ji Z (js Z (jn ?_))))
 rw[if_neg (b9 z30)]at hfc
 refine⟨i+1,((ah [] (e':=[(21,_),(22,_),(23,_)]) Z Z ⟨Z,Z,Z,tv⟩ Z).trans bK),⟨by omega,hfc.symm.trans hi.2⟩,by omega⟩
 refine aR (ac (jb Z (jr ?_)))
 refine eR Z ?_
 have hle:z.1.length≤i:=by have:=b9 z24;omega
 have h9:=hi.2
 rw[r8 hle]at h9
 rw[Ab hz h9.symm]
 exact .tup (.cons (.c .nils) (.cons (.c .d) .nil))
theorem II(hf:Fs ts):MQ h1 h2 145 [bM ts] [] (Plain (HG (zf ts))):=by
 refine MC.data (jB 42 h1 h2 Tryz.func145 Z fun O hF=>?_)
 refine ac (jl Z (am ?_))
 refine jl Z (am ?_)
 refine js Z (aN (js Z (aj O Z Z Z Z (DN (n:=10) h1 h2 (by omega)) (ab Z) Z Z Z Z (B0:=15000) Z Z (aj O Z Z Z Z (DO (ts:=ts) h1 h2 hf) (ab Z) Z Z Z Z (B0:=16000) Z Z (jd Z (jc Z (jn (ae (ac (jb Z (jn (zc Z (fun z20=>?_) (fun z20=>?_)))))))))))))
 refine ac (jb Z (jo Z (am ?_)))
 refine jo Z (am ?_)
 refine js Z (jr ?_)
 refine eR Z ?_
 rw[nh (xS (xb (GD z20)))]
 exact .tup (.cons (.agg (.cons .d (.cons .nils .nil))) (.cons (.agg (.cons .d (.cons .nils (.cons .nils .nil)))) (.cons (.c .d) .nil)))
 refine af (ae (ac ?_))
 obtain⟨z,hz⟩:=xa (ts:=ts) (Gr z20)
 rw[ii hz]
 obtain⟨ha,hal,hb,hbl⟩:=jF hf (a:=z.1) (b:=z.2) hz
 refine js Z (cW Z (js Z (jn (ak (ap (X:=Nat) (fun i=>⟨[(0,bM ts),(2,.c (.pt 2 0 0)),(3,.c (.pt 3 0 0)),(23,Cb z.2),(24,eI z.2.length),(25,eI i)],[(2,.box [.d (.int .i64 0),.d .nils]),(3,.box [.d (.int .i64 0),.d .nils,.d .nils])]⟩) (fun i=>i≤z.2.length∧kq ts (z.2.drop i)=kq ts z.2) (fun i=>z.2.length-i) 0 (Ent.to ⟨Z,Z,Z,Z,Z,Z,tv⟩ Z) ?_ (fun i hi=>?_))))))
 exact⟨cG _,Z⟩
 refine ac (js Z (jn (ae (zc Z (fun z26=>?_) (fun z26=>?_)))))
 refine af (ae (ak (ac ?_)))
 have hil:i<z.2.length:=by have:=bt z26;omega
 have hfc:=qV (ts:=ts) (rs:=z.2) hil
 have hro:=hb.get hil
 refine st (aQ O Z Z Z Z Z Z Z Z (dx hil)) Z (js Z (jl Z (am ?_)))
 refine jo Z (am ?_)
 refine aN (jc Z (aj O Z Z Z Z (DR (ts:=ts) (t:=(z.2.getD i default).tm) h1 h2 hro.tm) (ab Z) Z Z Z Z (B0:=34000) Z Z (jc Z (jl Z (am ?_)))))
 refine jo Z (am ?_)
 refine js Z (aN (js Z (jn (zc Z (fun z36=>?_) (fun z36=>?_)))))
 refine ae (fJ [_,_,_,_,_] [p0,pn [] 0 1,pe [0] 0,pe [0,1,2] 1,pn (rg 0 4) 2 2] [2,3] [_,_,_] (kc Z (ai (kc Z (V Z)) (ai (eS Z Z Z) (ai (eS Z Z Z) (kc Z trivial))))) ?_)
 refine jw [4,36,11,10,9,28,26,0,2,3,23,24,25] Z (bJ ?_)
 refine dJ ?_
 refine eR Z ?_
 rw[if_pos z36,hi.2,←pG hz]at hfc
 rw[ng hfc]
 exact .tup (.cons (.agg (ax Z)) (.cons (.agg (ax Z)) (.cons (.c .d) .nil)))
 refine af (ag (ji Z (js Z (jn ?_))))
 rw[if_neg (by rw[z36];decide)]at hfc
 refine⟨i+1,((ah [2,3] (e':=[(0,_),(2,_),(3,_),(23,_),(24,_),(25,_)]) Z Z ⟨Z,Z,Z,Z,Z,Z,tv⟩ Z).trans bK),⟨by omega,hfc.symm.trans hi.2⟩,by omega⟩
 refine aR (ac (jb Z (jo Z (am ?_))))
 refine jo Z (am ?_)
 refine js Z (jr ?_)
 refine eR Z ?_
 have hle:z.2.length≤i:=by have:=b9 z26;omega
 have h9:=hi.2
 rw[r9 hle,←pG hz]at h9
 rw[nh h9.symm]
 exact .tup (.cons (.agg (.cons .d (.cons .nils .nil))) (.cons (.agg (.cons .d (.cons .nils (.cons .nils .nil)))) (.cons (.c .d) .nil)))
abbrev gP(b:Int)(s:Wk)(l:Nat):B:=.box [.d (.int .i64 b),.rs l 0 s.1.length,.d (.bool s.2)]
theorem Db{b:Int}{s:Wk}{n:Nd}(h:decide ((s.1.length:Int)=b)=true):iv b s n=(s.1,true):=if_pos (.inl (bt h))
theorem Dd{b:Int}{s:Wk}{n:Nd}(h:(!(n.mul.all co))=true):iv b s n=(s.1,true):=if_pos (.inr (by simpa using h))
theorem Dc{b:Int}{s:Wk}{n:Nd}(h:decide ((s.1.length:Int)=b)=false)(h2:(!(n.mul.all co))=false):iv b s n=(s.1++[n],s.2):=if_neg (by
  rintro(h3|h3)
  · exact b9 h h3
  · rw[h3]at h2;cases h2)
theorem zU{s:Wk}{n:Nd}{x y:D}(hx:VM [] (.d x) (.d (cK n.term.xs)))(hy:VM [] (.d y) (.d (cK n.mul)))(hl:s.1.length≤1000):MQ h1 h2 142 [.c (.pt 0 0 0),.agg [.d (.int .i64 n.kind),.d (.int .i64 n.fact),.d (.int .i64 n.term.c),.d x,.d y]] [(0,gP b s 1),(1,dc s.1)] (aO (.tup []) [(0,gP b (iv b s n) 2),(2,dc (iv b s n).1)]):=by
 refine MC.shift 500 Z (jH 34 [500,501] h1 h2 Tryz.func142 Z fun O hF=>?_)
 refine ac (jx Z (am ?_))
 refine an (Ent.freeze 3 (e':=[(3,_),(0,_)]) Z (.cons Z (.c (.box (cs:=Nd.cells n) Z (.cons .d (.cons .d (.cons .d (.cons hx (.cons hy .nil))))))) (fe [0] Z)) (.skip (cb Z (cw Z .nil)))) ?_
 refine am ?_
 refine jn (ae (ae ?_))
 cases hb1:decide ((s.1.length:Int)=b)with
 | true=>
  refine zd [_,_,_,_,_,_,_,_,_,_,_,_,_,_,_,_,_] [p0,pz [0],pz [0,1],pz [0,1,2],pz (rg 0 4),pe (rg 0 5) 0,pn [] 0 1,pn [6] 0 1,pn [6,7] 0 1,pn [6,7,8] 0 1,pn (rg 0 10) 1 1,pn (rg 0 11) 1 1,pn (rg 0 12) 0 1,pn (rg 0 13) 0 1,pn (rg 0 14) 0 1,pn (rg 0 15) 0 1,pn (rg 0 16) 1 1] [5] [_,_] (k4 Z (ai (vI Z Z) (ai (bg O (B0:=10000) Z Z Z Z (yg (n:=s.1.length) h1 h2) (ab Z) Z Z Z Z Z) (ai (kc Z (V Z)) (ai (kc Z (V Z)) (ai (kc Z (V Z)) (ai (kc Z (V Z)) (kc Z (ai ((V Z).cast (v':=eB true) (congrArg eB hb1)) (ai ⟨Z,Z⟩ (ai ⟨Z,Z⟩ (ai ⟨Z,Z⟩ (ai ⟨Z,Z⟩ (ai (aV O Z Z Z Z Z) trivial)))))))))))))) ?_
  refine jw [20,3,0] Z (bJ ?_)
  refine zc Z (fun z20=>?_) (fun z20=>?_)
  refine ac (jc Z (jo Z (am ?_)))
  refine jr ?_
  rw[Db hb1]
  refine⟨.inl Z,_,((ah [500,501] (e':=[]) Z Z trivial Z).trans (aa 501 502 Z Z)),_,Z,Z,Z⟩
  cases z20
 | false=>
  refine zd [_,_,_,_,_,_,_,_,_,_,_,_,_,_,_,_,_] [p0,pz [0],pz [0,1],pz [0,1,2],pz (rg 0 4),pe (rg 0 5) 0,pn [] 0 1,pn [6] 0 1,pn [6,7] 0 1,pn [6,7,8] 0 1,pn (rg 0 10) 1 1,pn (rg 0 11) 1 1,pn (rg 0 12) 1 1,pn (rg 0 13) 1 1,pe (rg 0 14) 1,pn (rg 0 15) 2 2,pn (rg 0 16) 2 2] [5,14] [_,_,_] (k4 Z (ai (vI Z Z) (ai (bg O (B0:=10000) Z Z Z Z (yg (n:=s.1.length) h1 h2) (ab Z) Z Z Z Z Z) (ai (kc Z (V Z)) (ai (kc Z (V Z)) (ai (kc Z (V Z)) (ai (kc Z (V Z)) (kc Z (ai ((V Z).cast (v':=eB false) (congrArg eB hb1)) (kc Z (kc Z (ai (bg O (B0:=19000) Z Z Z Z (vA (xs:=Nd.mul n) h1 h2) (ab Z) Z Z Z Z Z) (kc Z (ai (aI O Z Z Z Z Z) trivial)))))))))))))) ?_
  refine jw [20,3,0] Z (bJ ?_)
  refine zc Z (fun z20=>?_) (fun z20=>?_)
  refine ac (jc Z (jo Z (am ?_)))
  refine jr ?_
  rw[Dd z20]
  refine⟨.inl Z,_,((ah [500,501] (e':=[]) Z Z trivial Z).trans (aa 501 502 Z Z)),_,Z,Z,Z⟩
  refine af (jw [3,0] Z (kx [_,_,_,_,_,_,_,_,_,_,_] [pn [] 0 2,pn [] 0 1,pn [1] 0 1,pn [1,2] 0 1,pn [1,2,3] 0 1,p0,pe [5] 0,pe (rg 1 6) 1,pn (rg 0 8) 2 2,pn (rg 0 9) 2 2,pe (rg 0 10) 2] [6,7,10] [_,_,_,_] [[],[501],[]] (ai (ka Z Z (ka Z Z (kw Z Z))) (ai (ka Z Z (kw Z Z)) (ai (ka Z Z (kw Z Z)) (ai (ka Z Z (kw Z Z)) (ai (ka Z Z (kw Z Z)) (ka Z Z (ai (ai (az (cD O Z Z Z Z Z Z Z Z Z Z Z Z Z Z)) Z) (ai (ai (bW (own:=false) (xs:=s.1.map Nd.cells) (ys:=[Nd.cells n]) (zs:=(s.1++[n]).map Nd.cells) (n:=(s.1++[n]).length) O Z Z Z Z Z Z Z Z Z Z Z Z Z Z Z Z (.row Z (bA _).symm) (.whole Z Z (.inr ⟨Z,Z⟩)) (by simp) Z (by simp only[bA,cp,du,dW,List.length_nil];omega) (by simp only[bA,cp,du,dW,List.length_nil];omega) (by simp) (bA _) Z) Z) (ka Z Z (ka Z Z (ai (ai (az (eS Z Z Z)) Z) trivial))))))))))) ?_))
  show _∧_
  rw[Dc hb1 z20]
  refine⟨.inr Z,_,((ah [500,31] (e':=[]) Z Z trivial Z).trans (aa 31 502 Z Z)),_,Z,Z,Z⟩
theorem Gd{s:Wk}(hl:s.1.length≤1000):MQ h1 h2 142 [.c (.pt 0 0 0),.agg [.d (.int .i64 1),.d (.int .i64 0),.d (.int .i64 0),.d .nils,.rs 2 0 ms.length]] [(0,gP b s 1),(1,dc s.1),(2,aE ms)] (aO (.tup []) [(0,gP b (iv b s (c7 ms)) 3),(3,dc (iv b s (c7 ms)).1)]):=by
 refine MC.shift 500 Z (jH 34 [500,501,502] h1 h2 Tryz.func142 Z fun O hF=>?_)
 refine ac (jx Z (am ?_))
 refine an (Ent.freeze 502 (e':=[(3,_),(0,_)]) Z (fe [3,0] Z) (.cons Z (.box (ck Z (ck Z (ck Z (ck Z (.cons (.row Z (bA _).symm) .nil)))))) (cb Z (cw Z (.skip .nil))))) ?_
 refine an (Ent.freeze 3 (e':=[(3,_),(0,_)]) Z (.cons Z (.c (.box (cs:=Nd.cells (c7 ms)) Z (.cons .d (.cons .d (.cons .d (.cons .nils (.cons .d .nil))))))) (fe [0] Z)) (.skip (cb Z (cw Z .nil)))) ?_
 refine am ?_
 refine jn (ae (ae ?_))
 cases hb1:decide ((s.1.length:Int)=b)with
 | true=>
  refine zd [_,_,_,_,_,_,_,_,_,_,_,_,_,_,_,_,_] [p0,pz [0],pz [0,1],pz [0,1,2],pz (rg 0 4),pe (rg 0 5) 0,pn [] 0 1,pn [6] 0 1,pn [6,7] 0 1,pn [6,7,8] 0 1,pn (rg 0 10) 1 1,pn (rg 0 11) 1 1,pn (rg 0 12) 0 1,pn (rg 0 13) 0 1,pn (rg 0 14) 0 1,pn (rg 0 15) 0 1,pn (rg 0 16) 1 1] [5] [_,_] (k4 Z (ai (vI Z Z) (ai (bg O (B0:=10000) Z Z Z Z (yg (n:=s.1.length) h1 h2) (ab Z) Z Z Z Z Z) (ai (kc Z (V Z)) (ai (kc Z (V Z)) (ai (kc Z (V Z)) (ai (kc Z (V Z)) (kc Z (ai ((V Z).cast (v':=eB true) (congrArg eB hb1)) (ai ⟨Z,Z⟩ (ai ⟨Z,Z⟩ (ai ⟨Z,Z⟩ (ai ⟨Z,Z⟩ (ai (aV O Z Z Z Z Z) trivial)))))))))))))) ?_
  refine jw [20,3,0] Z (bJ ?_)
  refine zc Z (fun z20=>?_) (fun z20=>?_)
  refine ac (jc Z (jo Z (am ?_)))
  refine jr ?_
  rw[Db hb1]
  refine⟨.inl Z,_,((ah [500,501] (e':=[]) Z Z trivial Z).trans (aa 501 503 Z Z)),_,Z,Z,Z⟩
  cases z20
 | false=>
  refine zd [_,_,_,_,_,_,_,_,_,_,_,_,_,_,_,_,_] [p0,pz [0],pz [0,1],pz [0,1,2],pz (rg 0 4),pe (rg 0 5) 0,pn [] 0 1,pn [6] 0 1,pn [6,7] 0 1,pn [6,7,8] 0 1,pn (rg 0 10) 1 1,pn (rg 0 11) 1 1,pn (rg 0 12) 1 1,pn (rg 0 13) 1 1,pe (rg 0 14) 1,pn (rg 0 15) 2 2,pn (rg 0 16) 2 2] [5,14] [_,_,_] (k4 Z (ai (vI Z Z) (ai (bg O (B0:=10000) Z Z Z Z (yg (n:=s.1.length) h1 h2) (ab Z) Z Z Z Z Z) (ai (kc Z (V Z)) (ai (kc Z (V Z)) (ai (kc Z (V Z)) (ai (kc Z (V Z)) (kc Z (ai ((V Z).cast (v':=eB false) (congrArg eB hb1)) (kc Z (kc Z (ai (bg O (B0:=19000) Z Z Z Z (vA (xs:=Nd.mul (c7 ms)) h1 h2) (ab Z) Z Z Z Z Z) (kc Z (ai (aI O Z Z Z Z Z) trivial)))))))))))))) ?_
  refine jw [20,3,0] Z (bJ ?_)
  refine zc Z (fun z20=>?_) (fun z20=>?_)
  refine ac (jc Z (jo Z (am ?_)))
  refine jr ?_
  rw[Dd z20]
  refine⟨.inl Z,_,((ah [500,501] (e':=[]) Z Z trivial Z).trans (aa 501 503 Z Z)),_,Z,Z,Z⟩
  refine af (jw [3,0] Z (kx [_,_,_,_,_,_,_,_,_,_,_] [pn [] 0 2,pn [] 0 1,pn [1] 0 1,pn [1,2] 0 1,pn [1,2,3] 0 1,p0,pe [5] 0,pe (rg 1 6) 1,pn (rg 0 8) 2 2,pn (rg 0 9) 2 2,pe (rg 0 10) 2] [6,7,10] [_,_,_,_] [[],[501],[]] (ai (ka Z Z (ka Z Z (kw Z Z))) (ai (ka Z Z (kw Z Z)) (ai (ka Z Z (kw Z Z)) (ai (ka Z Z (kw Z Z)) (ai (ka Z Z (kw Z Z)) (ka Z Z (ai (ai (az (cD O Z Z Z Z Z Z Z Z Z Z Z Z Z Z)) Z) (ai (ai (bW (own:=false) (xs:=s.1.map Nd.cells) (ys:=[Nd.cells (c7 ms)]) (zs:=(s.1++[(c7 ms)]).map Nd.cells) (n:=(s.1++[(c7 ms)]).length) O Z Z Z Z Z Z Z Z Z Z Z Z Z Z Z Z (.row Z (bA _).symm) (.whole Z Z (.inr ⟨Z,Z⟩)) (by simp) Z (by simp only[bA,cp,du,dW,List.length_nil];omega) (by simp only[bA,cp,du,dW,List.length_nil];omega) (by simp) (bA _) Z) Z) (ka Z Z (ka Z Z (ai (ai (az (eS Z Z Z)) Z) trivial))))))))))) ?_))
  show _∧_
  rw[Dc hb1 z20]
  refine⟨.inr Z,_,((ah [500,31] (e':=[]) Z Z trivial Z).trans (aa 31 503 Z Z)),_,Z,Z,Z⟩
theorem Gj{ts:List Tm}{s:Wk}(h:decide ((ts.length:Int)=14)=true):eh ts s=(s.1,true):=by unfold eh;rw[if_pos (by have:=bt h;omega)]
theorem Gk{ts:List Tm}{s:Wk}(h:decide ((ts.length:Int)=14)=false):eh ts s=s:=by unfold eh;rw[if_neg (by have:=b9 h;omega)]
theorem DQ{s:Wk}(h0:0<ts.length)(hl:ts.length≤1000):MQ h1 h2 143 [.c (.pt 0 0 0),bM ts,cR t] [(0,gP b s 1),(1,dc s.1)] (aO (bM (ts++[t])) [(0,gP b (eh ts s) 1),(1,dc (eh ts s).1)]):=by
 refine MC.shift 500 Z (jH 16 [500,501] h1 h2 Tryz.func143 Z fun O hF=>?_)
 refine ac (jx Z (am ?_))
 refine an (Ent.freeze 5 (e':=[(5,_),(0,_),(1,_)]) Z (.cons Z (.c (.box (cs:=Tm.cells t) Z (ax Z))) (fe [0,1] Z)) (.skip (cb Z (cw Z .nil)))) ?_
 refine am ?_
 refine js Z (jn (ae (ac (js Z (cW Z (js Z (jn (zc Z (fun z9=>?_) (fun z9=>?_)))))))))
 refine ag (jc Z (jo Z (am ?_)))
 refine aN (jb Z (aj O Z Z Z Z (DA (ts:=ts) (t:=t) h1 h2 h0 hl) (ab Z) Z Z Z Z (B0:=16000) Z Z (js Z (jr ?_))))
 rw[Gj z9]
 refine⟨.inl Z,_,bK,_,Z,Z,Z⟩
 refine af (ac (jb Z (aj O Z Z Z Z (DA (ts:=ts) (t:=t) h1 h2 h0 hl) (ab Z) Z Z Z Z (B0:=16000) Z Z (js Z (jr ?_)))))
 rw[Gk z9]
 refine⟨.inl Z,_,bK,_,Z,Z,Z⟩
structure WkI(b:Int)(g:Nat)(ts:List Tm)(s:Wk):Prop where
  f:Fs ts∨s.2=true
  a:15≤g+ts.length
  n0:0<ts.length
  n1:ts.length≤15
  l:(s.1.length:Int)≤b
theorem u6{b:Int}{ts:List Tm}{s:Wk}{n:Nd}(h:(s.1.length:Int)≤b):((eh ts (iv b s n)).1.length:Int)≤b:=mK (n:=n) h
theorem WkI.add{b:Int}{g:Nat}{ts:List Tm}{s:Wk}{t:Tm}{n:Nd}(h:WkI b (g+1) ts s)(hf:Fs ts)(ht:t.ok=true):WkI b g (ts++[t]) (eh ts (iv b s n)):=by
 have hl:=hf.len
 have ha:=h.a
 refine⟨?_,by rw[cp,du];omega,by rw[cp,du];omega,by rw[cp,du];omega,u6 h.l⟩
 by_cases e:ts.length=14
 exact .inr (by unfold eh;rw[if_pos e])
 exact .inl (hf.snoc ht e)
theorem Cg{b:Int}{g:Nat}{T:List Tm}{S:Wk}{i:Nat}(h:S.2=false)(ht:fM T=some i):jg b (g+1) T S=jg b g (T++[(aC T (T.getD i default)).1]) (eh T (iv b S (dS i))):=by
 rw[jg,if_neg (by rw[h];decide),ht]
theorem Ci{b:Int}{g:Nat}{T:List Tm}{S:Wk}(h:S.2=false)(ht:fM T=none)(hr:(dj T).2=true):jg b (g+1) T S=iv b S (c7 (dj T).1):=by
 rw[jg,if_neg (by rw[h];decide),ht];simp only;rw[if_pos hr]
theorem Cj{b:Int}{g:Nat}{T:List Tm}{S:Wk}(h:S.2=false)(ht:fM T=none)(hr:(dj T).2=false)(hb:((zf T).2.2&&(dP (zf T).1).ok)=false):jg b (g+1) T S=(S.1,true):=by
 rw[jg,if_neg (by rw[h];decide),ht];simp only;rw[if_neg (by rw[hr];decide)]
 cases hc:eQ T with
 | none=>rfl
 | some r=>
  rw[ng hc,Bool.true_and]at hb
  simp only;rw[if_neg (by rw[l7,hb];decide)]
theorem Ch{b:Int}{g:Nat}{T:List Tm}{S:Wk}{r:Rw}(h:S.2=false)(ht:fM T=none)(hr:(dj T).2=false)(hc:eQ T=some r)(ho:(aL (aC T r.tm).1).2=true) :
    jg b (g+1) T S=iv b (jg b g (T++[(aC T r.tm).1]) (eh T (iv b S (dn (aC T r.tm).1)))) (c7 (eP r)):=by
 rw[jg,if_neg (by rw[h];decide),ht];simp only;rw[if_neg (by rw[hr];decide),hc];simp only;rw[if_pos ho]
theorem HT{ts:List Tm}(h:(zf ts).2.2=true): ∃r,eQ ts=some r:=by
 cases hc:eQ ts with
 | none=>rw[nh hc]at h;cases h
 | some r=>exact⟨r,Z⟩
theorem Ge(hb:1≤b∧b≤60){F:Nat}(ih: ∀g:Nat,g<F→∀(ts:List Tm) (s:Wk),WkI b g ts s→MQ h1 h2 99 [.c (.pt 0 0 0),bM ts] [(0,gP b s 1),(1,dc s.1)] (aO (.tup []) [(0,gP b (jg b g ts s) 2),(2,dc (jg b g ts s).1)])){s:Wk}(hw:WkI b F ts s):MQ h1 h2 99 [.c (.pt 0 0 0),bM ts] [(0,gP b s 1),(1,dc s.1)] (aO (.tup []) [(0,gP b (jg b F ts s) 2),(2,dc (jg b F ts s).1)]):=by
 refine MC.shift 500 Z (jH 93 [500,501] h1 h2 Tryz.func99 Z fun O hF=>?_)
 refine ak (ap (X:=Nat×List Tm×Wk) (fun x=>⟨[(0,.c (.pt 500 0 0)),(1,bM x.2.1)],[(500,gP b x.2.2 902),(902,dc x.2.2.1)]⟩) (fun x=>x.1≤F∧WkI b x.1 x.2.1 x.2.2∧jg b x.1 x.2.1 x.2.2=jg b F ts s) (fun x=>16-x.2.1.length) (F,ts,s) ((aa 501 902 Z Z).trans (Ent.to ⟨Z,Z,tv⟩ Z)) ?_ (fun x hi=>?_))
 exact⟨cQ _,hw,Z⟩
 refine ae (ac (jd Z (js Z (jn (zc Z (fun z18=>?_) (fun z18=>?_))))))
 refine af (ak (ac ?_))
 obtain⟨hx1,hx2,hx3⟩:=hi
 have hS2:x.2.2.2=false:=GD z18
 have hfs:Fs x.2.1:=hx2.f.resolve_right (by rw[hS2];decide)
 have hlen:=hfs.len
 obtain⟨T,eT⟩: ∃T,T=x.2.1:=⟨_,rfl⟩
 obtain⟨S,eS⟩: ∃S,S=x.2.2:=⟨_,rfl⟩
 obtain⟨g,eg⟩: ∃g,x.1=g+1:=⟨x.1-1,by have:=hx2.a;omega⟩
 rw[←eT,←eS,eg]at hx2 hx3
 rw[eg]at hx1
 rw[←eT]at hfs hlen
 rw[←eS]at hS2
 rw[←eT,←eS]
 refine js Z (jn (ae (ac (js Z (cW Z (js Z (jn (ak (ap (X:=Nat) (fun i=>⟨[(0,.c (.pt 500 0 0)),(1,bM T),(4,eB false),(19,bM T),(20,eI T.length),(21,eI i)],[(500,gP b S 902),(902,dc S.1)]⟩) (fun i=>i≤T.length∧pK T (T.length-i) i=fM T) (fun i=>T.length-i) 0 (Ent.to ⟨Z,Z,Z,Z,Z,Z,tv⟩ Z) ?_ (fun i hi=>?_))))))))))
 exact⟨cG _,Z⟩
 refine ac (js Z (jn (ae (zc Z (fun z22=>?_) (fun z22=>?_)))))
 refine af (ae (ak (ac ?_)))
 have hil:i<T.length:=by have:=bt z22;omega
 have hti:=hfs.get hil
 refine js Z (jh Z Z (js Z (jl Z (am ?_))))
 refine js Z (jo Z (am ?_))
 refine aN (jb Z (aj O Z Z Z Z (DR (ts:=T) (t:=T.getD i default) h1 h2 hti) (ab Z) Z Z Z Z (B0:=30000) Z Z (jc Z (jl Z (am ?_)))))
 refine jo Z (am ?_)
 refine js Z (aN (js Z (jn (zc Z (fun z32=>?_) (fun z32=>?_)))))
 refine ac ?_
 have htg:=zY hil z32
 rw[hi.2]at htg
 have hwe:=Cg (b:=b) (g:=g) hS2 htg
 refine jc Z (ao O [500,902] (bin:=[gP b S 1,dc S.1]) Z Z Z Z (zU (b:=b) (s:=S) (n:=dS i) (x:=.nils) (y:=.nils) h1 h2 .nils .nils (by have:=hx2.l;omega)) Z Z Z Z Z Z (B0:=37000) Z Z (am ?_))
 refine aN (jc Z (ao O [500,37002] (bin:=[gP b (iv b S (dS i)) 1,dc (iv b S (dS i)).1]) Z Z Z Z (DQ (b:=b) (s:=(iv b S (dS i))) (ts:=T) (t:=(aC T (T.getD i default)).1) h1 h2 hx2.n0 (by omega)) Z Z Z Z Z Z (B0:=41000) Z Z (am ?_)))
 refine js Z (aN (js Z (jn (aR (ae (ac (js Z (jn (zc Z (fun z42=>?_) (fun z42=>?_))))))))))
 refine aR ?_
 refine⟨(g,T++[(aC T (T.getD i default)).1],eh T (iv b S (dS i))),((ah [500,37002] (e':=[(0,_),(1,_)]) Z Z ⟨Z,Z,tv⟩ Z).trans (aa 37002 902 Z Z)),⟨by show g≤F;omega,hx2.add hfs (e6 z32),hwe.symm.trans hx3⟩,by show 16-(T++[(aC T (T.getD i default)).1]).length<16-T.length;rw[cp,du];omega⟩
 cases z42
 refine af (ag (ji Z (js Z (jn ?_))))
 have hg9:=zZ hil z32
 refine⟨i+1,((ah [500,902] (e':=[(0,_),(1,_),(4,_),(19,_),(20,_),(21,_)]) Z Z ⟨Z,Z,Z,Z,Z,Z,tv⟩ Z)).trans (Ent.to ⟨Z,Z,Z,Z,Z,Z,tv⟩ Z),⟨by omega,hg9.symm.trans hi.2⟩,by omega⟩
 refine aR (ae (ac (js Z (jn (zc Z (fun z42=>?_) (fun z42=>?_))))))
 cases z42
 refine af (ae (ac ?_))
 have hie:i=T.length:=by have:=b9 z22;omega
 have h9:=hi.2
 rw[hie,Nat.sub_self]at h9
 have htn:fM T=none:=h9.symm
 refine js Z (aj O Z Z Z Z (IJ (ts:=T) h1 h2 hfs) (ab Z) Z Z Z Z (B0:=46000) Z Z (jd Z (js Z (aN (js Z (jn (zc Z (fun z48=>?_) (fun z48=>?_))))))))
 refine ac (jc Z (ao O [500,902] (bin:=[gP b S 1,dc S.1]) Z Z Z Z (zU (b:=b) (s:=S) (n:=c7 (dj T).1) (x:=.nils) (y:=cK (dj T).1) h1 h2 .nils .d (by have:=hx2.l;omega)) Z Z Z Z Z Z (B0:=53000) Z Z (am ?_)))
 refine jr ?_
 rw[←hx3,Ci hS2 htn z48]
 refine⟨.inl Z,_,((ah [500,53002] (e':=[]) Z Z trivial Z).trans (aa 53002 502 Z Z)),_,Z,Z,Z⟩
 refine af (ac (js Z (aj O Z Z Z Z (II (ts:=T) h1 h2 hfs) (ab Z) Z Z Z Z (B0:=56000) Z Z (jd Z (jl Z (am ?_))))))
 refine jl Z (am ?_)
 refine jo Z (am ?_)
 refine jo Z (am ?_)
 refine js Z (jn (ae (ac (jc Z (ar 4 Z Z Z (fun hx=>nz hx Z (sD O hx Z Z Z Z (zt (t:=(zf T).1) h1 h2 (EL hfs)) (ab Z) (B0:=64000) Z Z Z Z Z Z Z Z (bj O hx Z Z Z Z (mF (t:=dP (zf T).1) h1 h2) (ab Z) Z Z Z Z Z Z Z (B0:=65000) Z (nz hx Z (AN.nil))))) Z Z (st (ay O Z Z Z Z Z) Z (jn (zc Z (fun z66=>?_) (fun z66=>?_)))))))))
 refine ac (jc Z (jo Z (am ?_)))
 refine jr ?_
 rw[←hx3,Cj hS2 htn z48 (I5 z66)]
 refine⟨.inl Z,_,((ah [500,902] (e':=[]) Z Z trivial Z).trans (aa 902 502 Z Z)),_,Z,Z,Z⟩
 refine af (ac ?_)
 obtain⟨hf1,hf2⟩:=I6 z66
 obtain⟨r,hcr⟩:=HT hf1
 obtain⟨hro,hsr⟩:=j5 hfs hcr
 have hTo:=e6 hsr
 have hrn:=hro.n
 rw[ng hcr]at hf2 ⊢
 dsimp only
 have hop:(aL (aC T r.tm).1).2=true:=by rw[l7];exact hf2
 have hwc:=Ch (b:=b) (g:=g) hS2 htn z48 hcr hop
 have hl3:((jg b g (T++[(aC T r.tm).1]) (eh T (iv b S (dn (aC T r.tm).1)))).1.length:Int)≤b:=mL (u6 hx2.l)
 refine jb Z (aj O Z Z Z Z (B5 (t:=(aC T r.tm).1) h1 h2) (ab Z) Z Z Z Z (B0:=73000) Z Z (js Z (ao O [500,902] (bin:=[gP b S 1,dc S.1]) Z Z Z Z (zU (b:=b) (s:=S) (n:=dn (aC T r.tm).1) (x:=cK (aC T r.tm).1.xs) (y:=.nils) h1 h2 .d .nils (by have:=hx2.l;omega)) Z Z Z Z Z Z (B0:=75000) Z Z (am ?_))))
 refine aN (jd Z (ao O [500,75002] (bin:=[gP b (iv b S (dn (aC T r.tm).1)) 1,dc (iv b S (dn (aC T r.tm).1)).1]) Z Z Z Z (DQ (b:=b) (s:=(iv b S (dn (aC T r.tm).1))) (ts:=T) (t:=(aC T r.tm).1) h1 h2 hx2.n0 (by omega)) Z Z Z Z Z Z (B0:=80000) Z Z (am ?_)))
 refine ao O [500,75002] (bin:=[gP b (eh T (iv b S (dn (aC T r.tm).1))) 1,dc (eh T (iv b S (dn (aC T r.tm).1))).1]) Z Z Z Z (ih g (by omega) (T++[(aC T r.tm).1]) (eh T (iv b S (dn (aC T r.tm).1))) (hx2.add hfs hTo)) Z Z Z Z Z Z (B0:=81000) Z Z (am ?_)
 refine jn (ae (kx [_,_,_,_,_,_,_,_,_,_,_,_] [pn [] 0 4,p0,pz [1],pe [1,2] 0,pn [] 0 1,pn [4] 0 1,pn [4,5] 0 1,pe (rg 1 6) 1,pe (rg 1 7) 2,pe (rg 1 8) 3,pn (rg 1 9) 4 4,pe (rg 0 11) 4] [3,7,8,9,11] [_,_,_,_,_,_] [[],[],[],[85000,89],[81002,90]] (ai (ka Z Z (ka Z Z (ka Z Z (ka Z Z (kw Z Z))))) (ka Z Z (ka Z Z (ai (ai (az (dO O (B0:=85000) Z Z Z Z (vz (xs:=r.ms) h1 h2) (ab Z) Z Z Z Z)) Z) (ai (ka Z Z (kw Z Z)) (ai (ka Z Z (kw Z Z)) (ai (ka Z Z (kw Z Z)) (ai (ai (az (bg O (B0:=89000) Z Z Z Z (BZ (xs:=bv r.xs) h1 h2 (Small.of hro.tm).xs) (ab Z) Z Z Z Z Z)) Z) (ai (ai (az (jG O Z Z Z Z Z Z Z Z Z Z Z Z Z)) Z) (ai (ai (dq (zs:=(eP r).map fun n=>[.int .i64 n]) (n:=(eP r).length) O Z Z Z Z Z Z Z Z Z Z Z Z Z Z Z Z (.row Z (bA _).symm) Z Z (by decide) Z (by simp;omega) (by simp;omega) (List.map_append (f:=fun n=>[D.int .i64 n]) (l₁:=r.ms) (l₂:=[(bk r.tm.xs:Int)])).symm (bA _) Z) Z) (ka Z Z (ai (ai (cn O [500,81002,90] [81002,90] (bin:=[gP b (jg b g (T++[(aC T r.tm).1]) (eh T (iv b S (dn (aC T r.tm).1)))) 1,dc (jg b g (T++[(aC T r.tm).1]) (eh T (iv b S (dn (aC T r.tm).1)))).1,aE (eP r)]) Z Z Z Z (Gd (b:=b) (s:=(jg b g (T++[(aC T r.tm).1]) (eh T (iv b S (dn (aC T r.tm).1))))) (ms:=eP r) h1 h2 (by omega)) Z Z Z Z Z (B0:=93000) Z Z Z Z Z Z Z) Z) trivial)))))))))))) ?_))
 refine jw [66,12,11,48,10,9,42,22,0,1,4,19,20,21] Z (bJ ?_)
 refine dJ ?_
 rw[←hx3,hwc]
 refine⟨.inl Z,_,((ah [500,93003] (e':=[]) Z Z trivial Z).trans (aa 93003 502 Z Z)),_,Z,Z,Z⟩
 refine aR ?_
 show _∧_
 obtain⟨hx1,hx2,hx3⟩:=hi
 rw[←hx3,ij (Gr z18)]
 refine⟨.inr Z,_,((ah [500,902] (e':=[]) Z Z trivial Z).trans (aa 902 502 Z Z)),_,Z,Z,Z⟩
theorem DT{L:Nat}(h1:4096≤L)(h2:L≤1073741824){b:Int}(hb:1≤b∧b≤60): ∀(F:Nat) (ts:List Tm) (s:Wk),WkI b F ts s→MC Tryz.prog L 99 [.c (.pt 0 0 0),bM ts] [(0,gP b s 1),(1,dc s.1)] (aO (.tup []) [(0,gP b (jg b F ts s) 2),(2,dc (jg b F ts s).1)]):=by
 intro F
 induction F using Nat.strongRecOn with
 | _ F ih=>intro ts s hw;exact Ge h1 h2 hb ih hw
theorem ut{s:Sq}{b:Int}(h:((gp s).2&&kB b)=false):jm s b=([],false):=by
 unfold jm
 split
 rename_i h1
 rw[bC]at h1
 rw[h1.2,Bool.and_true,lD h1.1,vZ]at h
 exact uu h
 rfl
theorem Dw{s:Sq}(hok:(aL s.goal).2=true):(mh s).1=s.facts++[(aL s.goal).1]:=by unfold mh;rw[if_pos hok]
theorem ub{s:Sq}{b:Int}(hs:dF s=true)(hok:(aL s.goal).2=true)(hb:0≤b) :
    ((jg b (15-(s.facts++[(aL s.goal).1]).length) (s.facts++[(aL s.goal).1]) ([],false)).2=true→cz s b=([],false))∧
    ((jg b (15-(s.facts++[(aL s.goal).1]).length) (s.facts++[(aL s.goal).1]) ([],false)).2=false→cz s b=((jg b (15-(s.facts++[(aL s.goal).1]).length) (s.facts++[(aL s.goal).1]) ([],false)).1,true)):=by
 have hf:=pj hs hok
 have hlen:=hf.len
 obtain⟨q1,q2⟩:=vC (b:=b) (f:=15-(s.facts++[(aL s.goal).1]).length) (N:=[]) hf (by omega) (by simpa using hb)
 cases hz:fK (s.facts++[(aL s.goal).1])with
 | none=>
  have h2:=q2 fun z h=>by rw[show jT _ _=none from hz]at h;cases h
  exact⟨fun _=>lN hok hz,fun h=>by rw[h2]at h;cases h⟩
 | some z=>
  have hpv:=rW (b:=b) hok hz
  by_cases hl:((z.1++z.2).length:Int)≤b
  have h1:=q1 z hz (by simp only[List.length_nil];omega)
  rw[if_pos hl]at hpv
  rw[h1]
  exact⟨fun h=>(by cases h),fun _=>hpv⟩
  rw[if_neg hl]at hpv
  have h2:=q2 fun y hy=>by
   rw[show jT _ _=some z from hz]at hy
   simp only[dL]at hy;subst hy
   simp only[List.length_nil];omega
  exact⟨fun _=>hpv,fun h=>by rw[h2]at h;cases h⟩
theorem xj:MQ h1 h2 63 [eI b] [] (Plain (eB (kB b))):=by
 refine aB ?_ Z
 refine jB 5 h1 h2 Tryz.func63 Z fun O hF=>?_
 refine ac (js Z (aN (js Z (lo Z (pQ h1 h2) 5000 Z (js Z (jr ?_))))))
 refine eR Z ?_
 rfl
theorem IQ:MQ h1 h2 64 [BJ s,eI b] [] (Plain (rA (jm s b))):=by
 refine MC.data (jB 36 h1 h2 Tryz.func64 Z fun O hF=>?_)
 refine ac (jx Z (am ?_))
 refine an (Ent.freeze 2 (e':=[(2,_),(1,_)]) Z (.cons Z (.c (.box (cs:=Sq.cells s) Z (ax Z))) (fe [1] Z)) (.skip .nil)) ?_
 refine am ?_
 refine jb Z (aN (js Z (jf [10,5,4,1] Z (aj O Z Z Z Z (B7 (s:=s) h1 h2) (ab Z) Z Z Z Z (B0:=12000) Z Z (jd Z (js Z (jf [7,6,5,4,1] Z (jn (ae (ac (jc Z (jf [16,6,5,4,1] Z (ar 3 Z Z Z (fun hx=>nz hx Z (bj O hx Z Z Z Z (xj h1 h2) (ab Z) Z Z Z Z Z Z Z (B0:=19000) Z (nz hx Z (AN.nil)))) Z Z (st (ay O Z Z Z Z Z) Z (jf [20,6,5,4,1] Z (jn (zc Z (fun z20=>?_) (fun z20=>?_))))))))))))))))))
 refine ac (jb Z (jr ?_))
 refine eR Z ?_
 rw[ut (I5 z20)]
 exact ic
 refine af (ac ?_)
 obtain⟨hq1,hq2⟩:=I6 z20
 obtain⟨hq3,hq4⟩:=pZ hq1
 have hok:(aL s.goal).2=true:=by rw[l7];exact hq4
 have hfc:=pj hq3 hok
 have hlen:=hfc.len
 have hbb:=mQ hq2
 obtain⟨hw1,hw2⟩:=ub (b:=b) hq3 hok (by omega)
 have hpe:=pV (b:=b) hq3 hq2
 have hwl:((jg b (15-(s.facts++[(aL s.goal).1]).length) (s.facts++[(aL s.goal).1]) ([],false)).1.length:Int)≤b:=mL (by show(0:Int)≤b;omega)
 rw[lD hq3,Dw hok]
 refine jb Z (jf [22,6,5,4,1] Z (jx Z (am ?_)))
 refine js Z (jf [8,6,5,4,1] Z (aN (jb Z (jf [25,24,8,5,4,1] Z (an (cf 23 901 5 false 1 Z Z Z) (ao O [23,901] (bin:=[gP b ([],false) 1,dc []]) Z Z Z Z (DT (b:=b) h1 h2 hbb (15-(s.facts++[(aL s.goal).1]).length) (s.facts++[(aL s.goal).1]) ([],false) ⟨.inl hfc,by omega,by simp,by omega,by show(0:Int)≤b;omega⟩) Z Z Z Z Z Z (B0:=27000) Z Z (am ?_)))))))
 refine jf [8,5,4,1] Z (jn (ae (ac (jd Z (jf [30,8,5,4,1] Z (jn (zc Z (fun z30=>?_) (fun z30=>?_))))))))
 refine ac (jb Z (jr ?_))
 refine eR Z ?_
 rw[hpe,hw1 z30]
 exact ic
 refine af (ac (jd Z (jf [34,8,5,4,1] Z (bS O (B0:=36000) Z Z Z Z (DS (ts:=(jg b (15-(s.facts++[(aL s.goal).1]).length) (s.facts++[(aL s.goal).1]) ([],false)).1) h1 h2) (.cons (.c (.whole Z (bA _).symm)) .nil) Z Z Z Z Z Z (am ?_)))))
 refine jb Z (jf [5,4,8,1] Z (jr ?_))
 refine eR Z ?_
 rw[hpe,hw2 z30]
 exact .tup (.cons (.c (.whole Z (bA _).symm)) (.cons (.c .d) .nil))
def sF:List Sq→Nat→Int
  | [],_=> -1
  | u::us,i=>if dF u=true then sF us (i+1)else(i:Int)
theorem yi{ss:List Sq}{i:Nat}(h:i<ss.length):sF (ss.drop i) i=if dF (ss.getD i default)=true then sF (ss.drop (i+1)) (i+1)else(i:Int):=by
 rw[List.drop_eq_getElem_cons h,aw h];rfl
theorem AE{ss:List Sq}{i:Nat}(h:ss.length≤i):sF (ss.drop i) i= -1:=by rw[List.drop_of_length_le h];rfl
theorem ue: ∀{us:List Sq} {i:Nat},decide (sF us i≥0)= !us.all dF
 | [],_=>rfl
 | u::us,i=>by
  rw[sF,List.all_cons]
  by_cases h:dF u=true
  rw[if_pos h,h,Bool.true_and];exact ue
  rw[if_neg h]
  have h':dF u=false:=by simpa using h
  rw[h',Bool.false_and];exact decide_eq_true (by omega)
theorem IN:MQ h1 h2 97 [BJ s] [] (Plain (eB (!dF s))):=by
 refine aB ?_ Z
 refine jB 6 h1 h2 Tryz.func97 Z fun O hF=>?_
 refine ac (jx Z (js Z (aN (js Z (lo Z (B3 (s:=s) h1 h2) 5000 Z (jb Z (jr ?_)))))))
 refine eR Z ?_
 rfl
theorem IH:MQ h1 h2 137 [mG ss,.c (.fn 97 [])] [] (Plain (eI (sF ss 0))):=by
 refine aB ?_ Z
 refine jB 19 h1 h2 Tryz.func137 Z fun O hF=>?_
 have hl:ss.length≤L:=by simpa[As.fact,A.fact,M.fact,D.fact,Ds.fact]using hF.1.1
 refine ac (js Z (jn (ae (ac (js Z (cW Z (js Z (jn (ak (ap (X:=Nat) (fun i=>⟨[(0,mG ss),(1,.c (.fn 97 [])),(7,eI ss.length),(8,eI i)],[]⟩) (fun i=>i≤ss.length∧sF (ss.drop i) i=sF ss 0) (fun i=>ss.length-i) 0 (Ent.env ⟨Z,Z,Z,Z,tv⟩) ?_ (fun i hi=>?_)))))))))))
 exact⟨cG _,Z⟩
 refine ac (js Z (jn (ae (zc Z (fun z9=>?_) (fun z9=>?_)))))
 refine af (ae (ak (ac ?_)))
 have hil:i<ss.length:=by have:=bt z9;omega
 have hkc:=yi hil
 refine jb Z (aN (jc Z (jh Z Z (js Z (lo Z (IN (s:=ss.getD i default) h1 h2) 17000 Z (jn (zc Z (fun z16=>?_) (fun z16=>?_))))))))
 refine ac (jb Z (jr ?_))
 refine eR Z ?_
 rw[if_neg (by rw[GD z16];decide),hi.2]at hkc
 rw[hkc]
 refine af (ag (ji Z (js Z (jn ?_))))
 rw[if_pos (Gr z16)]at hkc
 exact⟨i+1,Ent.env ⟨Z,Z,Z,Z,tv⟩,⟨by omega,hkc.symm.trans hi.2⟩,by omega⟩
 refine aR (ac (js Z (jr ?_)))
 refine eR Z ?_
 have h9:=hi.2
 rw[AE (by have:=b9 z9;omega)]at h9
 rw[←h9]
theorem IO:MQ h1 h2 96 [mG ss,.c (.fn 97 [])] [] (Plain (eB (!ss.all dF))):=by
 refine aB ?_ Z
 refine jB 9 h1 h2 Tryz.func96 Z fun O hF=>?_
 refine ac (js Z (aN (jb Z (da O Z Z Z Z (IH (ss:=ss) h1 h2) (.cons (.c .d) (.cons (.c (.fn .nil)) .nil)) Z Z Z Z Z (B0:=8000) Z (jb Z (jr ?_))))))
 refine eR Z ?_
 exact congrArg eB ue
theorem DU:MQ h1 h2 62 [mG ss] [] (Plain (eB (zg ss))):=by
 refine aB ?_ Z
 refine jB 11 h1 h2 Tryz.func62 Z fun O hF=>?_
 refine ac (js Z (aN (js Z (cW Z (jb Z (ar 3 Z Z Z (fun hx=>nz hx Z (bj O hx Z Z Z Z (IO (ss:=ss) h1 h2) (.cons (.c .d) (.cons (.c (.fn .nil)) .nil)) Z Z Z Z Z Z Z (B0:=9000) Z (nz hx Z (AN.nil)))) Z Z (st (aq O Z Z Z Z Z) Z (js Z (jr ?_)))))))))
 refine eR Z ?_
 rw[Bool.cond_false_right,Bool.not_not,Bool.and_comm];rfl
theorem yu{s:Sq}{b:Int}(hv:(jm s b).2=true)(h:((gp s).2&&kB b)=false):False:=by rw[ut h]at hv;cases hv
theorem AZ{s:Sq}{b:Int}(h1:(gp s).2=true)(h2:kB b=true):((jg b (15-(s.facts++[(aL s.goal).1]).length) (s.facts++[(aL s.goal).1]) ([],false)).2=true→jm s b=([],false))∧
    ((jg b (15-(s.facts++[(aL s.goal).1]).length) (s.facts++[(aL s.goal).1]) ([],false)).2=false→jm s b=((jg b (15-(s.facts++[(aL s.goal).1]).length) (s.facts++[(aL s.goal).1]) ([],false)).1,true)):=by
 obtain⟨h3,h4⟩:=pZ h1
 rw[pV h3 h2]
 exact ub h3 (by rw[l7];exact h4) (by have:=mQ h2;omega)
theorem Gh(hv:(jm s b).2=true):MQ h1 h2 64 [BJ s,eI b] [] (Rows (.tup [.c (.rs 0 0 (jm s b).1.length),eB true]) [zF (jm s b).1]):=by
 refine cq (jB 36 h1 h2 Tryz.func64 Z fun O hF=>?_)
 refine ac (jx Z (am ?_))
 refine an (Ent.freeze 2 (e':=[(2,_),(1,_)]) Z (.cons Z (.c (.box (cs:=Sq.cells s) Z (ax Z))) (fe [1] Z)) (.skip .nil)) ?_
 refine am ?_
 refine jb Z (aN (js Z (jf [10,5,4,1] Z (aj O Z Z Z Z (B7 (s:=s) h1 h2) (ab Z) Z Z Z Z (B0:=12000) Z Z (jd Z (js Z (jf [7,6,5,4,1] Z (jn (ae (ac (jc Z (jf [16,6,5,4,1] Z (ar 3 Z Z Z (fun hx=>nz hx Z (bj O hx Z Z Z Z (xj h1 h2) (ab Z) Z Z Z Z Z Z Z (B0:=19000) Z (nz hx Z (AN.nil)))) Z Z (st (ay O Z Z Z Z Z) Z (jf [20,6,5,4,1] Z (jn (zc Z (fun z20=>?_) (fun z20=>?_))))))))))))))))))
 exact(yu hv (I5 z20)).elim
 refine af (ac ?_)
 obtain⟨hq1,hq2⟩:=I6 z20
 obtain⟨hq3,hq4⟩:=pZ hq1
 have hok:(aL s.goal).2=true:=by rw[l7];exact hq4
 have hfc:=pj hq3 hok
 have hlen:=hfc.len
 have hbb:=mQ hq2
 obtain⟨hw1,hw2⟩:=AZ hq1 hq2
 have hwl:((jg b (15-(s.facts++[(aL s.goal).1]).length) (s.facts++[(aL s.goal).1]) ([],false)).1.length:Int)≤b:=mL (by show(0:Int)≤b;omega)
 rw[lD hq3,Dw hok]
 refine jb Z (jf [22,6,5,4,1] Z (jx Z (am ?_)))
 refine js Z (jf [8,6,5,4,1] Z (aN (jb Z (jf [25,24,8,5,4,1] Z (an (cf 23 901 5 false 1 Z Z Z) (ao O [23,901] (bin:=[gP b ([],false) 1,dc []]) Z Z Z Z (DT (b:=b) h1 h2 hbb (15-(s.facts++[(aL s.goal).1]).length) (s.facts++[(aL s.goal).1]) ([],false) ⟨.inl hfc,by omega,by simp,by omega,by show(0:Int)≤b;omega⟩) Z Z Z Z Z Z (B0:=27000) Z Z (am ?_)))))))
 refine jf [8,5,4,1] Z (jn (ae (ac (jd Z (jf [30,8,5,4,1] Z (jn (zc Z (fun z30=>?_) (fun z30=>?_))))))))
 rw[hw1 z30]at hv;cases hv
 refine af (ac (jd Z (jf [34,8,5,4,1] Z (bS O (B0:=36000) Z Z Z Z (DS (ts:=(jg b (15-(s.facts++[(aL s.goal).1]).length) (s.facts++[(aL s.goal).1]) ([],false)).1) h1 h2) (.cons (.c (.whole Z (bA _).symm)) .nil) Z Z Z Z Z Z (am ?_)))))
 refine jb Z (jf [5,4,8,1] Z (jr ?_))
 rw[hw2 z30]
 refine⟨.inl Z,_,bK,_,Z,[36000],by decide,Z,Z,Z⟩
theorem Cw{ss:List Sq}{b:Int}{i:Nat}(hi:i<ss.length)(h: ∀s∈ss,(jm s b).2=true):(jm (ss.getD i default) b).2=true:=by rw[aw hi];exact h _ (List.getElem_mem hi)
theorem F8(hq:zg ss=true)(hb:kB b=true)(ha: ∀s∈ss,(jm s b).2=true):MQ h1 h2 34 [mG ss,eI b] [] (Rows (.tup [.c (.rs 0 0 ss.length),eB true]) [pX (ss.map (fun s=>(jm s b).1))]):=by
 refine cq (jB 39 h1 h2 Tryz.func34 Z fun O hF=>?_)
 have hl:ss.length≤L:=by simpa[As.fact,A.fact,M.fact,D.fact,Ds.fact]using hF.1.1
 refine ac (jb Z (jn (ae (ac (js Z (lo Z ((DU (ss:=ss) h1 h2).plain (u:=eB true) (congrArg eB hq)) 13000 Z (jb Z (ar 3 Z Z Z (fun hx=>nz hx Z (bj O hx Z Z Z Z ((xj (b:=b) h1 h2).plain (u:=eB true) (congrArg eB hb)) (ab Z) Z Z Z Z Z Z Z (B0:=17000) Z (nz hx Z (AN.nil)))) Z Z (st (ay O Z Z Z Z Z) Z (jn (zc Z (fun z18=>?_) (fun z18=>?_))))))))))))
 exact absurd z18 (by decide)
 refine af (ac (js Z (jn (ae (ac (js Z (cW Z (js Z (jn (ak (ap (X:=Nat) (fun i=>⟨[(1,eI b),(6,.c (.rs 900 0 i)),(19,mG ss),(20,eI ss.length),(21,eI i)],[(900,pX ((ss.take i).map (fun s=>(jm s b).1)))]⟩) (fun i=>i≤ss.length) (fun i=>ss.length-i) 0 ((cx 6 900 1 true Z Z).trans (Ent.to ⟨Z,Z,Z,Z,Z,tv⟩ Z)) ?_ (fun i hi=>?_))))))))))))
 exact cG _
 refine ac (js Z (jn (ae (zc Z (fun z22=>?_) (fun z22=>?_)))))
 refine af (ae (ak (ac ?_)))
 have hil:i<ss.length:=by have:=bt z22;omega
 refine st (aQ O Z Z Z Z Z Z Z Z (dx hil)) Z (js Z (jl Z (am ?_)))
 refine jo Z (am ?_)
 refine aN (jb Z (bS O (B0:=29000) Z Z Z Z (Gh (s:=(ss.getD i default)) (b:=b) h1 h2 (Cw hil ha)) (ab Z) Z Z Z Z Z Z (am ?_)))
 refine jd Z (js Z (jn (ae (ac (jb Z (jn (zc Z (fun z32=>?_) (fun z32=>?_))))))))
 exact absurd z32 (by decide)
 refine af (ag (jb Z (an (ah [900,29000] (e':=[(34,_),(1,_),(19,_),(20,_),(21,_),(33,_)]) Z Z ⟨Z,Z,Z,Z,Z,Z,tv⟩ Z) (hp (lV (ds:=C7 (jm (ss.getD i default) b).1) O Z Z Z Z Z Z Z Z Z Z (.rs Z (bA _).symm .nil) Z Z Z) Z (am ?_)))))
 refine am ?_
 refine hp (cu (zs:=((ss.take (i+1)).map (fun s=>(jm s b).1)).map C7) (n:=i+1) O Z Z Z Z Z Z Z Z Z Z Z Z Z Z Z Z (.row Z (by simp;omega)) Z Z (by decide) Z (by simp;omega) (by simp;omega) (by rw[List.take_succ_eq_append_getElem hil,List.map_append,List.map_append,aw hil];rfl) (by simp;omega)) Z (am ?_)
 refine am ?_
 refine js Z (jn (ag (ji Z (js Z (jn ?_)))))
 refine⟨i+1,((ah [36] (e':=[(1,_),(6,_),(19,_),(20,_),(21,_)]) Z Z ⟨Z,Z,Z,Z,Z,tv⟩ Z).trans (aa 36 900 Z Z)),by omega,by omega⟩
 refine aR (ac (jc Z (jr ?_)))
 obtain rfl:i=ss.length:=by have:=b9 z22;omega
 rw[List.take_length]
 refine⟨.inl Z,_,bK,_,Z,[900],by decide,Z,Z,Z⟩
theorem CW(hq:zg ss=true)(hb:kB b=true)(hn:(i5 b ss).length<ss.length):MQ h1 h2 34 [mG ss,eI b] [] (Rows (.tup [.c (.d .nils),eB false]) []):=by
 refine cq (jB 39 h1 h2 Tryz.func34 Z fun O hF=>?_)
 have hl:ss.length≤L:=by simpa[As.fact,A.fact,M.fact,D.fact,Ds.fact]using hF.1.1
 obtain⟨hq3,hq4⟩:=lv hq
 refine ac (jb Z (jn (ae (ac (js Z (lo Z ((DU (ss:=ss) h1 h2).plain (u:=eB true) (congrArg eB hq)) 13000 Z (jb Z (ar 3 Z Z Z (fun hx=>nz hx Z (bj O hx Z Z Z Z ((xj (b:=b) h1 h2).plain (u:=eB true) (congrArg eB hb)) (ab Z) Z Z Z Z Z Z Z (B0:=17000) Z (nz hx Z (AN.nil)))) Z Z (st (ay O Z Z Z Z Z) Z (jn (zc Z (fun z18=>?_) (fun z18=>?_))))))))))))
 exact absurd z18 (by decide)
 refine af (ac (js Z (jn (ae (ac (js Z (cW Z (js Z (jn (ak (ap (X:=Nat) (fun i=>⟨[(1,eI b),(6,.c (.rs 900 0 i)),(19,mG ss),(20,eI ss.length),(21,eI i)],[(900,Do (ss.take i) b)]⟩) (fun i=>i≤ss.length∧∀j (h:j<ss.length),j<i→(cz ss[j] b).2=true) (fun i=>ss.length-i) 0 ((cx 6 900 1 false Z Z).trans (Ent.to ⟨Z,Z,Z,Z,Z,tv⟩ Z)) ?_ (fun i hi=>?_))))))))))))
 exact⟨cG _,fun j h hj=>absurd hj (Nat.not_lt_zero j)⟩
 refine ac (js Z (jn (ae (zc Z (fun z22=>?_) (fun z22=>?_)))))
 refine af (ae (ak (ac ?_)))
 have hil:i<ss.length:=by have:=bt z22;omega
 refine st (aQ O Z Z Z Z Z Z Z Z (dx hil)) Z (js Z (jl Z (am ?_)))
 refine jo Z (am ?_)
 refine aN (jb Z (aj O Z Z Z Z ((IQ (s:=(ss.getD i default)) (b:=b) h1 h2).plain (u:=rA (cz (ss.getD i default) b)) (by rw[pV (xZ hq3 hil) hb])) (ab Z) Z Z Z Z (B0:=29000) Z Z (jd Z (js Z (jn (ae (ac (jb Z (jn (zc Z (fun z32=>?_) (fun z32=>?_)))))))))))
 refine ac (jb Z (jr ?_))
 refine⟨.inl Z,_,bK,_,Z,[],by decide,Z,Z,Z⟩
 refine af (ag (jb Z (hp (aZ O Z Z Z Z Z Z Z Z Z Z Z) Z (am ?_))))
 refine hp (ko (own:=false) (xs:=(ss.take i).map fun s=>C6 s b) (ys:=[C6 (ss.getD i default) b]) (zs:=(ss.take (i+1)).map fun s=>C6 s b) (n:=i+1) O Z (.row Z (by simp;omega)) (.whole Z Z (.inr ⟨Z,Z⟩)) (by simp) Z (by simp;omega) (by simp;omega) (by rw[List.take_succ_eq_append_getElem hil,List.map_append,aw hil];rfl) (by simp;omega)) Z (am ?_)
 refine am ?_
 refine js Z (jn (ag (ji Z (js Z (jn ?_)))))
 refine⟨i+1,((ah [36] (e':=[(1,_),(6,_),(19,_),(20,_),(21,_)]) Z Z ⟨Z,Z,Z,Z,Z,tv⟩ Z).trans (aa 36 900 Z Z)),⟨by omega,fun j h hj=>?_⟩,by omega⟩
 by_cases e:j=i
 subst e;rw[aw h]at z32;exact Gr z32
 exact hi.2 j h (by omega)
 exact absurd hn (by rw[sr (fun j hj=>hi.2 j hj (by have:=b9 z22;omega)),bA];omega)
variable{p:Pm}{ps:List Pth}{cs:List Sq}
theorem Fg(hp:gQ p=true)(hb:kB b=true)(hA:MQ h1 h2 28 [ptr p.data] [] (Plain (.tup [.c (.d (zi ps)),.c (.d (vw cs)),eB false]))):MQ h1 h2 17 [ky p,eI b] [] (Plain (.tup [pU ([]:List (List Nd)),eB false])):=by
 refine MC.data (jB 38 h1 h2 Tryz.func17 Z fun O hF=>?_)
 refine ac (jx Z (am ?_))
 refine an (Ent.freeze 2 (e':=[(2,_),(0,_),(1,_)]) Z (.cons Z (.c (.box (cs:=Pm.data p) Z (ax Z))) (fe [0,1] Z)) (.skip .nil)) ?_
 refine am ?_
 refine jb Z (jn (ae (ac (lo Z ((IY (p:=p) h1 h2).plain (u:=eB true) (by rw[hp])) 11000 Z (jb Z (ba Z (js Z (ba Z (lo Z ((xk (b:=b) h1 h2).plain (u:=eB true) (by rw[hb])) 15000 Z (ba Z (js Z (st (ay O Z Z Z Z Z) Z (jn (zc Z (fun z16=>?_) (fun z16=>?_)))))))))))))))
 exact absurd z16 (by decide)
 refine af (ac (aj O Z Z Z Z (hA) (ab Z) Z Z Z Z (B0:=19000) Z Z (jd Z (jc Z (jn (ae (ac (jc Z (sk Z (sk Z (sk Z (st (aV O Z Z Z Z Z) Z (jn (zc Z (fun z28=>?_) (fun z28=>?_)))))))))))))))
 refine ac (jb Z (jr ?_))
 refine eR Z ?_
 exact .tup (.cons (.c .nils) (.cons (.c .d) .nil))
 exact absurd z28 (by decide)
theorem Ff(hp:gQ p=true)(hb:kB b=true)(hA:MQ h1 h2 28 [ptr p.data] [] (Plain (.tup [.c (.d (zi ps)),.c (.d (vw cs)),eB true])))(hc:gU cs=false):MQ h1 h2 17 [ky p,eI b] [] (Plain (.tup [pU ([]:List (List Nd)),eB false])):=by
 refine MC.data (jB 38 h1 h2 Tryz.func17 Z fun O hF=>?_)
 refine ac (jx Z (am ?_))
 refine an (Ent.freeze 2 (e':=[(2,_),(0,_),(1,_)]) Z (.cons Z (.c (.box (cs:=Pm.data p) Z (ax Z))) (fe [0,1] Z)) (.skip .nil)) ?_
 refine am ?_
 refine jb Z (jn (ae (ac (lo Z ((IY (p:=p) h1 h2).plain (u:=eB true) (by rw[hp])) 11000 Z (jb Z (ba Z (js Z (ba Z (lo Z ((xk (b:=b) h1 h2).plain (u:=eB true) (by rw[hb])) 15000 Z (ba Z (js Z (st (ay O Z Z Z Z Z) Z (jn (zc Z (fun z16=>?_) (fun z16=>?_)))))))))))))))
 exact absurd z16 (by decide)
 refine af (ac (aj O Z Z Z Z (hA) (ab Z) Z Z Z Z (B0:=19000) Z Z (jd Z (jc Z (jn (ae (ac (jc Z (ba Z (js Z (ba Z (lo Z ((zT (ss:=cs) h1 h2).plain (u:=eB false) (by rw[hc])) 27000 Z (ba Z (js Z (st (ay O Z Z Z Z Z) Z (jn (zc Z (fun z28=>?_) (fun z28=>?_))))))))))))))))))
 refine ac (jb Z (jr ?_))
 refine eR Z ?_
 exact .tup (.cons (.c .nils) (.cons (.c .d) .nil))
 exact absurd z28 (by decide)
theorem Fe(hp:gQ p=true)(hb:kB b=true)(hA:MQ h1 h2 28 [ptr p.data] [] (Plain (.tup [.c (.d (zi ps)),.c (.d (vw cs)),eB true])))(hc:gU cs=true)(hn:(i5 b cs).length<cs.length):MQ h1 h2 17 [ky p,eI b] [] (Plain (.tup [pU ([]:List (List Nd)),eB false])):=by
 refine MC.data (jB 38 h1 h2 Tryz.func17 Z fun O hF=>?_)
 obtain⟨hq3,hq4⟩:=lv hc
 refine ac (jx Z (am ?_))
 refine an (Ent.freeze 2 (e':=[(2,_),(0,_),(1,_)]) Z (.cons Z (.c (.box (cs:=Pm.data p) Z (ax Z))) (fe [0,1] Z)) (.skip .nil)) ?_
 refine am ?_
 refine jb Z (jn (ae (ac (lo Z ((IY (p:=p) h1 h2).plain (u:=eB true) (by rw[hp])) 11000 Z (jb Z (ba Z (js Z (ba Z (lo Z ((xk (b:=b) h1 h2).plain (u:=eB true) (by rw[hb])) 15000 Z (ba Z (js Z (st (ay O Z Z Z Z Z) Z (jn (zc Z (fun z16=>?_) (fun z16=>?_)))))))))))))))
 exact absurd z16 (by decide)
 refine af (ac (aj O Z Z Z Z (hA) (ab Z) Z Z Z Z (B0:=19000) Z Z (jd Z (jc Z (jn (ae (ac (jc Z (ba Z (js Z (ba Z (lo Z ((zT (ss:=cs) h1 h2).plain (u:=eB true) (by rw[hc])) 27000 Z (ba Z (js Z (st (ay O Z Z Z Z Z) Z (jn (zc Z (fun z28=>?_) (fun z28=>?_))))))))))))))))))
 exact absurd z28 (by decide)
 refine af (ac (jb Z (aj O Z Z Z Z (DV (ss:=cs) (b:=b) h1 h2 hq3 (mQ hb)) (ab Z) Z Z Z Z (B0:=32000) Z Z (js Z (jn (ae (ac (js Z (cW Z (js Z (cW Z (js Z (jn (zc Z (fun z36=>?_) (fun z36=>?_)))))))))))))))
 refine ac (jb Z (jr ?_))
 refine eR Z ?_
 exact .tup (.cons (.c .nils) (.cons (.c .d) .nil))
 exact absurd (b9 z36) (by omega)
theorem Fa(hp:gQ p=true)(hb:kB b=true)(hA:MQ h1 h2 28 [ptr p.data] [] (Plain (.tup [.c (.d (zi ps)),.c (.d (vw cs)),eB true])))(hc:gU cs=true)(hn: ¬(i5 b cs).length<cs.length):MQ h1 h2 17 [ky p,eI b] [] (Plain (.tup [pU (i5 b cs),eB true])):=by
 refine MC.data (jB 38 h1 h2 Tryz.func17 Z fun O hF=>?_)
 obtain⟨hq3,hq4⟩:=lv hc
 refine ac (jx Z (am ?_))
 refine an (Ent.freeze 2 (e':=[(2,_),(0,_),(1,_)]) Z (.cons Z (.c (.box (cs:=Pm.data p) Z (ax Z))) (fe [0,1] Z)) (.skip .nil)) ?_
 refine am ?_
 refine jb Z (jn (ae (ac (lo Z ((IY (p:=p) h1 h2).plain (u:=eB true) (by rw[hp])) 11000 Z (jb Z (ba Z (js Z (ba Z (lo Z ((xk (b:=b) h1 h2).plain (u:=eB true) (by rw[hb])) 15000 Z (ba Z (js Z (st (ay O Z Z Z Z Z) Z (jn (zc Z (fun z16=>?_) (fun z16=>?_)))))))))))))))
 exact absurd z16 (by decide)
 refine af (ac (aj O Z Z Z Z (hA) (ab Z) Z Z Z Z (B0:=19000) Z Z (jd Z (jc Z (jn (ae (ac (jc Z (ba Z (js Z (ba Z (lo Z ((zT (ss:=cs) h1 h2).plain (u:=eB true) (by rw[hc])) 27000 Z (ba Z (js Z (st (ay O Z Z Z Z Z) Z (jn (zc Z (fun z28=>?_) (fun z28=>?_))))))))))))))))))
 exact absurd z28 (by decide)
 refine af (ac (jb Z (aj O Z Z Z Z (DV (ss:=cs) (b:=b) h1 h2 hq3 (mQ hb)) (ab Z) Z Z Z Z (B0:=32000) Z Z (js Z (jn (ae (ac (js Z (cW Z (js Z (cW Z (js Z (jn (zc Z (fun z36=>?_) (fun z36=>?_)))))))))))))))
 exact absurd (bt z36) (by omega)
 refine af (ac (jc Z (jr ?_)))
 refine eR Z ?_
 exact .tup (.cons (.c .d) (.cons (.c .d) .nil))
theorem Ax(hC:MQ h1 h2 15 [ky p] [] (Rows (.tup [.c (.d .nils),eB false]) [])):MQ h1 h2 16 [ky p,eI b] [] (Rows (.tup [.c (.d .nils),eB false]) []):=by
 refine cq (jB 20 h1 h2 Tryz.func16 Z fun O hF=>?_)
 refine ac (jx Z (am ?_))
 refine an (Ent.freeze 2 (e':=[(2,_),(0,_),(1,_)]) Z (.cons Z (.c (.box (cs:=Pm.data p) Z (ax Z))) (fe [0,1] Z)) (.skip .nil)) ?_
 refine am ?_
 refine jb Z (aN (js Z (bS O (B0:=11000) Z Z Z Z (hC) (ab Z) Z Z Z Z Z Z (am ?_))))
 refine jd Z (js Z (jn (ae (ac (jb Z (jn (zc Z (fun z14=>?_) (fun z14=>?_))))))))
 refine ac (jb Z (jr ?_))
 refine⟨.inl Z,_,bK,_,Z,[],by decide,Z,Z,Z⟩
 exact absurd z14 (by decide)
theorem E9(hC:MQ h1 h2 15 [ky p] [] (Rows (.tup [.c (.rs 0 0 cs.length),eB true]) [aK cs]))(hQ:MQ h1 h2 34 [mG cs,eI b] [] (Rows (.tup [.c (.d .nils),eB false]) [])):MQ h1 h2 16 [ky p,eI b] [] (Rows (.tup [.c (.d .nils),eB false]) []):=by
 refine cq (jB 20 h1 h2 Tryz.func16 Z fun O hF=>?_)
 refine ac (jx Z (am ?_))
 refine an (Ent.freeze 2 (e':=[(2,_),(0,_),(1,_)]) Z (.cons Z (.c (.box (cs:=Pm.data p) Z (ax Z))) (fe [0,1] Z)) (.skip .nil)) ?_
 refine am ?_
 refine jb Z (aN (js Z (bS O (B0:=11000) Z Z Z Z (hC) (ab Z) Z Z Z Z Z Z (am ?_))))
 refine jd Z (js Z (jn (ae (ac (jb Z (jn (zc Z (fun z14=>?_) (fun z14=>?_))))))))
 exact absurd z14 (by decide)
 refine af (ac (jb Z (bS O (B0:=18000) Z Z Z Z (hQ) (.cons (.c (.whole Z (bA _).symm)) (.cons (.c .d) .nil)) Z Z Z Z Z Z (am ?_))))
 refine jd Z (jr ?_)
 refine⟨.inl Z,_,bK,_,Z,[],by decide,Z,Z,Z⟩
theorem E8(hC:MQ h1 h2 15 [ky p] [] (Rows (.tup [.c (.rs 0 0 cs.length),eB true]) [aK cs])){m:Nat}{qs:List (List Nd)}(hQ:MQ h1 h2 34 [mG cs,eI b] [] (Rows (.tup [.c (.rs 0 0 m),eB true]) [pX qs])):MQ h1 h2 16 [ky p,eI b] [] (Rows (.tup [.c (.rs 0 0 m),eB true]) [pX qs]):=by
 refine cq (jB 20 h1 h2 Tryz.func16 Z fun O hF=>?_)
 refine ac (jx Z (am ?_))
 refine an (Ent.freeze 2 (e':=[(2,_),(0,_),(1,_)]) Z (.cons Z (.c (.box (cs:=Pm.data p) Z (ax Z))) (fe [0,1] Z)) (.skip .nil)) ?_
 refine am ?_
 refine jb Z (aN (js Z (bS O (B0:=11000) Z Z Z Z (hC) (ab Z) Z Z Z Z Z Z (am ?_))))
 refine jd Z (js Z (jn (ae (ac (jb Z (jn (zc Z (fun z14=>?_) (fun z14=>?_))))))))
 exact absurd z14 (by decide)
 refine af (ac (jb Z (bS O (B0:=18000) Z Z Z Z (hQ) (.cons (.c (.whole Z (bA _).symm)) (.cons (.c .d) .nil)) Z Z Z Z Z Z (am ?_))))
 refine jd Z (jr ?_)
 refine⟨.inl Z,_,bK,_,Z,[18000],by decide,Z,Z,Z⟩
theorem sq{b:Int}: ∀{ss:List Sq},¬(i5 b ss).length<ss.length→∀s∈ss,(cz s b).2=true
 | [],_,s,hs=>by cases hs
 | x::ss,h,s,hs=>by
  unfold i5 at h
  split at h
  rename_i h1
  rcases List.mem_cons.1 hs with rfl|hs
  exact h1
  exact sq (ss:=ss) (by simpa using h) s hs
  exact absurd (by simp) h
def Pf.flat:Pf→List Nd
  | .close n=>[n]
  | .tight n a=>n::a.flat
  | .split n a b=>n::(a.flat++b.flat)
theorem ee: ∀{t:Pf},t.flat.length=t.size
 | .close _=>rfl
 | .tight n a=>by simp only[Pf.flat,Pf.size,dW,ee (t:=a)];omega
 | .split n a b=>by simp only[Pf.flat,Pf.size,dW,cp,ee (t:=a),ee (t:=b)];omega
def Pf.fine:Pf→Prop
  | .close n=>gN n=true∧n.kind=1
  | .tight n a=>gN n=true∧n.kind=3∧a.fine
  | .split n a b=>gN n=true∧n.kind=2∧a.fine∧b.fine
theorem kh: ∀{t:Pf},t.fine→∀n∈t.flat,gN n=true
 | .close n,h,x,hx=>by
  simp only[Pf.flat,List.mem_singleton]at hx;subst hx;exact h.1
 | .tight n a,h,x,hx=>by
  rcases List.mem_cons.1 hx with rfl|hx
  exact h.1
  exact kh h.2.2 x hx
 | .split n a b,h,x,hx=>by
  rcases List.mem_cons.1 hx with rfl|hx
  exact h.1
  rcases List.mem_append.1 hx with hx|hx
  exact kh h.2.2.1 x hx
  exact kh h.2.2.2 x hx
theorem ki{p:List Nd}: ∀{t:Pf} {k:Nat},t.fine→(∀j,j<t.size→p[k+j]? = t.flat[j]?)→t.At p k
 | .close n,k,h,hp=>⟨by have:=hp 0 (by simp[Pf.size]);simpa[Pf.flat]using this,h.1,h.2⟩
 | .tight n a,k,h,hp=>⟨by have:=hp 0 (by simp only[Pf.size];omega);simpa[Pf.flat]using this,h.1,h.2.1,ki h.2.2 fun j hj=>by
  have:=hp (1+j) (by simp only[Pf.size];omega)
  rw[←Nat.add_assoc]at this
  rw[this,Nat.add_comm 1 j];rfl⟩
 | .split n a b,k,h,hp=>⟨by have:=hp 0 (by simp only[Pf.size];omega);simpa[Pf.flat]using this,h.1,h.2.1,ki h.2.2.1 fun j hj=>by
  have:=hp (1+j) (by simp only[Pf.size];omega)
  rw[←Nat.add_assoc]at this
  rw[this,Nat.add_comm 1 j]
  show(a.flat++b.flat)[j]? = _
  rw[List.getElem?_append_left (by rw[ee];exact hj)],ki h.2.2.2 fun j hj=>by
  have:=hp (1+a.size+j) (by simp only[Pf.size];omega)
  rw[show k+1+a.size+j=k+(1+a.size+j) by omega,this,show 1+a.size+j=a.size+j+1 by omega]
  show(a.flat++b.flat)[a.size+j]? = _
  rw[List.getElem?_append_right (by rw[ee];omega),ee,Nat.add_sub_cancel_left]⟩
def Pf.okay:Pf→List Tm→Prop
  | .close n,c=>dH c n.mul=true
  | .tight n a,c=>(gS n c&&(oY n c).2)=true∧a.okay (c++[(oY n c).1])
  | .split n a b,c=>gu n c=true∧a.okay (c++[n.term])∧b.okay (c++[dP n.term])
theorem gG: ∀{t:Pf} {k:Nat} {c:List Tm} {e:Ex},t.okay c→(jQ t k c e).flaw=e.flaw
 | .close n,k,c,e,h=>by rw[jQ,if_pos (show dH c n.mul=true from h)];rfl
 | .tight n a,k,c,e,h=>by rw[jQ,if_pos h.1,gG h.2];rfl
 | .split n a b,k,c,e,h=>by rw[jQ,if_pos h.1,gG h.2.2,gG h.2.1];rfl
theorem uW{f:Tm→Int}{ts:List Tm}:bm f ts []=0:=by cases ts<;>rfl
theorem qX{f:Tm→Int}: ∀{ts:List Tm} {n:Nat},bm f ts (List.replicate n 0)=0
 | [],n=>by cases n<;>rfl
 | t::ts,0=>rfl
 | t::ts,n+1=>by rw[List.replicate_succ,bm,qX,Int.zero_mul];rfl
theorem oh{f:Tm→Int}: ∀{ts:List Tm} {i:Nat},i<ts.length→bm f ts (jq ts.length i)=f (ts.getD i default)
 | t::ts,0,_=>by
  show bm f (t::ts) ((List.replicate (ts.length+1) (0:Int)).set 0 1)=_
  rw[List.replicate_succ,List.set_cons_zero,bm,qX];simp
 | t::ts,i+1,h=>by
  show bm f (t::ts) ((List.replicate (ts.length+1) (0:Int)).set (i+1) 1)=_
  rw[List.replicate_succ,List.set_cons_succ,bm,Int.zero_mul,Int.zero_add]
  exact oh (f:=f) (ts:=ts) (by simpa using h)
theorem uC{n m x y:Int}{xs ys:List Int}{l:Nat}:iw n m (x::xs) (y::ys) (l+1)=(n*x+m*y)::iw n m xs ys l:=by
 unfold iw
 rw[List.range_succ_eq_map,List.map_cons,List.map_map];rfl
theorem qz{f:Tm→Int}{n m:Int}: ∀{ts:List Tm} {xs ys:List Int},xs.length=ys.length→bm f ts (iw n m xs ys xs.length)=n*bm f ts xs+m*bm f ts ys
 | ts,[],[],_=>by
  rw[show iw n m [] [] ([]:List Int).length=[]from Z,uW];simp
 | [],x::xs,y::ys,h=>by
  rw[dW,uC];simp[bm]
 | t::ts,x::xs,y::ys,h=>by
  rw[dW,uC,bm,bm,bm,qz (by simpa using h),Int.add_mul,Int.mul_add,Int.mul_add,Int.mul_assoc,Int.mul_assoc]
  omega
 | ts,[],y::ys,h=>by simp at h
 | ts,x::xs,[],h=>by simp at h
theorem kT{g:Nat}{x:Int}(h:g ∣ x.natAbs):(g:Int)*x.tdiv g=x:=Int.mul_tdiv_cancel' (Int.ofNat_dvd_left.2 h)
theorem qA{f:Tm→Int}{g:Nat}: ∀{ts:List Tm} {ms:List Int},(∀x∈ms,g ∣ x.natAbs)→(g:Int)*bm f ts (ms.map fun x=>x.tdiv g)=bm f ts ms
 | ts,[],_=>by rw[List.map_nil,uW,Int.mul_zero]
 | [],x::xs,_=>by rw[List.map_cons];simp[bm]
 | t::ts,x::xs,h=>by
  rw[List.map_cons,bm,bm,Int.mul_add,qA fun y hy=>h y (by simp[hy]),←Int.mul_assoc,kT (h x (by simp))]
theorem xp{g:Nat}{d e:Int}(hg:0<g)(h:(g:Int)*e=d):d.tdiv g=e:=by
 subst h;exact Int.mul_tdiv_cancel_left _ (by omega)
structure RIn(ts:List Tm)(r:Rw):Prop where
  ok:ROk ts.length r
  c:r.c=bm Tm.c ts r.ms
  xs: ∀k,k<10→r.xs.getD k default=bm (jU k) ts r.ms
abbrev Da(k:Nat)(r:Rw):Prop:= ∀j,j<k→r.xs.getD j default=0
theorem yw{xs:List Int}{k n:Nat}(h:k<n):(kp xs n).getD k default=xs.getD k 0:=by simp[kp,h]
theorem xA{n m:Int}{xs ys:List Int}{k l:Nat}(h:k<l):(iw n m xs ys l).getD k default=n*xs.getD k default+m*ys.getD k default:=by simp[iw,h]
theorem Cv{ts:List Tm}(h:Fs ts){i:Nat}(hi:i<ts.length):RIn ts (sI ts i):=
  ⟨xv h hi,(oh (f:=Tm.c) hi).symm,fun k hk=>by rw[oh hi];exact yw hk⟩
theorem mu{xs:List Int}{g k:Nat}:(xs.map fun x=>x.tdiv g).getD k default=(xs.getD k default).tdiv g:=by
 rw[List.getD_eq_getElem?_getD,List.getD_eq_getElem?_getD,List.getElem?_map]
 cases xs[k]? with
 | none=>exact(Int.zero_tdiv _).symm
 | some x=>rfl
theorem EC{ts:List Tm}{p q:Rw}{k:Nat}(hp:RIn ts p)(hq:RIn ts q)(h1:0<p.xs.getD k default)(h2:q.xs.getD k default<0)(h:wX (ef p q k)=true):RIn ts (ef p q k):=by
 have hg:=(pA hp.ok hq.ok h1 h2).1
 have hd:=uL (r:=mg p q k)
 have hl:p.ms.length=q.ms.length:=hp.ok.n.trans hq.ok.n.symm
 refine⟨sS hp.ok hq.ok h1 h2 h,?_,fun j hj=>?_⟩
 refine xp hg ?_
 show _*bm Tm.c ts ((mg p q k).ms.map _)=_
 rw[qA hd.2.2]
 show bm Tm.c ts (iw _ _ p.ms q.ms p.ms.length)=nF p q k*p.c+nG p q k*q.c
 rw[qz hl,hp.c,hq.c]
 show((mg p q k).xs.map _).getD j default=_
 rw[mu]
 refine xp hg ?_
 show _*bm (jU j) ts ((mg p q k).ms.map _)=_
 rw[qA hd.2.2]
 show bm (jU j) ts (iw _ _ p.ms q.ms p.ms.length)=(iw (nF p q k) (nG p q k) p.xs q.xs p.xs.length).getD j default
 rw[qz hl,xA (by rw[hp.ok.l];exact hj),hp.xs j hj,hq.xs j hj]
theorem CF{ts:List Tm}{p q:Rw}{k:Nat}(hp:RIn ts p)(hq:RIn ts q)(h1:0<p.xs.getD k default)(h2:q.xs.getD k default<0)(zp:Da k p)(zq:Da k q):Da (k+1) (ef p q k):=fun j hj=>by
 have h10:p.xs.length=10:=hp.ok.l
 show((mg p q k).xs.map _).getD j default=_
 rw[mu]
 have e:(iw (nF p q k) (nG p q k) p.xs q.xs p.xs.length).getD j default=0:=by
  by_cases hl:j<p.xs.length
  rw[xA hl]
  by_cases e:j=k
  subst e
  have d1:(go p q j:Int)*(p.xs.getD j default).tdiv (go p q j)=p.xs.getD j default:=kT (Nat.gcd_dvd_left _ _)
  have d2:(go p q j:Int)*(-(q.xs.getD j default)).tdiv (go p q j)= -(q.xs.getD j default):=kT (by rw[Int.natAbs_neg];exact Nat.gcd_dvd_right _ _)
  show(-(q.xs.getD j default)).tdiv (go p q j)*p.xs.getD j default+(p.xs.getD j default).tdiv (go p q j)*q.xs.getD j default=0
  generalize (p.xs.getD j default).tdiv (go p q j)=a at d1 ⊢
  generalize (-(q.xs.getD j default)).tdiv (go p q j)=b at d2 ⊢
  rw[show q.xs.getD j default= -((go p q j:Int)*b) by omega,←d1,Int.mul_neg,Int.mul_left_comm b,Int.mul_left_comm a,Int.mul_comm a b]
  omega
  rw[zp j (by omega),zq j (by omega)];simp
  rw[List.getD_eq_getElem?_getD,List.getElem?_eq_none (by rw[bF];omega)];rfl
 show((iw (nF p q k) (nG p q k) p.xs q.xs p.xs.length).getD j default).tdiv _=0
 rw[e,Int.zero_tdiv]
theorem tn{P Q:Rw→Prop}{p:Rw}{k b:Nat}(hm: ∀q,P q→0<p.xs.getD k default→q.xs.getD k default<0→wX (ef p q k)=true→Q (ef p q k)) :
    ∀{qs new y:List Rw},(∀r∈qs,P r)→(∀r∈new,Q r)→tU p k b qs new=some y→∀r∈y,Q r
 | [],new,y,_,hn,h=>by
  simp only[tU,dL]at h;subst h;exact hn
 | q::qs,new,y,hq,hn,h=>by
  have hqs: ∀r∈qs,P r:=fun r hr=>hq r (by simp[hr])
  unfold tU at h
  split at h
  exact tn hm hqs hn h
  rename_i h0
  split at h
  rename_i h3
  refine tn hm hqs (fun r hr=>?_) h
  rcases List.mem_append.1 hr with hr|hr
  exact hn r hr
  simp only[List.mem_singleton]at hr;subst hr
  exact hm q (hq q (by simp)) (by omega) (by omega) h3.1
  cases h
theorem xI{P Q:Rw→Prop}{k b:Nat}{rs:List Rw}(hr: ∀r∈rs,P r)(hm: ∀p q,P p→P q→0<p.xs.getD k default→q.xs.getD k default<0→wX (ef p q k)=true→Q (ef p q k)) :
    ∀{ps new y:List Rw},(∀r∈ps,P r)→(∀r∈new,Q r)→sE k b rs ps new=some y→∀r∈y,Q r
 | [],new,y,_,hn,h=>by
  simp only[sE,dL]at h;subst h;exact hn
 | p::ps,new,y,hq,hn,h=>by
  unfold sE at h
  split at h
  cases h
  rename_i z hz
  exact xI hr hm (fun r h=>hq r (by simp[h])) (tn (hm p · (hq p (by simp))) hr hn hz) h
theorem sc{ts:List Tm}: ∀{f k:Nat} {rs news a b:List Rw},(∀r∈rs,RIn ts r∧Da k r)→(∀r∈news,RIn ts r)→gT f k rs news=some (a,b)→(∀r∈a,RIn ts r∧Da (k+f) r)∧∀r∈b,RIn ts r
 | 0,k,rs,news,a,b,h1,h3,h=>by
  simp only[gT,dL,Prod.mk.injEq]at h
  obtain⟨rfl,rfl⟩:=h
  exact⟨h1,h3⟩
 | f + 1,k,rs,news,a,b,h1,h3,h=>by
  cases hs:fh k rs with
  | none=>rw[ke hs]at h;cases h
  | some new=>
   rw[kd hs]at h
   have hn:=xI (P:=fun r=>RIn ts r∧Da k r) (Q:=fun r=>RIn ts r∧Da (k+1) r) h1 (fun p q hp hq g1 g2 g3=>⟨EC hp.1 hq.1 g1 g2 g3,CF hp.1 hq.1 g1 g2 hp.2 hq.2⟩) h1 (by simp) hs
   have := sc (k:=k+1) (fun r hr=>by
    rcases List.mem_append.1 hr with hr|hr
    · obtain⟨g1,g2⟩:=List.mem_filter.1 hr
      have g3:=bt g2
      refine⟨(h1 r g1).1,fun j hj=>?_⟩
      by_cases e:j=k
      · subst e;exact g3
      · exact(h1 r g1).2 j (by omega)
    · exact hn r hr) (fun r hr=>by
    rcases List.mem_append.1 hr with hr|hr
    · exact h3 r hr
    · exact(hn r hr).1) h
   rwa[show k+1+f=k+(f+1) by omega]at this
theorem uO{ts:List Tm}(h:Fs ts){a b:List Rw}(he:dk ts=some (a,b)):(∀r∈a,RIn ts r∧Da 10 r)∧∀r∈b,RIn ts r:=by
 have:=sc (ts:=ts) (k:=0) (fun r hr=>by
  obtain⟨i,hi,rfl⟩:=List.mem_map.1 hr
  exact⟨Cv h (List.mem_range.1 hi),fun j hj=>absurd hj (Nat.not_lt_zero j)⟩) (by simp) he
 simpa using this
theorem r7: ∀{rs:List Rw} {r:Rw},gR rs=some r→r.c<0
 | x::rs,r,h=>by
  unfold gR at h
  split at h
  rename_i h1;simp only[dL]at h;subst h;exact h1
  exact r7 h
theorem sn{ctx:List Tm}{ms:List Int}(hl:ms.length=ctx.length)(hx: ∀k,k<10→bm (jU k) ctx ms=0)(hc:bm Tm.c ctx ms<0):dH ctx ms=true:=by
 rw[so,pH,decide_eq_true hl.symm,decide_eq_true hc,Bool.true_and,Bool.and_true,List.all_eq_true]
 intro x hx'
 obtain⟨k,hk,rfl⟩:=List.mem_map.1 hx'
 exact decide_eq_true (hx k (List.mem_range.1 hk))
theorem wk{ts:List Tm}(h:Fs ts)(h2:(dj ts).2=true):dH ts (dj ts).1=true:=by
 unfold dj at h2 ⊢
 split at h2
 cases h2
 rename_i z hz
 split at h2
 cases h2
 rename_i r hr
 obtain⟨g1,g2⟩:=(uO h (a:=z.1) (b:=z.2) hz).1 r (n9 hr)
 exact sn g1.ok.n (fun k hk=>(g1.xs k hk).symm.trans (g2 k hk)) (by rw[←g1.c];exact r7 hr)
theorem oi{f:Tm→Int}{u:Tm}{m:Int}: ∀{ts:List Tm} {ms:List Int},ms.length=ts.length→bm f (ts++[u]) (ms++[m])=bm f ts ms+m*f u
 | [],[],_=>by simp[bm]
 | t::ts,x::xs,h=>by
  rw[List.cons_append,List.cons_append,bm,bm,oi (by simpa using h)];omega
 | [],x::xs,h=>by simp at h
 | t::ts,[],h=>by simp at h
theorem Cy{x:Tm}{k:Nat}(hk:k<10):jU k (dP x)= -(jU k x):=by
 show(bv (bE [x] [-1])).getD k 0=_
 rw[eu]
 unfold bE
 have:((List.range 10).map fun k=>bm (jU k) [x] [-1]).getD k 0=bm (jU k) [x] [-1]:=by simp[hk]
 rw[this]
 show -1*jU k x+0=_
 omega
theorem CL{xs:List Int}{k:Nat}:bk xs ∣ (xs.getD k default).natAbs:=by
 by_cases h:k<xs.length
 rw[aw h];exact ie (List.getElem_mem h)
 rw[List.getD_eq_getElem?_getD,List.getElem?_eq_none (by omega)];exact Nat.dvd_zero _
theorem Ak{c:Int}{g:Nat}(hg:0<g):c+g*(-(tV c g)-1)<0:=by
 have h1:(g:Int)*c.tdiv g+c.tmod g=c:=Int.mul_tdiv_add_tmod c g
 have h2:c.tmod g<g:=Int.tmod_lt_of_pos c (by omega)
 unfold tV
 split
 rw[Int.neg_sub,show(1:Int)-c.tdiv g-1= -(c.tdiv g) by omega,Int.mul_neg];omega
 rw[Int.mul_sub,Int.mul_neg,Int.mul_one];omega
theorem wC{ts:List Tm}(h:Fs ts){r:Rw}(hr:eQ ts=some r):dH (ts++[dP (aC ts r.tm).1]) (eP r)=true:=by
 obtain⟨hro,hsr⟩:=j5 h hr
 have hin:RIn ts r:=by
  unfold eQ at hr
  split at hr
  cases hr
  rename_i z hz
  exact(uO h (a:=z.1) (b:=z.2) hz).2 r (jO hr).1
 have e:(aC ts r.tm).1=Kd r.tm∧2≤bk r.tm.xs:=by
  unfold aC at hsr ⊢
  split at hsr
  cases hsr
  rename_i h0
  rw[if_neg h0,←ga hro.tm,fO,if_neg (fun h9=>h0 (.inl h9))]
  exact⟨Z,Nat.le_of_not_lt fun h9=>h0 (.inl h9)⟩
 rw[e.1]
 have hg:0<bk r.tm.xs:=by omega
 have hl:r.ms.length=ts.length:=hro.n
 refine sn (by simp[hl]) (fun k hk=>?_) ?_
 rw[oi hl,Cy hk,←hin.xs k hk]
 show _+_* -((List.map (fun x=>Int.tdiv x (bk r.tm.xs)) (bv r.xs)).getD k default)=0
 rw[mu,Int.mul_neg,kT (CL (xs:=r.tm.xs))]
 have:=eu r.xs k
 show r.xs.getD k default+ -((bv r.xs).getD k 0)=0
 rw[this]
 show r.xs.getD k default+ -(r.xs.getD k default)=0
 omega
 rw[oi hl,←hin.c]
 show r.c+(bk r.tm.xs:Int)*(-1*tV r.tm.c (bk r.tm.xs)+0-1)<0
 rw[show(-1*tV r.tm.c (bk r.tm.xs)+0-1:Int)= -(tV r.c (bk r.tm.xs))-1 by show -1*tV r.c (bk r.tm.xs)+0-1=_;omega]
 exact Ak hg
theorem lM: ∀{f:Nat} {ts:List Tm} {z:List Nd×List Nd},Fs ts→jT f ts=some z→∃t:Pf,t.flat=z.1++z.2∧t.fine∧t.okay ts
 | 0,ts,z,_,h=>by cases h
 | f + 1,ts,z,hF,h=>by
  have h14:=hF.len
  rw[jT]at h
  cases ht:fM ts with
  | some i=>
   rw[ht]at h
   simp only at h
   obtain⟨_,hi,hs⟩:=lJ ht
   have hx:=e6 hs
   split at h
   cases h
   rename_i hl
   obtain⟨y,hy,rfl⟩:=Option.map_eq_some_iff.1 h
   obtain⟨t,h1,h2,h3⟩:=lM (hF.snoc hx hl) hy
   have e:oY (dS i) ts=(bX (ts.getD i default)):=by
    unfold oY
    rw[Int.toNat_natCast,ga (hF.get (by omega))]
   have e2:(bX (ts.getD i default)).2=true∧(aC ts (ts.getD i default)).1=(bX (ts.getD i default)).1:=by
    unfold aC at hs ⊢
    split at hs
    cases hs
    rename_i h0
    simp only[bC]at hs
    rw[if_neg h0];exact⟨hs.1,rfl⟩
   refine⟨.tight (dS i) t,by simp[Pf.flat,h1],⟨?_,Z,h2⟩,?_,?_⟩
   simp[gN,eW,Tm.zero];omega
   rw[e,e2.1,Bool.and_true]
   simp[gS,eW];omega
   rw[e,←e2.2];exact h3
  | none=>
   rw[ht]at h
   simp only at h
   split at h
   rename_i hr
   simp only[dL]at h;subst h
   obtain⟨g1,g2⟩:=td hF hr
   refine⟨.close (c7 (dj ts).1),Z,⟨?_,Z⟩,wk hF hr⟩
   unfold gN
   rw[if_pos Z]
   simp[Tm.zero,yc,g1];omega
   cases hc:eQ ts with
   | none=>rw[hc]at h;cases h
   | some r=>
    rw[hc]at h
    simp only at h
    obtain⟨hro,hsr⟩:=j5 hF hc
    have hx:=e6 hsr
    split at h
    cases h
    rename_i hl
    split at h
    rename_i ho
    obtain⟨y,hy,rfl⟩:=Option.map_eq_some_iff.1 h
    obtain⟨t,h1,h2,h3⟩:=lM (hF.snoc hx hl) hy
    have hm:=Av hro
    have hml:(eP r).length=ts.length+1:=by simp[hro.n]
    refine⟨.split (dn (aC ts r.tm).1) t (.close (c7 (eP r))),by simp[Pf.flat,h1],⟨?_,Z,h2,?_,Z⟩,?_,h3,wC hF hc⟩
    simp[gN,hx]
    unfold gN
    rw[if_pos Z,yc]
    show(decide ((0:Int)=0)&&Tm.zero ⟨0,[]⟩&&((eP r).all co&&decide (((eP r).length:Int)≤20)))=true
    rw[hm,hml,decide_eq_true (show((ts.length+1:Nat):Int)≤20 by omega)];rfl
    rw[gu,←l7,ho,Bool.and_true]
    exact decide_eq_true (by omega)
    cases h
theorem A3{s:Sq}{b:Int}(hs:dF s=true)(hb:b≤60)(h:(cz s b).2=true):pN s (cz s b).1=true∧((cz s b).1.length:Int)≤b:=by
 obtain⟨g1,g2,g3⟩:=fj hs
 unfold cz at h ⊢
 split at h
 rename_i ho
 rw[if_pos ho]
 split at h
 cases h
 rename_i z hz
 split at h
 rename_i hl
 have hF:Fs (s.facts++[(aL s.goal).1]):=⟨fun u hu=>by
  rcases List.mem_append.1 hu with hu|hu
  · exact g1 u hu
  · simp only[List.mem_singleton]at hu;subst hu;exact lz ho,by simp;omega⟩
 obtain⟨t,h1,h2,h3⟩:=lM hF hz
 have ho2:(dP s.goal).ok=true:=by rw[←l7];exact ho
 have hc:gp s=(s.facts++[dP s.goal],true):=by unfold gp;rw[hs,ho2];rfl
 have hat:t.At (z.1++z.2) 0:=ki h2 fun j _=>by rw[Nat.zero_add,h1]
 have hsz:t.size=(z.1++z.2).length:=by rw[←h1,ee]
 have hpos:=c8 (t:=t)
 have hI:vt (z.1++z.2)=true:=by
  rw[vO]
  unfold tT
  rw[decide_eq_true (show(1:Int)≤(z.1++z.2).length by omega),decide_eq_true (show((z.1++z.2).length:Int)≤60 by omega),←h1,List.all_eq_true.2 (kh h2),h1,hat.endP,decide_eq_true (by omega)];rfl
 rw[if_pos hl]
 refine⟨?_,hl⟩
 rw[←Dx (by rw[hc]) hI hat hsz]
 refine decide_eq_true ?_
 show(jQ t 0 (gp s).1 ⟨[],-1⟩).flaw<0
 rw[hc,gG (by rw[←zD ho2];exact h3)]
 decide
 cases h
 cases h
end Go.Al
