/- Proofs and annotated code: contracts of both sides' functions that say what is valid; sizes, copies. -/
import Derived.Test.YtokffjlobnhglaaGreatDoorD
import Derived.Test.YtokffjlobnhglaaGreatDoorC
import Derived.Test.YtokffjlobnhglaaGreatDoorRows
set_option linter.unusedVariables false
set_option linter.unusedSimpArgs false
set_option maxRecDepth 10000
set_option maxHeartbeats 4000000
open Go.Proofs
namespace Go.Al
variable{L:Nat}(h1:4096≤L)(h2:L≤1073741824)
theorem j6{p:List Nd}(h:gA p=true):1≤p.length∧p.length≤60∧(∀n∈p,dG n=true)∧endP p 0=p.length:=by
 simp only[gA,bd,decide_eq_true_eq,List.all_eq_true]at h
 exact⟨by omega,by omega,h.2.1,h.2.2⟩
theorem j1{n:Nd}(h:dG n=true):n.kind=1∨n.kind=2∨n.kind=3:=by
 unfold dG at h
 split at h
 exact .inl ‹_›
 split at h
 exact .inr (.inl ‹_›)
 split at h
 exact .inr (.inr ‹_›)
 cases h
structure CS where
  all:List (List Tm)
  has:List Bool
  right:List Bool
  flaw:Int
structure CSok(p:List Nd)(k:Nat)(z:CS):Prop where
  all:z.all.length=k
  has:z.has.length=k
  right:z.right.length=k
  flaw: -1≤z.flaw∧z.flaw<k
  ctx: ∀j,j<k→z.has.getD j default=true→CtxOk (z.all.getD j default)
  good: ∀j,j<k→z.right.getD j default=true→z.has.getD j default=true∧nc (p.getD j default) (z.all.getD j default)=true
structure Con where
  all:List (List Tm)
  has:List Bool
  flaw:Int
  ok:Bool
theorem g2{a b:Bool}:(bif !a then true else !b)= !(a&&b):=by cases a<;>cases b<;>rfl
abbrev qb(p:List Nd):List D:=[lU p]
abbrev fB(ps:List (List Nd)):D:=.slc 1 (ps.map qb)
abbrev iQ(ps:List (List Nd)):A:=.c (.d (fB ps))
theorem mV{n:Int}:MQ h1 h2 45 [eI n] [] (Plain (eI n)):=by
 refine ac ?_ Z
 refine jB 4 h1 h2 Tryz.func45 Z fun O hF=>?_
 refine ab (js Z (aX (aa Z (jr ?_))))
 refine am Z ?_
 first|rfl|skip
variable{k:Int}
theorem rZ{n:Nat}(hn:n≤1073741824):MQ h1 h2 78 [eI k,eI n] [] (Plain (eB (cC 0 ((n:Int)-1) k))):=by
 refine ac ?_ Z
 refine jB 10 h1 h2 Tryz.func78 Z fun O hF=>?_
 refine ab (js Z (aX (aa Z (aB Z (mV (n:=n) h1 h2) 8000 Z ?_))))
 first|refine ji Z ?_|refine aQ Z Z ?_
 refine aB Z (i7 h1 h2) 10000 Z (js Z (jr ?_))
 refine am Z ?_
 first|rfl|skip
theorem pF{x:Int}(hx: -1000000≤x∧x≤1000000):MQ h1 h2 110 [eI x] [] (Plain (eI x.natAbs)):=by
 refine ac ?_ Z
 refine jB 7 h1 h2 Tryz.func110 Z fun O hF=>?_
 refine ab (js Z (aX (aa Z (ji Z (aa Z (jr ?_))))))
 refine am Z ?_
 exact congrArg eI (show(if 0-x>x then 0-x else x)=(x.natAbs:Int) by split<;>omega)
def cR(n:Nd):Int:=if dG n=true then(if n.kind=1 then 0 else if n.kind=2 then 2 else 1)else -1
theorem tq{n:Nd}(h:n.kind=1):dG n=((decide (n.fact=0)&&n.term.zero)&&md n.mul):=by rw[dG,if_pos h]
theorem tp{n:Nd}(h:n.kind=2):dG n=((decide (n.fact=0)&&n.term.ok)&&decide ((n.mul.length:Int)=0)):=by rw[dG,if_neg (by omega),if_pos h]
theorem tn{n:Nd}(h:n.kind=3):dG n=((cC 0 19 n.fact&&n.term.zero)&&decide ((n.mul.length:Int)=0)):=by rw[dG,if_neg (by omega),if_neg (by omega),if_pos h]
theorem dC{n:Nd}(h:dG n=false):cR n= -1:=by rw[cR,if_neg (by rw[h];decide)]
theorem cu{n:Nd}(h:dG n=true):cR n=if n.kind=1 then 0 else if n.kind=2 then 2 else 1:=by rw[cR,if_pos h]
theorem tE{a b c d:Bool}:(bif bif bif a then b else false then c else false then d else false)=((a&&b)&&(d&&c)):=by cases a<;>cases b<;>cases c<;>cases d<;>rfl
theorem tD{a b c:Bool}:(bif bif a then b else false then c else false)=((a&&c)&&b):=by cases a<;>cases b<;>cases c<;>rfl
theorem tB{a b c:Bool}:(bif bif a then b else false then c else false)=((a&&b)&&c):=by cases a<;>cases b<;>cases c<;>rfl
def df(f:Nat→Option (Nat×Int)):Nat→Nat→Int→Option (Nat×Int)
  | 0,k,d=>some (k,d)
  | q + 1,k,d=>match f k with
    | none=>none
    | some (k',b)=>df f q k' (if b>d then b else d)
def cH : Nat→List Nd→Nat→Option (Nat×Int)
  | 0,_,_=>none
  | n + 1,p,k=>if p.length≤k then none else if cR (p.getD k default)<0 then none else
      (df (cH n p) (cR (p.getD k default)).toNat (k+1) 0).map fun r=>(r.1,r.2+1)
theorem bN{f:Nat→Option (Nat×Int)}{q k k':Nat}{d b:Int}(h:f k=some (k',b)):df f (q+1) k d=df f q k' (if b>d then b else d):=by rw[df,h]
theorem c8{f:Nat→Option (Nat×Int)}{q k:Nat}{d:Int}(h:f k=none):df f (q+1) k d=none:=by rw[df,h]
theorem j5{f:Nat→Option (Nat×Int)}{N:Nat}(hf: ∀k b k',f k=some (k',b)→k<k'∧k'≤N∧0≤b∧b≤(k':Int)-k): ∀{q k:Nat} {d d':Int} {k' s:Nat},df f q k d=some (k',d')→k≤N→s≤k→0≤d→d≤(k:Int)-s→k≤k'∧k'≤N∧0≤d'∧d'≤(k':Int)-s
 | 0,k,d,d',k',s,h,hk,hs,h0,h1=>by simp only[df,de,Prod.mk.injEq]at h;omega
 | q + 1,k,d,d',k',s,h,hk,hs,h0,h1=>by
  cases hx:f k with
  | none=>rw[c8 hx]at h;cases h
  | some x=>
   obtain⟨k1,b⟩:=x
   rw[bN hx]at h
   have h3:=hf k b k1 hx
   have h4:=j5 hf h h3.2.1 (s:=s) (by omega) (by split<;>omega) (by split<;>omega)
   omega
theorem lN: ∀{n:Nat} {p:List Nd} {k k':Nat} {d:Int},cH n p k=some (k',d)→k<k'∧k'≤p.length∧0≤d∧d≤(k':Int)-k
 | 0,_,_,_,_,h=>by cases h
 | n+1,p,k,k',d,h=>by
  unfold cH at h
  split at h
  cases h
  split at h
  cases h
  simp only[Option.map_eq_some_iff]at h
  obtain⟨⟨k2,d2⟩,h1,h2⟩:=h
  simp only[Prod.mk.injEq]at h2
  have:=j5 (N:=p.length) (fun k b k' h=>lN h) h1 (by omega) (cw _) (Int.le_refl 0) (by omega)
  omega
abbrev eN(r:Option (Nat×Int)):Int:=match r with|some (k,_)=>k|none=>0
abbrev eD(r:Option (Nat×Int)):Int:=match r with|some (_,d)=>d|none=>0
abbrev eO(r:Option (Nat×Int)):Bool:=match r with|some _=>true|none=>false
abbrev pA(r:Option (Nat×Int)):A:=.tup [eI (eN r),eI (eD r),eB (eO r)]
theorem lK{r:Option (Nat×Int)}(h:eO r=true): ∃k d,r=some (k,d):=by
 cases r with
 | none=>cases h
 | some x=>exact⟨x.1,x.2,Z⟩
theorem nN{r:Option (Nat×Int)}(h:eO r=false):r=none:=by
 cases r with
 | none=>rfl
 | some x=>cases h
theorem nz(n:Nd):cR n≤2:=by unfold cR;split<;>(try split)<;>(try split)<;>decide
def lX(p:List Nd):Bool:=decide ((p.length:Int)≤60)&&(eO (cH (p.length+1) p 0)&&decide (eN (cH (p.length+1) p 0)=p.length))
theorem sQ{n:Nd}:MQ h1 h2 108 [qf n] [] (Plain (eI (cR n))):=by
 refine ac ?_ Z
 refine jB 59 h1 h2 Tryz.func108 Z fun O hF=>?_
 have hl:n.mul.length≤L:=by simpa[As.fact,A.fact,M.fact,Ms.fact,D.fact,Ds.fact]using hF.1.2.2.2.2.1.1
 refine ab (jx Z (js Z (jn (af (kA [_,_,_,_,_,_,_,_,_,_,_,_,_] [pn [] 0 1,pn [0] 0 1,pn [0,1] 0 1,bp,aT [3],pe [3,4] 0,pn [] 0 1,pn [6] 0 1,pn [6,7] 0 1,pn [6,7,8] 0 1,pn (rg 0 6) 1 1,pn (rg 0 6++[10]) 1 1,pn (rg 0 12) 1 1] [5] [_,_] (ai (kc Z (V Z)) (ai (kc Z (V Z)) (ai (kc Z (V Z)) (kc Z (kc Z (ai (aD O (B0:=13000) Z Z Z Z (sP h1 h2) (aj Z) Z Z Z Z Z) (ai (kc Z (V Z)) (ai (kc Z (V Z)) (ai (ai (aU O Z Z Z Z Z Z Z Z) (aU O Z Z Z Z Z Z Z Z)) (ai (kc Z (V Z)) (kc Z (kc Z (kc Z trivial))))))))))))) ?_)))))
 refine jw [5,4,3,2,1,0] Z (nZ ?_)
 refine ab (js Z (jn (af (ab (aa Z (jn (ak (ab (aa Z (jn (al Z (fun z19=>?_) (fun z19=>?_))))))))))))
 refine ab (aa Z (jf [22,20,18,17,6,5,4,3,2,1,0] Z (aA 1 Z Z Z (fun hx=>ax hx Z (AN.nil)) Z Z ?_)))
 first|refine ah (ar O Z Z Z Z Z) Z ?_|refine ah (ay O Z Z Z Z Z) Z ?_|refine ah (Val.pickB O Z Z Z Z Z) Z ?_
 refine js Z (jf [25,20,18,17,6,5,4,3,2,1,0] Z (aA 4 Z Z Z (fun hx=>ax hx Z (ax hx Z (c5 hx (aU O Z Z Z Z Z Z Z Z) Z (ax hx Z (AN.nil))))) Z Z ?_))
 first|refine ah (ar O Z Z Z Z Z) Z ?_|refine ah (ay O Z Z Z Z Z) Z ?_|refine ah (Val.pickB O Z Z Z Z Z) Z ?_
 refine js Z (jf [31,20,18,17,6,5,4,3,2,1,0] Z (aA 3 Z Z Z (fun hx=>ax hx Z (ax hx Z (bu O hx Z Z Z Z (qz h1 h2) (aj Z) Z Z Z Z Z Z Z (B0:=35000) Z (AN.nil)))) Z Z ?_))
 first|refine ah (ar O Z Z Z Z Z) Z ?_|refine ah (ay O Z Z Z Z Z) Z ?_|refine ah (Val.pickB O Z Z Z Z Z) Z ?_
 refine jf [35,20,18,17,6,5,4,3,2,1,0] Z (jn (al Z (fun z35=>?_) (fun z35=>?_)))
 refine ag (js Z (jn (ab (aa Z (jf [2,20,18,17,5,4,3,1,0] Z (jr ?_))))))
 refine am Z ?_
 have hb:dG n=true:=by rw[tq (bK z19)];have h9:=z35;rw[tE]at h9;exact h9
 rw[cu hb,if_pos (bK z19)]
 refine ae (ab (aa Z (jf [2,20,18,17,5,4,3,1,0] Z (jr ?_))))
 refine am Z ?_
 have hb:dG n=false:=by rw[tq (bK z19)];have h9:=z35;rw[tE]at h9;exact h9
 rw[dC hb]
 refine ab (aa Z (jf [36,20,18,17,6,5,4,3,2,1,0] Z (jn (al Z (fun z36=>?_) (fun z36=>?_)))))
 refine ab (aa Z (jf [39,20,18,17,6,5,4,3,2,1,0] Z (aA 1 Z Z Z (fun hx=>ax hx Z (AN.nil)) Z Z ?_)))
 first|refine ah (ar O Z Z Z Z Z) Z ?_|refine ah (ay O Z Z Z Z Z) Z ?_|refine ah (Val.pickB O Z Z Z Z Z) Z ?_
 refine js Z (jf [42,20,18,17,6,5,4,3,2,1,0] Z (aA 3 Z Z Z (fun hx=>ax hx Z (ax hx Z (bu O hx Z Z Z Z (qx h1 h2) (aj Z) Z Z Z Z Z Z Z (B0:=46000) Z (AN.nil)))) Z Z ?_))
 first|refine ah (ar O Z Z Z Z Z) Z ?_|refine ah (ay O Z Z Z Z Z) Z ?_|refine ah (Val.pickB O Z Z Z Z Z) Z ?_
 refine jf [46,20,18,17,6,5,4,3,2,1,0] Z (jn (al Z (fun z46=>?_) (fun z46=>?_)))
 refine ag (js Z (jn (ab (aa Z (jf [2,20,18,17,5,4,3,1,0] Z (jr ?_))))))
 refine am Z ?_
 have hb:dG n=true:=by rw[tp (bK z36)];have h9:=z46;rw[tD]at h9;exact h9
 rw[cu hb,if_neg (ce z19),if_pos (bK z36)]
 refine ae (ab (aa Z (jf [2,20,18,17,5,4,3,1,0] Z (jr ?_))))
 refine am Z ?_
 have hb:dG n=false:=by rw[tp (bK z36)];have h9:=z46;rw[tD]at h9;exact h9
 rw[dC hb]
 refine ab (aa Z (jf [47,20,18,17,6,5,4,3,2,1,0] Z (jn (al Z (fun z47=>?_) (fun z47=>?_)))))
 refine ab (aa Z (jf [50,20,18,17,6,5,4,3,2,1,0] Z (aB Z (i7 h1 h2) 52000 Z (js Z (jf [52,20,18,17,6,5,4,3,2,1,0] Z (aA 1 Z Z Z (fun hx=>ax hx Z (AN.nil)) Z Z ?_))))))
 first|refine ah (ar O Z Z Z Z Z) Z ?_|refine ah (ay O Z Z Z Z Z) Z ?_|refine ah (Val.pickB O Z Z Z Z Z) Z ?_
 refine js Z (jf [55,20,18,17,6,5,4,3,2,1,0] Z (aA 1 Z Z Z (fun hx=>ax hx Z (AN.nil)) Z Z ?_))
 first|refine ah (ar O Z Z Z Z Z) Z ?_|refine ah (ay O Z Z Z Z Z) Z ?_|refine ah (Val.pickB O Z Z Z Z Z) Z ?_
 refine jf [57,20,18,17,6,5,4,3,2,1,0] Z (jn (al Z (fun z57=>?_) (fun z57=>?_)))
 refine ag (js Z (jn (ab (aa Z (jf [2,20,18,17,5,4,3,1,0] Z (jr ?_))))))
 refine am Z ?_
 have hb:dG n=true:=by rw[tn (bK z47)];have h9:=z57;rw[tB]at h9;exact h9
 rw[cu hb,if_neg (ce z19),if_neg (ce z36)]
 refine ae (ab (aa Z (jf [2,20,18,17,5,4,3,1,0] Z (jr ?_))))
 refine am Z ?_
 have hb:dG n=false:=by rw[tn (bK z47)];have h9:=z57;rw[tB]at h9;exact h9
 rw[dC hb]
 refine ae (ab (aa Z (jf [2,20,18,17,5,4,3,1,0] Z (jr ?_))))
 refine am Z ?_
 rw[dC (by rw[dG,if_neg (ce z19),if_neg (ce z36),if_neg (ce z47)])]
variable{p:List Nd}
theorem qX{n k:Nat}(hk:k≤p.length)(hn:p.length<n+1+k)(ih: ∀k',k'≤p.length→p.length<n+k'→MQ h1 h2 80 [dI p,eI k'] [] (Plain (pA (cH n p k')))):MQ h1 h2 80 [dI p,eI k] [] (Plain (pA (cH (n+1) p k))):=by
 refine jB 45 h1 h2 Tryz.func80 Z fun O hF=>?_
 have hl:p.length≤L:=by simpa[As.fact,A.fact,M.fact,D.fact,Ds.fact]using hF.1.1
 refine ab (bc Z (jn (af (ab (aa Z ?_)))))
 first|refine bA Z ?_|refine js Z ?_|refine aQ Z Z ?_
 refine js Z (jn (al Z (fun z15=>?_) (fun z15=>?_)))
 try simp only[az]at z15
 refine ab (bc Z (jr ?_))
 refine⟨.inl Z,_,cp,_,Z,?_,Z⟩
 rw[show cH (n+1) p k=none from if_pos (by omega)]
 try simp only[az]at z15
 refine ae (ab (aa Z ?_))
 first|refine n0 Z Z ?_|refine eZ Z Z ?_|refine aQ Z Z ?_
 refine js Z (aB Z (sQ (n:=p.getD k default) h1 h2) 21000 Z (js Z (jn (af (ab (aa Z (jn (al Z (fun z22=>?_) (fun z22=>?_)))))))))
 try simp only[az]at z22
 refine ab (bc Z (jr ?_))
 refine⟨.inl Z,_,cp,_,Z,?_,Z⟩
 rw[show cH (n+1) p k=none by unfold cH;rw[if_neg (by omega)];exact if_pos z22]
 try simp only[az]at z22
 refine ae (ab (js Z ?_))
 first|refine ji Z ?_|refine aQ Z Z ?_
 refine js Z (aX (js Z (jn (af (ak (aq (X:=Nat×Nat×Int) (fun x=>⟨[(0,dI p),(1,eI x.2.1),(7,eI x.1),(8,eI x.2.2)],[]⟩) (fun x=>x.2.1≤p.length∧k<x.2.1∧df (cH n p) (cR (p.getD k default)).toNat (k+1) 0=df (cH n p) x.1 x.2.1 x.2.2∧x.1≤2∧0≤x.2.2∧x.2.2≤(x.2.1:Int)-(k+1:Nat)) (fun x=>x.1) ((cR (p.getD k default)).toNat,k+1,0) (Ent.to ⟨Z,Z,congrArg (fun z=>some (eI z)) (Int.toNat_of_nonneg z22).symm,Z,ao⟩ Z) ?_ (fun x hi=>?_)))))))
 exact⟨(show k+1≤p.length by omega),Nat.lt_succ_self k,Z,by have:=nz (p.getD k default);show(cR (p.getD k default)).toNat≤2;omega,Int.le_refl 0,by show(0:Int)≤((k+1:Nat):Int)-(k+1:Nat);omega⟩
 refine af (ab (aa Z (jn (al Z (fun z26=>?_) (fun z26=>?_)))))
 try simp only[az]at z26
 refine ae (af (ak (ab (aa Z (aG O Z Z Z Z (ih x.2.1 hi.1 (by omega)) (aj Z) Z Z Z Z (B0:=33000) Z Z (aJ Z (bc Z (jn (af (ab (aa Z (jn (al Z (fun z37=>?_) (fun z37=>?_))))))))))))))
 try simp only[az]at z37
 refine ab (bc Z (jr ?_))
 refine⟨.inl Z,_,cp,_,Z,?_,Z⟩
 have e0:=nN z37
 rw [show cH (n+1) p k=none by
  unfold cH
  rw[if_neg (by omega),if_neg (by omega),hi.2.2.1]
  obtain⟨q,hq⟩: ∃q,x.1=q+1:=⟨x.1-1,by omega⟩
  rw[hq,c8 e0];rfl]
 try simp only[az]at z37
 refine ae (ab ?_)
 obtain⟨k1,d1,hr⟩:=lK z37
 rw[hr]
 refine aJ Z (jn (ag (aa Z (jn (ag (js Z ?_))))))
 first|refine ji Z ?_|refine aQ Z Z ?_
 refine js Z (jn ?_)
 have hle:=lN hr
 refine⟨(x.1-1,k1,if d1>x.2.2 then d1 else x.2.2),Ent.to ⟨Z,Z,?_,Z,ao⟩ Z,⟨hle.2.1,by show k<k1;omega,?_,by show x.1-1≤2;omega,by show 0≤(if d1>x.2.2 then d1 else x.2.2);split<;>omega,by show(if d1>x.2.2 then d1 else x.2.2)≤(k1:Int)-(k+1:Nat);split<;>omega⟩,?_⟩
 exact congrArg (fun z=>some (eI z)) (by show(x.1:Int)-1=(x.1-1:Nat);omega)
 rw[hi.2.2.1]
 obtain⟨q,hq⟩: ∃q,x.1=q+1:=⟨x.1-1,by omega⟩
 rw[hq,bN hr];rfl
 show x.1-1<x.1;omega
 try simp only[az]at z26
 refine aL (ab (aa Z ?_))
 first|refine ji Z ?_|refine aQ Z Z ?_
 refine bc Z (jr ?_)
 refine⟨.inl Z,_,cp,_,Z,?_,Z⟩
 have hx:x.1=0:=by omega
 rw [show cH (n+1) p k=some (x.2.1,x.2.2+1) by
  unfold cH
  rw[if_neg (by omega),if_neg (by omega),hi.2.2.1,hx];rfl]
theorem qw{L:Nat}(h1:4096≤L)(h2:L≤1073741824){p:List Nd}: ∀{n k:Nat},k≤p.length→p.length<n+k→MC Tryz.prog L 80 [dI p,eI k] [] (Plain (pA (cH n p k)))
 | 0,k,hk,hn=>by omega
 | n+1,k,hk,hn=>qX h1 h2 hk hn (fun k' hk' hn'=>qw h1 h2 hk' hn')
theorem s6:MQ h1 h2 39 [dI p] [] (Plain (eB (lX p))):=by
 refine ac ?_ Z
 refine jB 22 h1 h2 Tryz.func39 Z fun O hF=>?_
 have hl:p.length≤L:=by simpa[As.fact,A.fact,M.fact,D.fact,Ds.fact]using hF.1.1
 refine ab (js Z (jn (af (ab (js Z ?_)))))
 first|refine bA Z ?_|refine js Z ?_|refine aQ Z Z ?_
 refine js Z (jn (al Z (fun z8=>?_) (fun z8=>?_)))
 try simp only[az]at z8
 refine ab (js Z (jr ?_))
 refine am Z ?_
 rw[lX,decide_eq_false (show¬(p.length:Int)≤60 by omega),Bool.false_and]
 try simp only[az]at z8
 refine ae (ab (js Z (aV [(10,_),(2,_),(0,_)] [] ⟨Z,Z,Z,ao⟩ Z (aG O Z Z Z Z (qw (p:=p) (n:=p.length+1) (k:=0) h1 h2 (bZ _) (by omega)) (aj Z) Z Z Z Z (B0:=12000) Z Z (aJ Z (bc Z (aX (aa Z (aV [(16,_),(3,_),(2,_),(0,_)] [] ⟨Z,Z,Z,Z,ao⟩ Z (aA 4 Z Z Z (fun hx=>ax hx Z (ax hx Z (c5 hx (aU O Z Z Z Z Z Z Z Z) Z (ax hx Z (AN.nil))))) Z Z ?_))))))))))
 first|refine ah (ar O Z Z Z Z Z) Z ?_|refine ah (ay O Z Z Z Z Z) Z ?_|refine ah (Val.pickB O Z Z Z Z Z) Z ?_
 refine js Z (jr ?_)
 refine am Z ?_
 rw[lX,decide_eq_true (show(p.length:Int)≤60 by omega),Bool.true_and,Bool.cond_false_right]
theorem tk{t:Tm}:t.ok=true↔gL t.c=true∧t.xs.all gL=true∧t.xs.length≤10∧(t.xs=[]∨t.xs.getD (t.xs.length-1) default≠0):=by
 unfold Tm.ok
 have hz:((t.xs.length:Int)-1).toNat=t.xs.length-1:=by omega
 rw[hz]
 cases h1:gL t.c<;>cases h2:t.xs.all gL<;>simp
 by_cases h3:t.xs.length≤10
 have h4: ¬(10:Int)<t.xs.length:=by omega
 by_cases h5:t.xs=[]
 simp[h5]
 have h6:0<t.xs.length:=List.length_pos_iff.2 h5
 simp[h3,h5]
 intro _;omega
 have h4:(10:Int)<t.xs.length:=by omega
 simp[h3,h4]
inductive Pf where
  | close (n:Nd)
  | tight (n:Nd) (a:Pf)
  | split (n:Nd) (a b:Pf)
def Pf.size:Pf→Nat
  | .close _=>1
  | .tight _ a=>1+a.size
  | .split _ a b=>1+a.size+b.size
def Pf.At(p:List Nd):Pf→Nat→Prop
  | .close n,k=>p[k]? = some n∧dG n=true∧n.kind=1
  | .tight n a,k=>p[k]? = some n∧dG n=true∧n.kind=3∧a.At p (k+1)
  | .split n a b,k=>p[k]? = some n∧dG n=true∧n.kind=2∧a.At p (k+1)∧b.At p (k+1+a.size)
theorem bE{p:List Nd}{k:Nat}{n:Nd}(h:p[k]? = some n):k<p.length∧p.getD k default=n:=by
 have h1:=(List.getElem?_eq_some_iff.1 h).1
 exact⟨h1,by rw[au h1];exact(List.getElem?_eq_some_iff.1 h).2⟩
theorem eu: ∀{t:Pf},0<t.size
 | .close _=>by simp[Pf.size]
 | .tight _ _=>by simp only[Pf.size];omega
 | .split _ _ _=>by simp only[Pf.size];omega
theorem Pf.At.beh{p:List Nd}: ∀{t:Pf} {k n:Nat},t.At p k→p.length<n+k→∃d,cH n p k=some (k+t.size,d)
 | .close x,k,0,h,hn=>by have:=(bE h.1).1;omega
 | .tight x a,k,0,h,hn=>by have:=(bE h.1).1;omega
 | .split x a b,k,0,h,hn=>by have:=(bE h.1).1;omega
 | .close x,k,n+1,h,hn=>by
  obtain⟨h1,h2⟩:=bE h.1
  have hk:cR x=0:=by rw[cu h.2.1,if_pos h.2.2]
  refine⟨0+1,?_⟩
  unfold cH
  rw[if_neg (by omega),h2,hk,if_neg (by decide)]
  rfl
 | .tight x a,k,n+1,h,hn=>by
  obtain⟨h1,h2⟩:=bE h.1
  have hk:cR x=1:=by rw[cu h.2.1,if_neg (by rw[h.2.2.1];decide),if_neg (by rw[h.2.2.1];decide)]
  obtain⟨d,hd⟩:=h.2.2.2.beh (n:=n) (by omega)
  refine⟨(if d>0 then d else 0)+1,?_⟩
  unfold cH
  rw[if_neg (by omega),h2,hk,if_neg (by decide),show(1:Int).toNat=0+1 from Z,bN hd]
  show some (k+1+a.size,_)=some (k+(1+a.size),_)
  rw[Nat.add_assoc]
 | .split x a b,k,n+1,h,hn=>by
  obtain⟨h1,h2⟩:=bE h.1
  have hk:cR x=2:=by rw[cu h.2.1,if_neg (by rw[h.2.2.1];decide),if_pos h.2.2.1]
  obtain⟨d,hd⟩:=h.2.2.2.1.beh (n:=n) (by omega)
  obtain⟨d',hd'⟩:=h.2.2.2.2.beh (n:=n) (by have:=eu (t:=a);omega)
  refine⟨(if d'>(if d>0 then d else 0)then d' else(if d>0 then d else 0))+1,?_⟩
  unfold cH
  rw[if_neg (by omega),h2,hk,if_neg (by decide),show(2:Int).toNat=1+1 from Z,bN hd,show(1:Nat)=0+1 from Z,bN hd']
  show some (k+1+a.size+b.size,_)=some (k+(1+a.size+b.size),_)
  rw[show k+1+a.size+b.size=k+(1+a.size+b.size) by omega]
theorem kn{n:Nd}(h: ¬cR n<0):dG n=true:=by
 cases hb:dG n with
 | true=>rfl
 | false=>rw[dC hb]at h;exact absurd (by decide) h
theorem jc{p:List Nd}: ∀{n k k':Nat} {d:Int},cH n p k=some (k',d)→∃t:Pf,t.At p k∧k'=k+t.size
 | 0,_,_,_,h=>by cases h
 | n + 1,k,k',d,h=>by
  unfold cH at h
  split at h
  cases h
  rename_i hl
  split at h
  cases h
  rename_i hk
  have hb:=kn hk
  have hg:p[k]? = some (p.getD k default):=by rw[au (by omega)];exact List.getElem?_eq_getElem (by omega)
  generalize p.getD k default=x at hk hb hg h
  rcases j1 hb with h1|h1|h1
  rw[cu hb,if_pos h1]at h
  simp only[Int.toNat_zero,df,Option.map_some,de,Prod.mk.injEq]at h
  exact⟨.close x,⟨hg,hb,h1⟩,h.1.symm⟩
  rw[cu hb,if_neg (by omega),if_pos h1,show(2:Int).toNat=1+1 from Z]at h
  cases e1:cH n p (k+1)with
  | none=>rw[c8 e1]at h;cases h
  | some r1=>
   obtain⟨k1,d1⟩:=r1
   rw[bN e1,show(1:Nat)=0+1 from Z]at h
   obtain⟨a,ha,rfl⟩:=jc e1
   cases e2:cH n p (k+1+a.size)with
   | none=>rw[c8 e2]at h;cases h
   | some r2=>
    obtain⟨k2,d2⟩:=r2
    rw[bN e2]at h
    obtain⟨b,hb2,rfl⟩:=jc e2
    simp only[df,Option.map_some,de,Prod.mk.injEq]at h
    exact⟨.split x a b,⟨hg,hb,h1,ha,hb2⟩,by rw[←h.1];simp only[Pf.size];omega⟩
  rw[cu hb,if_neg (by omega),if_neg (by omega),show(1:Int).toNat=0+1 from Z]at h
  cases e1:cH n p (k+1)with
  | none=>rw[c8 e1]at h;cases h
  | some r1=>
   obtain⟨k1,d1⟩:=r1
   rw[bN e1]at h
   obtain⟨a,ha,rfl⟩:=jc e1
   simp only[df,Option.map_some,de,Prod.mk.injEq]at h
   exact⟨.tight x a,⟨hg,hb,h1,ha⟩,by rw[←h.1];simp only[Pf.size];omega⟩
theorem Pf.At.endK{p:List Nd}: ∀{t:Pf} {k:Nat} {need:Int},t.At p k→0<need→Al.endK (p.drop k) need=(Al.endK (p.drop (k+t.size)) (need-1)).map (· + t.size)
 | .close x,k,need,h,hn=>by
  obtain⟨h1,h2⟩:=bE h.1
  rw[c7 hn h1,h2,h.2.2];rfl
 | .tight x a,k,need,h,hn=>by
  obtain⟨h1,h2⟩:=bE h.1
  rw[c7 hn h1,h2,h.2.2.1,show need+dl 3=need by show need+0=need;omega,h.2.2.2.endK hn,Option.map_map]
  simp only[Pf.size]
  rw[show k+1+a.size=k+(1+a.size) by omega]
  exact congrArg (fun f=>Option.map f _) (funext fun n=>by show n+a.size+1=n+(1+a.size);omega)
 | .split x a b,k,need,h,hn=>by
  obtain⟨h1,h2⟩:=bE h.1
  rw[c7 hn h1,h2,h.2.2.1,show need+dl 2=need+1 from Z,h.2.2.2.1.endK (by omega),show need+1-1=need by omega,h.2.2.2.2.endK hn,Option.map_map,Option.map_map]
  simp only[Pf.size]
  rw[show k+1+a.size+b.size=k+(1+a.size+b.size) by omega]
  exact congrArg (fun f=>Option.map f _) (funext fun n=>by show n+b.size+a.size+1=n+(1+a.size+b.size);omega)
theorem Pf.At.endP{p:List Nd}{t:Pf}{k:Nat}(h:t.At p k):Al.endP p k=k+t.size:=by
 unfold Al.endP
 rw[h.endK (by decide),show(1:Int)-1=0 from Z,kd (Int.le_refl 0)]
 show(k:Int)+(0+t.size:Nat)=_
 omega
theorem Pf.At.valid{p:List Nd}: ∀{t:Pf} {k j:Nat},t.At p k→k≤j→j<k+t.size→dG (p.getD j default)=true
 | .close x,k,j,h,h1,h2=>by
  simp only[Pf.size]at h2
  obtain rfl:j=k:=by omega
  rw[(bE h.1).2];exact h.2.1
 | .tight x a,k,j,h,h1,h2=>by
  by_cases e:j=k
  subst e;rw[(bE h.1).2];exact h.2.1
  simp only[Pf.size]at h2
  exact h.2.2.2.valid (by omega) (by omega)
 | .split x a b,k,j,h,h1,h2=>by
  by_cases e:j=k
  subst e;rw[(bE h.1).2];exact h.2.1
  simp only[Pf.size]at h2
  by_cases e2:j<k+1+a.size
  exact h.2.2.2.1.valid (by omega) (by omega)
  exact h.2.2.2.2.valid (by omega) (by omega)
theorem gI{p:List Nd}(hv: ∀n∈p,dG n=true): ∀{m k:Nat} {need:Int} {r:Nat},p.length-k≤m→0<need→endK (p.drop k) need=some r→∃t:Pf,t.At p k
 | 0,k,need,r,hm,hn,h=>by
  rw[List.drop_of_length_le (by omega),ij hn]at h;cases h
 | m+1,k,need,r,hm,hn,h=>by
  by_cases hk:k<p.length
  have hg:p[k]? = some (p.getD k default):=by rw[au hk];exact List.getElem?_eq_getElem hk
  have hb:dG (p.getD k default)=true:=by rw[au hk];exact hv _ (List.getElem_mem hk)
  rw[c7 hn hk]at h
  generalize p.getD k default=x at hb hg h
  rcases j1 hb with h1|h1|h1
  exact⟨.close x,hg,hb,h1⟩
  rw[h1,show need+dl 2=need+1 from Z]at h
  simp only[Option.map_eq_some_iff]at h
  obtain⟨r1,h2,_⟩:=h
  obtain⟨a,ha⟩:=gI hv (m:=m) (by omega) (by omega) h2
  rw[ha.endK (by omega),show need+1-1=need by omega]at h2
  simp only[Option.map_eq_some_iff]at h2
  obtain⟨r2,h3,_⟩:=h2
  obtain⟨b,hb2⟩:=gI hv (m:=m) (by have:=eu (t:=a);omega) hn h3
  exact⟨.split x a b,hg,hb,h1,ha,hb2⟩
  rw[h1,show need+dl 3=need by show need+0=need;omega]at h
  simp only[Option.map_eq_some_iff]at h
  obtain⟨r1,h2,_⟩:=h
  obtain⟨a,ha⟩:=gI hv (m:=m) (by omega) hn h2
  exact⟨.tight x a,hg,hb,h1,ha⟩
  rw[List.drop_of_length_le (by omega),ij hn]at h;cases h
theorem nD{p:List Nd}(h:gA p=true): ∃t:Pf,t.At p 0∧t.size=p.length:=by
 obtain⟨h1,h2,h3,h4⟩:=j6 h
 have h5: ∃r,endK (p.drop 0) 1=some r:=by
  unfold endP at h4
  cases e:endK (p.drop 0) 1 with
  | some r=>exact⟨r,Z⟩
  | none=>rw[e]at h4;have h4:(-1:Int)=p.length:=h4;omega
 obtain⟨r,hr⟩:=h5
 obtain⟨t,ht⟩:=gI h3 (cw _) (by decide) hr
 refine⟨t,ht,?_⟩
 rw[ht.endP]at h4
 omega
theorem nC{p:List Nd}(h:lX p=true):p.length≤60∧∃t:Pf,t.At p 0∧t.size=p.length:=by
 unfold lX at h
 simp only[bd,decide_eq_true_eq]at h
 obtain⟨k,d,hr⟩:=lK h.2.1
 obtain⟨t,ht,hk⟩:=jc hr
 have h3:=h.2.2
 rw[hr]at h3
 have h3:(k:Int)=p.length:=h3
 exact⟨by omega,t,ht,by omega⟩
theorem pS{p:List Nd}:lX p=gA p:=by
 rw[Bool.eq_iff_iff]
 constructor
 intro h
 obtain⟨h1,t,ht,hs⟩:=nC h
 have hp:=eu (t:=t)
 unfold gA
 rw[decide_eq_true (show(1:Int)≤p.length by omega),decide_eq_true (show(p.length:Int)≤60 by omega),ht.endP,decide_eq_true (show((0:Nat):Int)+t.size=p.length by omega)]
 simp only[Bool.and_true,Bool.true_and,List.all_eq_true]
 intro n hn
 obtain⟨j,hj,rfl⟩:=List.mem_iff_getElem.1 hn
 have:=ht.valid (bZ j) (by omega)
 rwa[au hj]at this
 intro h
 obtain⟨t,ht,hs⟩:=nD h
 obtain⟨h1,h2,_,_⟩:=j6 h
 obtain⟨d,hd⟩:=ht.beh (n:=p.length+1) (by omega)
 unfold lX
 rw[decide_eq_true (show(p.length:Int)≤60 by omega),hd]
 show(true&&decide (((0+t.size:Nat):Int)=p.length))=true
 rw[decide_eq_true (by omega)];rfl
structure Ex where
  es:List (Int×List Tm)
  flaw:Int
def fl(b:Nat→Bool):Nat→Nat→Int→Int
  | _,0,f=>f
  | k,n+1,f=>fl b (k+1) n (if b k=true∧f<0 then(k:Int)else f)
structure Eqs(p:List Nd)(c0:List Tm)(H:Nat→Bool)(A:Nat→List Tm)(R:Nat→Bool):Prop where
  h0:0<p.length→H 0=true∧A 0=c0
  h: ∀j,0<j→j<p.length→H j=R (qa p j j).1.toNat
  a: ∀j,0<j→j<p.length→H j=true→A j=pY (p.getD (qa p j j).1.toNat default) (A (qa p j j).1.toNat) (qa p j j).2
  r: ∀j,j<p.length→R j=(H j&&nc (p.getD j default) (A j))
theorem kV{left:Int}{n:Nat}(h:0≤bH left n)(h0:0≤left):(n:Int)≤left:=by
 unfold bH at h
 split at h<;>omega
theorem f7{L S:Nat}{xs:List Int}(h:D.fact L (fU xs))(hl:xs.length≤S):D.fact S (fU xs):=by
 simp only[D.fact,cS,bB,Ds.fact]at h ⊢
 exact⟨hl,h.2⟩
theorem fD{α:Type}(f:α→Nat): ∀{xs:List α} {x:α},x∈xs→f x≤(xs.map f).sum
 | y::r,x,h=>by
  simp only[List.map_cons,List.sum_cons]
  rcases List.mem_cons.1 h with rfl|h
  omega
  have:=fD f h;omega
theorem ig{L S:Nat}{ts:List Tm}(h:D.fact L (oQ ts))(hl:szs Tm.size ts≤S):D.fact S (oQ ts):=by
 unfold szs at hl
 simp only[D.fact,cS,bB]at h ⊢
 refine⟨by omega,fun t ht=>?_⟩
 have h1:=h.2 t ht
 have h2:=fD Tm.size ht
 have h3:Tm.size t=t.xs.length:=rfl
 exact⟨h1.1,f7 h1.2.1 (by omega),ao⟩
theorem nI{L S:Nat}{b:List Nd}(h:D.fact L (lU b))(hl:szs Nd.size b≤S):D.fact S (lU b):=by
 unfold szs at hl
 simp only[D.fact,cS,bB]at h ⊢
 refine⟨by omega,fun s hs=>?_⟩
 have h1:=h.2 s hs
 have h2:=fD Nd.size hs
 have h3:Nd.size s=s.term.xs.length+s.mul.length:=rfl
 exact⟨h1.1,h1.2.1,h1.2.2.1,f7 h1.2.2.2.1 (by omega),f7 h1.2.2.2.2.1 (by omega),ao⟩
end Go.Al
/- What the laws of the certificates share: the types of their arguments; what came in reads as it did. -/
namespace Go.Proofs.YtokffjlobnhglaaGreatDoor
open Go.ChangeShapes Go.WideShapes Go.ChangeAt Go.RowKit Go.Al

theorem ownK:ownKnob Tryz.prog.godebug=none:=by kernel_rfl
theorem kidsK:Kids Tryz.prog (· < Tryz.prog.types.size):=kids_rows (by kernel_rfl) (by kernel_rfl)
theorem fullK: ∀t e,t<Tryz.prog.types.size→Tryz.prog.underlying t=some (.slice e)→0<Tryz.prog.cellsOf e:=slices_full_of Tryz.prog (by kernel_rfl)

abbrev tyI:List Ty:=[.int .i64]
abbrev tyT:List Ty:=[.int .i64,.slc tyI]
abbrev tyN:List Ty:=[.int .i64,.int .i64,.int .i64,.slc tyI,.slc tyI]
theorem of2:TyOf Tryz.prog 2 tyI:=.int Tryz.underlying2
theorem qp:TyOf Tryz.prog 94 [.slc tyI]:=.slc Tryz.underlying94 of2 (by kernel_rfl) (by decide)
theorem qo:TyOf Tryz.prog 96 tyT:=.struct Tryz.underlying96 (show FieldsAre Tryz.prog _ (tyI++([.slc tyI]++[])) 0 from .cons rfl (by kernel_rfl) of2 (.cons rfl (by kernel_rfl) qp .nil)) (by kernel_rfl)
theorem of22:TyOf Tryz.prog 22 [.slc tyT]:=.slc Tryz.underlying22 qo (by kernel_rfl) (by decide)
theorem qS:TyOf Tryz.prog 102 tyN:=.struct Tryz.underlying102 (show FieldsAre Tryz.prog _ (tyI++(tyI++(tyT++([.slc tyI]++[])))) 0 from
  .cons Z (by kernel_rfl) of2 (.cons Z (by kernel_rfl) of2 (.cons Z (by kernel_rfl) qo (.cons Z (by kernel_rfl) qp .nil)))) (by kernel_rfl)
theorem sM:TyOf Tryz.prog 58 [.slc tyN]:=.slc Tryz.underlying58 qS (by kernel_rfl) (by decide)
theorem of85:TyOf Tryz.prog 27 [.slc [.slc tyN]]:=.slc Tryz.underlying27 sM (by kernel_rfl) (by decide)

theorem fits_int{d:D}(h:Fits (.int .i64) d): ∃n,d= .int .i64 n:=by cases h;exact⟨_,rfl⟩
theorem fits_all{α:Type}{es:List Ty}{g:α→List D}(hg: ∀e,FitsL es e→∃a,e=g a): ∀{xs:List (List D)},FitsA es xs→∃ys:List α,xs=ys.map g
 | _,.nil=>⟨[],rfl⟩
 | _,.cons h1 h2=>by
  obtain⟨a,rfl⟩:=hg _ h1
  obtain⟨ys,rfl⟩:=fits_all hg h2
  exact⟨a::ys,Z⟩
theorem f6{d:D}(h:Fits (.slc tyI) d): ∃xs,d=fU xs:=by
 cases h with
 | slc h=>
  obtain⟨xs,rfl⟩:=fits_all (g:=fun n=>[D.int .i64 n]) (fun e he=>by
   cases he with
   | cons h1 h2=>
     cases h2
     obtain⟨n,rfl⟩:=fits_int h1
     exact⟨n,Z⟩) h
  exact⟨xs,Z⟩
theorem mo{e:List D}(h:FitsL tyT e): ∃t:Tm,e=t.cells:=by
 cases h with
 | cons h1 h2=>
  cases h2 with
  | cons h2 h3=>
   cases h3
   obtain⟨n,rfl⟩:=fits_int h1
   obtain⟨xs,rfl⟩:=f6 h2
   exact⟨⟨n,xs⟩,Z⟩
theorem fits_terms{d:D}(h:Fits (.slc tyT) d): ∃ts,d=oQ ts:=by
 cases h with
 | slc h=>
  obtain⟨xs,rfl⟩:=fits_all (g:=Tm.cells) (fun e he=>mo he) h
  exact⟨xs,Z⟩
theorem mq{e:List D}(h:FitsL tyN e): ∃n:Nd,e=n.cells:=by
 cases h with
 | cons a1 h=>
  cases h with
  | cons a2 h=>
   cases h with
   | cons a3 h=>
    cases h with
    | cons a4 h=>
     cases h with
     | cons a5 h=>
      cases h
      obtain⟨n1,rfl⟩:=fits_int a1
      obtain⟨n2,rfl⟩:=fits_int a2
      obtain⟨n3,rfl⟩:=fits_int a3
      obtain⟨x4,rfl⟩:=f6 a4
      obtain⟨x5,rfl⟩:=f6 a5
      exact⟨⟨n1,n2,⟨n3,x4⟩,x5⟩,Z⟩
theorem k7{d:D}(h:Fits (.slc tyN) d): ∃b,d=lU b:=by
 cases h with
 | slc h=>
  obtain⟨xs,rfl⟩:=fits_all (g:=Nd.cells) (fun e he=>mq he) h
  exact⟨xs,Z⟩
theorem nG{t:Ty}{e:List D}(h:FitsL [t] e): ∃d,e=[d]∧Fits t d:=by
 cases h with
 | cons a h=>cases h;exact⟨_,rfl,a⟩
theorem fits_nodess{d:D}(h:Fits (.slc [.slc tyN]) d): ∃b,d=fB b:=by
 cases h with
 | slc h=>
  obtain⟨xs,rfl⟩:=fits_all (g:=qb) (fun e he=>by
   obtain⟨d,rfl,h2⟩:=nG he
   obtain⟨b,rfl⟩:=k7 h2
   exact⟨b,Z⟩) h
  exact⟨xs,Z⟩
theorem rdl_rms{L:Nat}{w:World}{ok:Nat→Prop}{m:Nat→Go.Al.Loc}: ∀{ds:List D} {vs:List Value} {F:List Nat},RDL L w ok ds vs F→F=[]→RMs L w ok m (ds.map .d) vs
 | _,_,_,.nil,_=>.nil
 | _,_,_,.cons (F1:=F1) (F2:=F2) h1 h2,hF=>by
  obtain⟨rfl,rfl⟩:=List.append_eq_nil_iff.1 hF
  exact .cons (.d h1) (rdl_rms h2 Z)
section
variable{H:Type}{enc:TypeId×Value→H}{P:Program}{w w':World}
theorem oy(hs: ∀b,b<w.heap.size→Same w w' b){p:MemPlace}(hp:p.block<w.heap.size):w.sameAt w' p:=by
 cases p with
 | cell b o=>exact(hs b hp).cell
 | map b=>exact hs b hp
theorem trodAll_same(hs: ∀b,b<w.heap.size→Same w w' b){base:Nat}{sp:Nat→Bool}{held:Bool}: ∀{ts:List TypeId} {vs:List Value} {ds:List (DataW H)} {ps:List MemPlace},(∀p∈ps,p.block<w.heap.size)→DataW.TrodAll enc P w base sp held ts vs ds ps→DataW.TrodAll enc P w' base sp held ts vs ds ps
 | [],[],[],_,_,h=>h
 | _::_,_::_,_::_,_,hl,⟨p,q,⟨n,h1⟩,h2,e⟩=>
  ⟨p,q,⟨n,DataW.trod_carry n _ _ _ h1 (fun x hx=>oy hs (hl x (by rw[e];exact List.mem_append_left _ hx)))⟩,trodAll_same hs (fun x hx=>hl x (by rw[e];exact List.mem_append_right _ hx)) h2,e⟩
theorem k0(hf:Go.Al.Frame w w' [])(may:MemPlace→Prop):w.keptBut w' may:=by
 refine⟨hf.os,hf.output,fun i hi=>?_⟩
 have h:=hf.block i hi (by simp)
 unfold Same at h
 rw[h]
 cases hx:w.heap[i]? with
 | none=>trivial
 | some o=>
  cases o with
  | cells c t fr=>exact⟨Z,Z,Z,fun _ _=>rfl⟩
  | map es clock=>exact .inr ⟨Z,Z⟩
  | _=>rfl
theorem kZ(hf:Go.Al.Frame w w' []){a:Addr}(ha:a.block<w.heap.size):w'.frozen? a=w.frozen? a:=by
 have h:=hf.block a.block ha (by simp)
 unfold Same at h
 unfold World.frozen?
 rw[h]
theorem post_of_old{f:Func}{s:ChangeSpec}{apart fresh handsOn again:Bool}{args:Array Value}{v:Value}{ds gs:List (DataW H)}{before pa pv:List MemPlace}
    (hW:DataW.Whole enc P f.params.toList s.vars apart w args.toList ds gs before)
    (hres: ∀(b:Nat) (sp:Nat→Bool) (hd:Bool),DataW.TrodAll enc P w' b sp hd f.resultTypes.toList (v.resultList f.resultTypes.size) (s.fn H (ds++gs)).results [])
    (hargs: ∀sp:Nat→Bool,(∀p∈before,sp p.block=true)→DataW.TrodAll enc P w' 0 sp true f.params.toList args.toList (s.fn H (ds++gs)).args pa)
    (hvars: ∀sp:Nat→Bool,(∀p∈before,sp p.block=true)→DataW.TrodVars enc P w' sp s.vars (s.fn H (ds++gs)).vars pv)
    (hps:before=pa++pv) (hf:Go.Al.Frame w w' [])
    (hok: ∀(j:Nat) (t:TypeId) (r:Value),f.resultTypes[j]? = some t→(v.resultList f.resultTypes.size)[j]? = some r→Value.okWide P w' .any 0 t r) :
    s.post enc P f apart fresh handsOn again w args v w':=by
 have hlt:=hW.lt
 have hold: ∀p∈before,(fun b=>decide (b<w.heap.size)) p.block=true:=fun p hp=>by simpa using hlt p hp
 refine⟨ds,gs,before,[],pa,pv,hW,hres _ _ _,hargs _ hold,hvars _ hold,World.keptBut_mono (fun p hp=>⟨hp,?_⟩) (k0 hf (· ∈before)),fun _=>?_⟩
 rw[hps,List.mem_append]at hp
 exact Or.inr hp
 obtain⟨_,_,_,_,_,hz,hn⟩:=hW
 refine⟨hok,_,_,([]++pa)++pv,⟨[]++pa,pv,trodAll_append (hargs _ (fun _ _=>rfl)) (hres _ _ _),hvars _ (fun _ _=>rfl),Z,?_,?_⟩,?_⟩
 intro b off hp
 have hp':MemPlace.cell b off∈before:=by rw[hps];simpa using hp
 rw[kZ hf (hlt _ hp')]
 exact hz b off hp'
 intro ha
 have:=hn ha
 rw[hps]at this
 simpa using this
 intro p hp _
 rw[hps]
 simpa using hp
end

end Go.Proofs.YtokffjlobnhglaaGreatDoor
namespace Go.Al
variable{L:Nat}(h1:4096≤L)(h2:L≤1073741824)
abbrev kG(ps:List (List Nd)):B:=.row true 1 (ps.map qb)
theorem jj{α:Type}{f:α→Nat}{xs:List α}:szs f xs=xs.length+(xs.map f).sum:=rfl
theorem c43{L:Nat}(h1:4096≤L)(h2:L≤9223372036854775807){ts:List (List Nd)}{left:Int}(hl0:0≤left)(hl1:left≤1048576):MC Tryz.prog L 10 [.c (.d (fB ts)),eI left] [] (Plain (eI (bH left (Al.szs (Al.szs Nd.size) ts)))):=by
 refine ac ?_ Z
 have O:=fC (nt:=27) h1 h2
 refine MC.body O Tryz.func10 (by kernel_rfl) Z Z (Nat.le_of_ble_eq_true Z) (fun hF=>?_)
 have hl:ts.length≤L:=by simpa[As.fact,A.fact,M.fact,D.fact,Ds.fact]using hF.1.1
 refine ab (js Z (aX (aa Z ?_)))
 first|refine bA Z ?_|refine js Z ?_|refine aQ Z Z ?_
 first|refine ji Z ?_|refine aQ Z Z ?_
 refine js Z (jn (af (ab (aa Z (jn (al Z (fun z11=>?_) (fun z11=>?_)))))))
 try simp only[az]at z11
 refine ab (js Z (jr ?_))
 refine am Z ?_
 rw[show bH left (Al.szs (Al.szs Nd.size) ts)= -1 from if_pos (by rw[jj];omega)]
 try simp only[az]at z11
 refine ae (af (ab (js Z (jn (ak (aq (X:=Nat) (fun i=>⟨[(0,.c (.d (fB ts))),(1,eI (left-ts.length-((ts.take i).map (Al.szs Nd.size)).sum)),(5,eI i)],[]⟩) (fun i=>i≤ts.length∧(0:Int)≤left-ts.length-((ts.take i).map (Al.szs Nd.size)).sum) (fun i=>ts.length-i) 0 (Ent.env ⟨Z,by simp[ap],Z,ao⟩) ?_ (fun i hi=>?_)))))))
 exact⟨bZ _,by simp;omega⟩
 refine af (ab (aa Z ?_))
 first|refine bA Z ?_|refine js Z ?_|refine aQ Z Z ?_
 refine js Z (jn (al Z (fun z15=>?_) (fun z15=>?_)))
 try simp only[az]at z15
 refine ae (af (ak (ab (aa Z ?_))))
 first|refine eZ Z Z ?_|refine aQ Z Z ?_
 refine aa Z (aB Z (c30 h1 h2 hi.2 (by omega)) 24000 Z (js Z (aX (aa Z (jn (al Z (fun z25=>?_) (fun z25=>?_)))))))
 try simp only[az]at z25
 refine ab (js Z (jr ?_))
 refine am Z ?_
 have e:=cK (Al.szs Nd.size) ts i (by omega)
 have e3:=i9 (Al.szs Nd.size) ts (i+1)
 rw[Int.toNat_natCast]at z25
 rw[show bH left (Al.szs (Al.szs Nd.size) ts)= -1 from if_pos (by unfold bH at z25;rw[jj];split at z25<;>omega)]
 try simp only[az]at z25
 refine ae (ag (js Z ?_))
 first|refine ji Z ?_|refine aQ Z Z ?_
 refine js Z (jn ?_)
 have e:=cK (Al.szs Nd.size) ts i (by omega)
 have e2:bH (left-ts.length-((ts.take i).map (Al.szs Nd.size)).sum) ((Al.szs Nd.size) (ts.getD i default))=left-ts.length-((ts.take (i+1)).map (Al.szs Nd.size)).sum:=by
  unfold bH at z25 ⊢
  rw[Int.toNat_natCast]at z25
  split at z25<;>omega
 refine⟨i+1,Ent.env ⟨Z,?_,Z,ao⟩,⟨by omega,?_⟩,by omega⟩
 rw[←e2];rfl
 rw[←e2];rw[Int.toNat_natCast]at z25;omega
 try simp only[az]at z15
 refine aL (ab (aa Z (jr ?_)))
 refine am Z ?_
 obtain rfl:i=ts.length:=by omega
 have e4:=hi.2
 rw[List.take_length]at e4 ⊢
 rw[show bH left (Al.szs (Al.szs Nd.size) ts)=left-ts.length-(ts.map (Al.szs Nd.size)).sum from by rw[jj];unfold bH;rw[if_neg (by omega)];omega]
theorem c46{ts:List (List Nd)}:MQ h1 h2 14 [.c (.d (fB ts))] [] (Rows (.c (.rs 0 0 ts.length)) [kG ts]):=by
 refine bW (jB 23 h1 h2 Tryz.func14 Z fun O hF=>?_)
 have hl:ts.length≤L:=by simpa[As.fact,A.fact,M.fact,D.fact,Ds.fact]using hF.1.1
 refine ab (js Z (aX (js Z ?_)))
 first|refine bA Z ?_|refine js Z ?_|refine aQ Z Z ?_
 refine bC (eK O Z Z Z Z Z Z Z Z Z (by first|omega|(simp at *;omega)) (by first|omega|(simp at *;omega)) (by first|omega|(simp at *;omega)) (by first|omega|(dsimp only;omega)|(simp only[az]at *;omega)) (by first|omega|(simp at *;omega)) Z Z Z) Z (js Z (jn (af (ab (js Z (jn (ak (aq (X:=Nat×List (List Nd)) (fun x=>⟨[(0,.c (.d (fB ts))),(3,.c (.rs 7 0 ts.length)),(4,eI x.1)],[(7,kG x.2)]⟩) (fun x=>x.1≤ts.length∧x.2.length=ts.length∧∀j,j<x.1→x.2[j]? = ts[j]?) (fun x=>ts.length-x.1) (0,List.replicate ts.length []) ((Ent.rowLe 7 Z (NLess.replicate (.cons (.nil (sz:=5)) .nil))).trans (Ent.to ⟨Z,Z,Z,ao⟩ (by simp[ins,cy,kG]))) ?_ (fun x hi=>?_)))))))))
 exact⟨bZ _,List.length_replicate,fun j hj=>absurd hj (Nat.not_lt_zero j)⟩
 refine af (ab (aa Z ?_))
 first|refine bA Z ?_|refine js Z ?_|refine aQ Z Z ?_
 refine js Z (jn (al Z (fun z11=>?_) (fun z11=>?_)))
 try simp only[az]at z11
 refine ae (af (ak (ag (aJ Z ?_))))
 first|refine eZ Z Z ?_|refine aQ Z Z ?_
 refine js Z (bl O (B0:=21000) Z Z Z Z (c33 h1 h2) (aj Z) Z Z Z Z Z Z ?_)
 first|refine eZ Z Z ?_|refine aQ Z Z ?_
 refine bC (cO (ex:=qb (x.2.getD x.1 default)) (xs':=(x.2.set x.1 (ts.getD x.1 default)).map qb) O Z Z Z Z Z Z Z (.rs Z (by simp) .nil) Z Z Z Z Z Z (by simp[hi.2.1,show x.1<ts.length by omega]) (by simp[List.map_set])) Z (jn (ag (js Z ?_)))
 first|refine ji Z ?_|refine aQ Z Z ?_
 refine js Z (jn ?_)
 refine⟨(x.1+1,x.2.set x.1 (ts.getD x.1 default)),Ent.to ⟨Z,Z,Z,ao⟩ Z,⟨by omega,by simp[hi.2.1],fun j hj=>?_⟩,by omega⟩
 rw[List.getElem?_set]
 split
 rename_i e;subst e;simp[hi.2.1,show x.1<ts.length by omega]
 exact hi.2.2 j (by omega)
 try simp only[az]at z11
 refine aL (ab (aa Z (jr ?_)))
 have e:x.2=ts:=List.ext_getElem? fun j=>by
  rcases Nat.lt_or_ge j x.1 with h|h
  ·
   exact hi.2.2 j h
  ·
   rw[List.getElem?_eq_none (by omega),List.getElem?_eq_none (by omega)]
 refine⟨.inl Z,_,cp,_,Z,[7],by decide,Z,Z,?_⟩
 rw[←e];rfl
theorem sN{L:Nat}(h1:4096≤L)(h2:L≤1073741824){ps:List (List Nd)}:MC Tryz.prog L 14 [iQ ps] [] (Plain (iQ ps)):=(c46 h1 h2).frozen (.v (.c (.whole rfl (cS _).symm)))
theorem c49{xs ys:List (List Nd)}:MQ h1 h2 18 [.c (.d (fB xs)),.c (.d (fB ys))] [] (Plain (eB (decide (xs=ys)))):=by
 refine ac ?_ Z
 refine jB 27 h1 h2 Tryz.func18 Z fun O hF=>?_
 have hl:xs.length≤L:=by simpa[As.fact,A.fact,M.fact,D.fact,Ds.fact]using hF.1.1
 have hl2:ys.length≤L:=by simpa[As.fact,A.fact,M.fact,D.fact,Ds.fact]using hF.2.1.1
 refine ab (js Z (jn (af (ab (js Z (bA Z (js Z (bA Z (js Z (jn (al Z (fun z10=>?_) (fun z10=>?_))))))))))))
 try simp only[az]at z10
 refine ab (js Z (jr ?_))
 refine am Z ?_
 rw[decide_eq_false (fun e=>by subst e;simp at z10)]
 try simp only[az]at z10
 refine ae (af (ab (js Z (jn (ak (aq (X:=Nat) (fun i=>⟨[(0,.c (.d (fB xs))),(1,.c (.d (fB ys))),(5,eI i)],[]⟩) (fun i=>i≤xs.length∧∀j,j<i→xs[j]? = ys[j]?) (fun i=>xs.length-i) 0 (Ent.env ⟨Z,Z,Z,ao⟩) ?_ (fun i hi=>?_)))))))
 exact⟨bZ _,fun j hj=>absurd hj (Nat.not_lt_zero j)⟩
 refine af (ab (aa Z (bA Z (js Z (jn (al Z (fun z14=>?_) (fun z14=>?_)))))))
 try simp only[az]at z14
 refine ae (af (ak (af (kA [_,_,_,_,_,_,_,_,_,_] [bp,bp,aT [0,1],aT [0,1,2],bp,bp,aT [4,5],aT [4,5,6],pe (rg 0 8) 0,pn (rg 0 9) 1 1] [8] [_,_] (kc Z (kc Z (ai (vD Z) (kc Z (kc Z (kc Z (ai (vD Z) (kc Z (ai (aD O (B0:=26000) Z Z Z Z (c37 h1 h2) (aj Z) Z Z Z Z Z) (kc Z trivial)))))))))) ?_))))
 refine al Z (fun z26=>?_) (fun z26=>?_)
 try simp only[az]at z26
 refine ab (js Z (jr ?_))
 refine am Z ?_
 rw[decide_eq_false (fun e=>by subst e;simp at z26)]
 try simp only[az]at z26
 refine ae (ag (js Z (ji Z (js Z (jn ?_)))))
 refine⟨i+1,Ent.env ⟨Z,Z,Z,ao⟩,⟨by omega,fun j hj=>?_⟩,by omega⟩
 rcases Nat.lt_or_ge j i with h|h
 exact hi.2 j h
 obtain rfl:j=i:=by omega
 rw[Int.toNat_natCast,au (by omega),au (by omega)]at z26
 rw[List.getElem?_eq_getElem (by omega),List.getElem?_eq_getElem (by omega),z26]
 try simp only[az]at z14
 refine aL (ab (js Z (jr ?_)))
 refine am Z ?_
 have e:xs=ys:=List.ext_getElem? fun j=>by
  rcases Nat.lt_or_ge j i with h|h
  ·
   exact hi.2 j h
  ·
   rw[List.getElem?_eq_none (by omega),List.getElem?_eq_none (by omega)]
 rw[decide_eq_true e]
theorem mr{L S:Nat}{ps:List (List Nd)}(h:D.fact L (fB ps))(hl:szs (szs Nd.size) ps≤S):D.fact S (fB ps):=by
 unfold szs at hl
 simp only[D.fact,cS,bB]at h ⊢
 refine⟨by omega,fun p hp=>?_⟩
 have h1:=h.2 p hp
 have h2:=fD (szs Nd.size) hp
 exact⟨nI h1.1 (by unfold szs at h2 ⊢;omega),ao⟩
structure NdAt(n:Nat)(x:Nd):Prop where
  close:x.kind=1→n+1≤x.mul.length∧x.mul.length≤20
  fact:x.kind=3→0≤x.fact∧x.fact≤19
  kind:x.kind=1∨x.kind=2∨x.kind=3
structure MvOk(rQ to:Int→Int)(x:Nd):Prop where
  kind:x.kind=1∨x.kind=2∨x.kind=3
  fact:x.kind=3→0≤x.fact∧x.fact≤19
  len:x.kind=1→x.mul.length≤20
  cntb:x.kind=1→0≤rQ x.mul.length∧rQ x.mul.length≤1000
  rng:x.kind=1→∀i:Nat,i<x.mul.length→to i<rQ x.mul.length
structure In where
  op:Int
  a:Int
  deriving Inhabited,DecidableEq
abbrev In.cells(x:In):List D:=[.int .i64 x.op,.int .i64 x.a]
abbrev iI(c:List In):D:=.slc 2 (c.map In.cells)
abbrev i8(c:List In):A:=.c (.d (iI c))
abbrev oe(c:List In):B:=.row true 2 (c.map In.cells)
structure Pt where
  k:Int
  fs:List Tm
  deriving Inhabited,DecidableEq
abbrev Pt.cells(p:Pt):List D:=[.int .i64 p.k,oQ p.fs]
abbrev gx(ps:List Pt):D:=.slc 2 (ps.map Pt.cells)
abbrev oi(ps:List Pt):A:=.c (.d (gx ps))
abbrev oc(ps:List Pt):B:=.row true 2 (ps.map Pt.cells)
def Pt.size(p:Pt):Nat:=szs Tm.size p.fs
structure An where
  pre:List Tm
  post:List Tm
  code:List In
  pts:List Pt
  deriving Inhabited,DecidableEq
abbrev An.data(a:An):List D:=[oQ a.pre,oQ a.post,iI a.code,gx a.pts]
abbrev n8(a:An):A:=.agg (a.data.map .d)
def An.size(a:An):Nat:=szs Tm.size a.pre+szs Tm.size a.post+a.code.length+szs Pt.size a.pts
def aK(x:In):Bool:=
  if x.op=0∨x.op=4 then gL x.a else if x.op=1∨x.op=2 then cC 0 3 x.a else if x.op=5∨x.op=6 then cC 0 79 x.a else if x.op=9 then cC 0 3 x.a
  else if x.op=3∨x.op=7∨x.op=8∨x.op=10∨x.op=11 then decide (x.a=0)else false
def dh(c:List In):Bool:=c.all aK&&cC 1 80 c.length
def mL(n:Nat)(ps:List Pt)(i:Nat):Bool:=cC 0 ((n:Int)-1) (ps.getD i default).k&&bh (ps.getD i default).fs 6&& !(decide (0<i)&&decide ((ps.getD i default).k≤(ps.getD (i-1) default).k))
def ma(n:Nat)(ps:List Pt):Bool:=(List.range ps.length).all (mL n ps)
def cU(a:An):Bool:=dh a.code&&(bh a.pre 6&&(bh a.post 6&&(decide (a.pts.length≤8)&&ma a.code.length a.pts)))
theorem lG{n:Nat}{ps:List Pt}(h: ∀j,j<ps.length→mL n ps j=true):ma n ps=true:=List.all_eq_true.2 fun j hj=>h j (List.mem_range.1 hj)
theorem jW{n:Nat}{ps:List Pt}(j:Nat)(hj:j<ps.length)(h:mL n ps j=false):ma n ps=false:=by
 cases e:ma n ps with
 | false=>rfl
 | true=>have:=List.all_eq_true.1 e j (List.mem_range.2 hj);rw[h]at this;cases this
def pE(x:In):Bool:=decide (x.op=5)||decide (x.op=6)
def sJ(ps:List Pt)(k:Int):Bool:=ps.any fun p=>decide (p.k=k)
def qU(c:List In)(k:Int):Bool:=c.any fun x=>pE x&&decide (x.a=k)
def plB(c:List In)(ps:List Pt)(k:Int):Bool:=qU c k||sJ ps k
def qi(pl:Int→Bool):Nat→List In→List In
  | _,[]=>[]
  | k,x::r=>if pl (k:Int)=true then[]else x::qi pl (k+1) r
def sgt(c:List In)(ps:List Pt)(k:Nat):List In:=match c.drop k with
  | []=>[]
  | x::r=>x::qi (plB c ps) (k+1) r
def jO:List Int→List In→Bool
  | [],_=>true
  | _::_,[]=>false
  | o::os,x::s=>decide (x.op=o)&&jO os s
def ne(x:In):Bool:=decide (x.op=1)||decide (x.op=3)||decide (x.op=7)
def qR(s:List In):Nat×List In:=
  let x:=s.getD 0 default
  let y:=s.getD 1 default
  if jO [0,4] s=true∧gL (x.a*y.a)=true then(2,[⟨0,x.a*y.a⟩])
  else if jO [0,0,3] s=true∧gL (x.a+y.a)=true then(3,[⟨0,x.a+y.a⟩])
  else if jO [0,1,3] s=true∧x.a=0 then(3,[y])
  else if jO [0,1,4,3] s=true∧x.a=0 then(4,[y,s.getD 2 default])
  else if(ne x=true∨x.op=4)∧jO [x.op,0,3] s=true∧y.a=0 then(3,[x])
  else if ne x=true∧jO [x.op,4] s=true∧y.a=1 then(2,[x])
  else if jO [4,4] s=true∧gL (x.a*y.a)=true then(2,[⟨4,x.a*y.a⟩])
  else(0,[])
def sH(k less:Int)(x:In):In:=if pE x=true∧k<x.a then⟨x.op,x.a-less⟩else x
def sPt(k less:Int)(p:Pt):Pt:=if k<p.k then⟨p.k-less,p.fs⟩else p
def sF(a:An)(k n:Nat)(by':List In):An:=
  ⟨a.pre,a.post,(a.code.take k++by'++a.code.drop (k+n)).map (sH k ((n:Int)-by'.length)),a.pts.map (sPt k ((n:Int)-by'.length))⟩
abbrev lp(a:An)(k:Nat):Nat×List In:=qR (sgt a.code a.pts k)
def oV(a:An):Nat→Nat→Option An
  | 0,_=>none
  | f+1,k=>if 0<(lp a k).1 then some (sF a k (lp a k).1 (lp a k).2)else oV a f (k+1)
def qV(a:An):Option An:=oV a a.code.length 0
def o0:Nat→An→An
  | 0,a=>a
  | f + 1,a=>match qV a with
    | none=>a
    | some b=>o0 f b
def lx(a:An):An:=o0 a.code.length a
structure AOk(a:An):Prop where
  code: ∀x∈a.code,aK x=true
  pts: ∀p∈a.pts,0≤p.k∧p.k≤79
  len:a.code.length≤80
  np:a.pts.length≤8
  npre:a.pre.length≤6
  npost:a.post.length≤6
structure RuOk(s:List In)(r:Nat×List In):Prop where
  n:r.1≤s.length
  lt:r.2.length<r.1
  one:1≤r.2.length
  two:r.2.length≤2
  jmp: ∀x∈r.2,pE x=false
  ok:(∀x∈s,aK x=true)→∀x∈r.2,aK x=true
theorem c65{L:Nat}(h1:4096≤L)(h2:L≤9223372036854775807){xs:List In}{left:Int}(hl0:0≤left)(hl1:left≤1048576):MC Tryz.prog L 20 [i8 xs,eI left] [] (Plain (eI (bH left xs.length))):=by
 refine ac ?_ Z
 have O:=fC (nt:=12) h1 h2
 refine MC.body O Tryz.func20 (by kernel_rfl) Z Z (Nat.le_of_ble_eq_true Z) (fun hF=>?_)
 have hl:xs.length≤L:=by simpa[As.fact,A.fact,M.fact,D.fact,Ds.fact]using hF.1.1
 refine ab (js Z (aX (aa Z ?_)))
 first|refine bA Z ?_|refine js Z ?_|refine aQ Z Z ?_
 first|refine ji Z ?_|refine aQ Z Z ?_
 refine js Z (jn (af (ab (aa Z (jn (al Z (fun z10=>?_) (fun z10=>?_)))))))
 try simp only[az]at z10
 refine ab (js Z (jr ?_))
 refine am Z ?_
 rw[show bH left xs.length= -1 from if_pos (by omega)]
 try simp only[az]at z10
 refine ae (ab (aa Z (jr ?_)))
 refine am Z ?_
 rw[show bH left xs.length=left-xs.length from if_neg (by omega)]
theorem tg{L:Nat}(h1:4096≤L)(h2:L≤9223372036854775807){t:Pt}{left:Int}(hl0:0≤left)(hl1:left≤1048576):MC Tryz.prog L 54 [.agg (t.cells.map .d),eI left] [] (Plain (eI (bH left t.size))):=by
 refine ac ?_ Z
 have O:=fC (nt:=12) h1 h2
 refine MC.body O Tryz.func54 (by kernel_rfl) Z Z (Nat.le_of_ble_eq_true Z) (fun hF=>?_)
 refine ab (jx Z (js Z (aX (bc Z (aB Z (r4 (ts:=t.fs) h1 h2 hl0 hl1) 9000 Z (js Z (jn (af (ab (aa Z (jn (al Z (fun z10=>?_) (fun z10=>?_)))))))))))))
 try simp only[az]at z10
 refine ab (js Z (jr ?_))
 refine am Z ?_
 have:bH left t.size= -1:=by unfold bH Pt.size at *;split at z10<;>simp_all<;>omega
 rw[this]
 try simp only[az]at z10
 refine ae (ab (aa Z (jr ?_)))
 refine am Z ?_
 rfl
theorem c66{L:Nat}(h1:4096≤L)(h2:L≤9223372036854775807){ts:List Pt}{left:Int}(hl0:0≤left)(hl1:left≤1048576):MC Tryz.prog L 21 [.c (.d (gx ts)),eI left] [] (Plain (eI (bH left (Al.szs Pt.size ts)))):=by
 refine ac ?_ Z
 have O:=fC (nt:=27) h1 h2
 refine MC.body O Tryz.func21 (by kernel_rfl) Z Z (Nat.le_of_ble_eq_true Z) (fun hF=>?_)
 have hl:ts.length≤L:=by simpa[As.fact,A.fact,M.fact,D.fact,Ds.fact]using hF.1.1
 refine ab (js Z (aX (aa Z ?_)))
 first|refine bA Z ?_|refine js Z ?_|refine aQ Z Z ?_
 first|refine ji Z ?_|refine aQ Z Z ?_
 refine js Z (jn (af (ab (aa Z (jn (al Z (fun z11=>?_) (fun z11=>?_)))))))
 try simp only[az]at z11
 refine ab (js Z (jr ?_))
 refine am Z ?_
 rw[show bH left (Al.szs Pt.size ts)= -1 from if_pos (by unfold Al.szs;omega)]
 try simp only[az]at z11
 refine ae (af (ab (js Z (jn (ak (aq (X:=Nat) (fun i=>⟨[(0,.c (.d (gx ts))),(1,eI (left-ts.length-((ts.take i).map Pt.size).sum)),(5,eI i)],[]⟩) (fun i=>i≤ts.length∧(0:Int)≤left-ts.length-((ts.take i).map Pt.size).sum) (fun i=>ts.length-i) 0 (Ent.env ⟨Z,by simp[ap],Z,ao⟩) ?_ (fun i hi=>?_)))))))
 exact⟨bZ _,by simp;omega⟩
 refine af (ab (aa Z ?_))
 first|refine bA Z ?_|refine js Z ?_|refine aQ Z Z ?_
 refine js Z (jn (al Z (fun z15=>?_) (fun z15=>?_)))
 try simp only[az]at z15
 refine ae (af (ak (ab (aa Z ?_))))
 first|refine eZ Z Z ?_|refine aQ Z Z ?_
 refine aa Z (aB Z (tg h1 h2 hi.2 (by omega)) 24000 Z (js Z (aX (aa Z (jn (al Z (fun z25=>?_) (fun z25=>?_)))))))
 try simp only[az]at z25
 refine ab (js Z (jr ?_))
 refine am Z ?_
 have e:=cK Pt.size ts i (by omega)
 have e3:=i9 Pt.size ts (i+1)
 rw[Int.toNat_natCast]at z25
 rw[show bH left (Al.szs Pt.size ts)= -1 from if_pos (by unfold bH at z25;unfold Al.szs;split at z25<;>omega)]
 try simp only[az]at z25
 refine ae (ag (js Z ?_))
 first|refine ji Z ?_|refine aQ Z Z ?_
 refine js Z (jn ?_)
 have e:=cK Pt.size ts i (by omega)
 have e2:bH (left-ts.length-((ts.take i).map Pt.size).sum) (Pt.size (ts.getD i default))=left-ts.length-((ts.take (i+1)).map Pt.size).sum:=by
  unfold bH at z25 ⊢
  rw[Int.toNat_natCast]at z25
  split at z25<;>omega
 refine⟨i+1,Ent.env ⟨Z,?_,Z,ao⟩,⟨by omega,?_⟩,by omega⟩
 rw[←e2];rfl
 rw[←e2];rw[Int.toNat_natCast]at z25;omega
 try simp only[az]at z15
 refine aL (ab (aa Z (jr ?_)))
 refine am Z ?_
 obtain rfl:i=ts.length:=by omega
 have e4:=hi.2
 rw[List.take_length]at e4 ⊢
 rw[show bH left (Al.szs Pt.size ts)=left-ts.length-(ts.map Pt.size).sum from by unfold bH Al.szs;rw[if_neg (by omega)];omega]
theorem c22{L:Nat}(h1:4096≤L)(h2:L≤9223372036854775807){a:An}{left:Int}(hl0:0≤left)(hl1:left≤1048576):MC Tryz.prog L 9 [n8 a,eI left] [] (Plain (eI (bH left a.size))):=by
 refine ac ?_ Z
 have O:=fC (nt:=30) h1 h2
 refine MC.body O Tryz.func9 (by kernel_rfl) Z Z (Nat.le_of_ble_eq_true Z) (fun hF=>?_)
 refine ab (jx Z (js Z (aX (bc Z (aB Z (r4 (ts:=a.pre) h1 h2 hl0 hl1) 9000 Z (js Z (jn (af (ab (aa Z (jn (al Z (fun z10=>?_) (fun z10=>?_)))))))))))))
 try simp only[az]at z10
 refine ab (js Z (jr ?_))
 refine am Z ?_
 unfold An.size
 rw[Nat.add_assoc,Nat.add_assoc,gC _ z10]
 try simp only[az]at z10
 refine ae (ab (bc Z ?_))
 have le1:=gP hl0 (szs Tm.size a.pre)
 refine aB Z (r4 (ts:=a.post) h1 h2 z10 (by omega)) 15000 Z (js Z (jn (af (ab (aa Z (jn (al Z (fun z16=>?_) (fun z16=>?_))))))))
 try simp only[az]at z16
 refine ab (js Z (jr ?_))
 refine am Z ?_
 unfold An.size
 rw[di _ z10]at z16
 rw[Nat.add_assoc,gC _ z16]
 try simp only[az]at z16
 refine ae (ab (bc Z ?_))
 rw[di _ z10]at z16 ⊢
 have le2:=gP hl0 (szs Tm.size a.pre+szs Tm.size a.post)
 refine aB Z (c65 (xs:=a.code) h1 h2 z16 (by omega)) 21000 Z (js Z (jn (af (ab (aa Z (jn (al Z (fun z22=>?_) (fun z22=>?_))))))))
 try simp only[az]at z22
 refine ab (js Z (jr ?_))
 refine am Z ?_
 unfold An.size
 rw[di _ z16]at z22
 rw[gC _ z22]
 try simp only[az]at z22
 refine ae (ab (bc Z ?_))
 rw[di _ z16]at z22 ⊢
 have le3:=gP hl0 (szs Tm.size a.pre+szs Tm.size a.post+a.code.length)
 refine aB Z (c66 (ts:=a.pts) h1 h2 z22 (by omega)) 27000 Z (js Z (jn (af (ab (aa Z (jn (al Z (fun z28=>?_) (fun z28=>?_))))))))
 try simp only[az]at z28
 refine ab (js Z (jr ?_))
 refine am Z ?_
 unfold An.size
 rw[di _ z22]at z28
 unfold bH at z28 ⊢
 split at z28
 rw[if_pos (by omega)]
 omega
 try simp only[az]at z28
 refine ae (ab (aa Z (jr ?_)))
 refine am Z ?_
 rw[di _ z22]
 rfl
variable{x:In}
theorem te:MQ h1 h2 72 [.agg (x.cells.map .d)] [] (Rows (.agg [.d (.int .i64 x.op),.d (.int .i64 x.a)]) []):=by
 refine bW (jB 11 h1 h2 Tryz.func72 Z fun O hF=>?_)
 refine ab (jx Z (aW ?_))
 refine jl Z (aW ?_)
 refine aX (jl Z (aW ?_))
 refine aX (bc Z (jo Z (aW ?_)))
 refine aX (bc Z (jo Z (aW ?_)))
 refine aX (js Z (jo Z (aW ?_)))
 refine jr ?_
 refine⟨.inl Z,_,cp,_,Z,[],by decide,Z,Z,Z⟩
theorem c69{ts:List In}:MQ h1 h2 32 [.c (.d (iI ts))] [] (Rows (.c (.rs 0 0 ts.length)) [oe ts]):=by
 refine bW (jB 23 h1 h2 Tryz.func32 Z fun O hF=>?_)
 have hl:ts.length≤L:=by simpa[As.fact,A.fact,M.fact,D.fact,Ds.fact]using hF.1.1
 refine ab (js Z (aX (js Z ?_)))
 first|refine bA Z ?_|refine js Z ?_|refine aQ Z Z ?_
 refine bC (eK O Z Z Z Z Z Z Z Z Z (by first|omega|(simp at *;omega)) (by first|omega|(simp at *;omega)) (by first|omega|(simp at *;omega)) (by first|omega|(dsimp only;omega)|(simp only[az]at *;omega)) (by first|omega|(simp at *;omega)) Z Z Z) Z (js Z (jn (af (ab (js Z (jn (ak (aq (X:=Nat×List In) (fun x=>⟨[(0,.c (.d (iI ts))),(3,.c (.rs 7 0 ts.length)),(4,eI x.1)],[(7,oe x.2)]⟩) (fun x=>x.1≤ts.length∧x.2.length=ts.length∧∀j,j<x.1→x.2[j]? = ts[j]?) (fun x=>ts.length-x.1) (0,List.replicate ts.length ⟨0,0⟩) ((Ent.rowLe 7 Z (NLess.replicate (lY (.cons .refl .nil)))).trans (Ent.to ⟨Z,Z,Z,ao⟩ (by simp[ins,cy,oe]))) ?_ (fun x hi=>?_)))))))))
 exact⟨bZ _,List.length_replicate,fun j hj=>absurd hj (Nat.not_lt_zero j)⟩
 refine af (ab (aa Z ?_))
 first|refine bA Z ?_|refine js Z ?_|refine aQ Z Z ?_
 refine js Z (jn (al Z (fun z11=>?_) (fun z11=>?_)))
 try simp only[az]at z11
 refine ae (af (ak (ag (aJ Z ?_))))
 first|refine eZ Z Z ?_|refine aQ Z Z ?_
 refine js Z (bl O (B0:=21000) Z Z Z Z (te h1 h2) (aj Z) Z Z Z Z Z Z ?_)
 first|refine eZ Z Z ?_|refine aQ Z Z ?_
 refine bC (cO (ex:=In.cells (x.2.getD x.1 default)) (xs':=(x.2.set x.1 (ts.getD x.1 default)).map In.cells) O Z Z Z Z Z Z Z (.d Z (.d Z .nil)) Z Z Z Z Z Z (by simp[hi.2.1,show x.1<ts.length by omega]) (by simp[List.map_set])) Z (jn (ag (js Z ?_)))
 first|refine ji Z ?_|refine aQ Z Z ?_
 refine js Z (jn ?_)
 refine⟨(x.1+1,x.2.set x.1 (ts.getD x.1 default)),Ent.to ⟨Z,Z,Z,ao⟩ Z,⟨by omega,by simp[hi.2.1],fun j hj=>?_⟩,by omega⟩
 rw[List.getElem?_set]
 split
 rename_i e;subst e;simp[hi.2.1,show x.1<ts.length by omega]
 exact hi.2.2 j (by omega)
 try simp only[az]at z11
 refine aL (ab (aa Z (jr ?_)))
 have e:x.2=ts:=List.ext_getElem? fun j=>by
  rcases Nat.lt_or_ge j x.1 with h|h
  ·
   exact hi.2.2 j h
  ·
   rw[List.getElem?_eq_none (by omega),List.getElem?_eq_none (by omega)]
 refine⟨.inl Z,_,cp,_,Z,[7],by decide,Z,Z,?_⟩
 rw[←e];rfl
theorem td{p:Pt}:MQ h1 h2 73 [.agg (p.cells.map .d)] [] (Rows (.agg [.d (.int .i64 p.k),.rs 0 0 p.fs.length]) [lZ p.fs]):=by
 refine bW (jB 12 h1 h2 Tryz.func73 Z fun O hF=>?_)
 refine ab (jx Z (aW ?_))
 refine jl Z (aW ?_)
 refine aX (jl Z (aW ?_))
 refine aX (bc Z (jo Z (aW ?_)))
 refine aX (aa Z (bl O (B0:=10000) Z Z Z Z (r3 h1 h2) (aj Z) Z Z Z Z Z Z (aW ?_)))
 refine js Z (jo Z (aW ?_))
 refine aX (js Z (jo Z (aW ?_)))
 refine jr ?_
 refine⟨.inl Z,_,cp,_,Z,[10000],by decide,Z,Z,Z⟩
theorem c70{ts:List Pt}:MQ h1 h2 33 [.c (.d (gx ts))] [] (Rows (.c (.rs 0 0 ts.length)) [oc ts]):=by
 refine bW (jB 23 h1 h2 Tryz.func33 Z fun O hF=>?_)
 have hl:ts.length≤L:=by simpa[As.fact,A.fact,M.fact,D.fact,Ds.fact]using hF.1.1
 refine ab (js Z (aX (js Z ?_)))
 first|refine bA Z ?_|refine js Z ?_|refine aQ Z Z ?_
 refine bC (eK O Z Z Z Z Z Z Z Z Z (by first|omega|(simp at *;omega)) (by first|omega|(simp at *;omega)) (by first|omega|(simp at *;omega)) (by first|omega|(dsimp only;omega)|(simp only[az]at *;omega)) (by first|omega|(simp at *;omega)) Z Z Z) Z (js Z (jn (af (ab (js Z (jn (ak (aq (X:=Nat×List Pt) (fun x=>⟨[(0,.c (.d (gx ts))),(3,.c (.rs 7 0 ts.length)),(4,eI x.1)],[(7,oc x.2)]⟩) (fun x=>x.1≤ts.length∧x.2.length=ts.length∧∀j,j<x.1→x.2[j]? = ts[j]?) (fun x=>ts.length-x.1) (0,List.replicate ts.length ⟨0,[]⟩) ((Ent.rowLe 7 Z (NLess.replicate (lY (.cons (.nil (sz:=2)) .nil)))).trans (Ent.to ⟨Z,Z,Z,ao⟩ (by simp[ins,cy,oc]))) ?_ (fun x hi=>?_)))))))))
 exact⟨bZ _,List.length_replicate,fun j hj=>absurd hj (Nat.not_lt_zero j)⟩
 refine af (ab (aa Z ?_))
 first|refine bA Z ?_|refine js Z ?_|refine aQ Z Z ?_
 refine js Z (jn (al Z (fun z11=>?_) (fun z11=>?_)))
 try simp only[az]at z11
 refine ae (af (ak (ag (aJ Z ?_))))
 first|refine eZ Z Z ?_|refine aQ Z Z ?_
 refine js Z (bl O (B0:=21000) Z Z Z Z (td h1 h2) (aj Z) Z Z Z Z Z Z ?_)
 first|refine eZ Z Z ?_|refine aQ Z Z ?_
 refine bC (cO (ex:=Pt.cells (x.2.getD x.1 default)) (xs':=(x.2.set x.1 (ts.getD x.1 default)).map Pt.cells) O Z Z Z Z Z Z Z (.d Z (.rs Z (by simp) .nil)) Z Z Z Z Z Z (by simp[hi.2.1,show x.1<ts.length by omega]) (by simp[List.map_set])) Z (jn (ag (js Z ?_)))
 first|refine ji Z ?_|refine aQ Z Z ?_
 refine js Z (jn ?_)
 refine⟨(x.1+1,x.2.set x.1 (ts.getD x.1 default)),Ent.to ⟨Z,Z,Z,ao⟩ Z,⟨by omega,by simp[hi.2.1],fun j hj=>?_⟩,by omega⟩
 rw[List.getElem?_set]
 split
 rename_i e;subst e;simp[hi.2.1,show x.1<ts.length by omega]
 exact hi.2.2 j (by omega)
 try simp only[az]at z11
 refine aL (ab (aa Z (jr ?_)))
 have e:x.2=ts:=List.ext_getElem? fun j=>by
  rcases Nat.lt_or_ge j x.1 with h|h
  ·
   exact hi.2.2 j h
  ·
   rw[List.getElem?_eq_none (by omega),List.getElem?_eq_none (by omega)]
 refine⟨.inl Z,_,cp,_,Z,[7],by decide,Z,Z,?_⟩
 rw[←e];rfl
variable{a:An}
theorem c24:MQ h1 h2 13 [n8 a] [] (Rows (.agg [.rs 0 0 a.pre.length,.rs 1 0 a.post.length,.rs 2 0 a.code.length,.rs 3 0 a.pts.length]) [lZ a.pre,lZ a.post,oe a.code,oc a.pts]):=by
 refine bW (jB 21 h1 h2 Tryz.func13 Z fun O hF=>?_)
 refine ab (jx Z (aW ?_))
 refine jl Z (aW ?_)
 refine aX (jl Z (aW ?_))
 refine aX (aa Z (bl O (B0:=7000) Z Z Z Z (r3 h1 h2) (aj Z) Z Z Z Z Z Z (aW ?_)))
 refine js Z (jo Z (aW ?_))
 refine aX (aa Z (bl O (B0:=11000) Z Z Z Z (r3 h1 h2) (aj Z) Z Z Z Z Z Z (aW ?_)))
 refine js Z (jo Z (aW ?_))
 refine aX (aa Z (bl O (B0:=15000) Z Z Z Z (c69 h1 h2) (aj Z) Z Z Z Z Z Z (aW ?_)))
 refine js Z (jo Z (aW ?_))
 refine aX (aa Z (bl O (B0:=19000) Z Z Z Z (c70 h1 h2) (aj Z) Z Z Z Z Z Z (aW ?_)))
 refine js Z (jo Z (aW ?_))
 refine aX (js Z (jo Z (aW ?_)))
 refine jr ?_
 refine⟨.inl Z,_,cp,_,Z,[7000,11000,15000,19000],by decide,Z,Z,Z⟩
theorem sO{L:Nat}(h1:4096≤L)(h2:L≤1073741824){a:An}:MC Tryz.prog L 13 [n8 a] [] (Plain (n8 a)):=(c24 h1 h2).frozen (.v (.agg (.cons (.whole rfl (cS _).symm) (.cons (.whole rfl (cS _).symm) (.cons (.whole rfl (cS _).symm) (.cons (.whole rfl (cS _).symm) .nil))))))
theorem ta{s t:In}:MQ h1 h2 91 [.agg (s.cells.map .d),.agg (t.cells.map .d)] [] (Plain (eB (decide (s=t)))):=by
 refine ac ?_ Z
 refine jB 15 h1 h2 Tryz.func91 Z fun O hF=>?_
 refine ab (jx Z (jx Z (js Z (jn (af (ab (aJ Z (js Z (jn (al Z (fun z9=>?_) (fun z9=>?_)))))))))))
 try simp only[az]at z9
 refine ab (js Z (jr ?_))
 refine am Z ?_
 rw[decide_eq_false (fun e=>z9 (by rw[e]))]
 try simp only[az]at z9
 refine ae (af (ab (aJ Z (js Z (jn (al Z (fun z14=>?_) (fun z14=>?_)))))))
 try simp only[az]at z14
 refine ab (js Z (jr ?_))
 refine am Z ?_
 rw[decide_eq_false (fun e=>z14 (by rw[e]))]
 try simp only[az]at z14
 refine ae (ab (js Z (jr ?_)))
 refine am Z ?_
 have e:s=t:=by cases s;cases t;simp_all
 rw[decide_eq_true e]
theorem c74{xs ys:List In}:MQ h1 h2 50 [.c (.d (iI xs)),.c (.d (iI ys))] [] (Plain (eB (decide (xs=ys)))):=by
 refine ac ?_ Z
 refine jB 27 h1 h2 Tryz.func50 Z fun O hF=>?_
 have hl:xs.length≤L:=by simpa[As.fact,A.fact,M.fact,D.fact,Ds.fact]using hF.1.1
 have hl2:ys.length≤L:=by simpa[As.fact,A.fact,M.fact,D.fact,Ds.fact]using hF.2.1.1
 refine ab (js Z (jn (af (ab (js Z ?_)))))
 first|refine bA Z ?_|refine js Z ?_|refine aQ Z Z ?_
 refine js Z ?_
 first|refine bA Z ?_|refine js Z ?_|refine aQ Z Z ?_
 refine js Z (jn (al Z (fun z10=>?_) (fun z10=>?_)))
 try simp only[az]at z10
 refine ab (js Z (jr ?_))
 refine am Z ?_
 rw[decide_eq_false (fun e=>by subst e;simp at z10)]
 try simp only[az]at z10
 refine ae (af (ab (js Z (jn (ak (aq (X:=Nat) (fun i=>⟨[(0,.c (.d (iI xs))),(1,.c (.d (iI ys))),(5,eI i)],[]⟩) (fun i=>i≤xs.length∧∀j,j<i→xs[j]? = ys[j]?) (fun i=>xs.length-i) 0 (Ent.env ⟨Z,Z,Z,ao⟩) ?_ (fun i hi=>?_)))))))
 exact⟨bZ _,fun j hj=>absurd hj (Nat.not_lt_zero j)⟩
 refine af (ab (aa Z ?_))
 first|refine bA Z ?_|refine js Z ?_|refine aQ Z Z ?_
 refine js Z (jn (al Z (fun z14=>?_) (fun z14=>?_)))
 try simp only[az]at z14
 refine ae (af (ak (af (kA [_,_,_,_,_,_,_,_,_,_] [bp,bp,aT [0,1],aT [0,1,2],bp,bp,aT [4,5],aT [4,5,6],pe (rg 0 8) 0,pn (rg 0 9) 1 1] [8] [_,_] (kc Z (kc Z (ai (vD Z) (kc Z (kc Z (kc Z (ai (vD Z) (kc Z (ai (aD O (B0:=26000) Z Z Z Z (ta h1 h2) (aj Z) Z Z Z Z Z) (kc Z trivial)))))))))) ?_))))
 refine al Z (fun z26=>?_) (fun z26=>?_)
 try simp only[az]at z26
 refine ab (js Z (jr ?_))
 refine am Z ?_
 rw[decide_eq_false (fun e=>by subst e;simp at z26)]
 try simp only[az]at z26
 refine ae (ag (js Z ?_))
 first|refine ji Z ?_|refine aQ Z Z ?_
 refine js Z (jn ?_)
 refine⟨i+1,Ent.env ⟨Z,Z,Z,ao⟩,⟨by omega,fun j hj=>?_⟩,by omega⟩
 rcases Nat.lt_or_ge j i with h|h
 exact hi.2 j h
 obtain rfl:j=i:=by omega
 rw[Int.toNat_natCast,au (by omega),au (by omega)]at z26
 rw[List.getElem?_eq_getElem (by omega),List.getElem?_eq_getElem (by omega),z26]
 try simp only[az]at z14
 refine aL (ab (js Z (jr ?_)))
 refine am Z ?_
 have e:xs=ys:=List.ext_getElem? fun j=>by
  rcases Nat.lt_or_ge j i with h|h
  ·
   exact hi.2 j h
  ·
   rw[List.getElem?_eq_none (by omega),List.getElem?_eq_none (by omega)]
 rw[decide_eq_true e]
theorem s9{s t:Pt}:MQ h1 h2 92 [.agg (s.cells.map .d),.agg (t.cells.map .d)] [] (Plain (eB (decide (s=t)))):=by
 refine ac ?_ Z
 refine jB 16 h1 h2 Tryz.func92 Z fun O hF=>?_
 refine ab (jx Z (jx Z (js Z (jn (af (ab (aJ Z (js Z (jn (al Z (fun z9=>?_) (fun z9=>?_)))))))))))
 try simp only[az]at z9
 refine ab (js Z (jr ?_))
 refine am Z ?_
 rw[decide_eq_false (fun e=>z9 (by rw[e]))]
 try simp only[az]at z9
 refine ae (af (ab (aJ Z (aB Z (r5 h1 h2) 15000 Z (js Z (jn (al Z (fun z15=>?_) (fun z15=>?_))))))))
 try simp only[az]at z15
 refine ab (js Z (jr ?_))
 refine am Z ?_
 rw[decide_eq_false (fun e=>z15 (by rw[e]))]
 try simp only[az]at z15
 refine ae (ab (js Z (jr ?_)))
 refine am Z ?_
 have e:s=t:=by cases s;cases t;simp_all
 rw[decide_eq_true e]
theorem c75{xs ys:List Pt}:MQ h1 h2 51 [.c (.d (gx xs)),.c (.d (gx ys))] [] (Plain (eB (decide (xs=ys)))):=by
 refine ac ?_ Z
 refine jB 27 h1 h2 Tryz.func51 Z fun O hF=>?_
 have hl:xs.length≤L:=by simpa[As.fact,A.fact,M.fact,D.fact,Ds.fact]using hF.1.1
 have hl2:ys.length≤L:=by simpa[As.fact,A.fact,M.fact,D.fact,Ds.fact]using hF.2.1.1
 refine ab (js Z (jn (af (ab (js Z ?_)))))
 first|refine bA Z ?_|refine js Z ?_|refine aQ Z Z ?_
 refine js Z ?_
 first|refine bA Z ?_|refine js Z ?_|refine aQ Z Z ?_
 refine js Z (jn (al Z (fun z10=>?_) (fun z10=>?_)))
 try simp only[az]at z10
 refine ab (js Z (jr ?_))
 refine am Z ?_
 rw[decide_eq_false (fun e=>by subst e;simp at z10)]
 try simp only[az]at z10
 refine ae (af (ab (js Z (jn (ak (aq (X:=Nat) (fun i=>⟨[(0,.c (.d (gx xs))),(1,.c (.d (gx ys))),(5,eI i)],[]⟩) (fun i=>i≤xs.length∧∀j,j<i→xs[j]? = ys[j]?) (fun i=>xs.length-i) 0 (Ent.env ⟨Z,Z,Z,ao⟩) ?_ (fun i hi=>?_)))))))
 exact⟨bZ _,fun j hj=>absurd hj (Nat.not_lt_zero j)⟩
 refine af (ab (aa Z ?_))
 first|refine bA Z ?_|refine js Z ?_|refine aQ Z Z ?_
 refine js Z (jn (al Z (fun z14=>?_) (fun z14=>?_)))
 try simp only[az]at z14
 refine ae (af (ak (af (kA [_,_,_,_,_,_,_,_,_,_] [bp,bp,aT [0,1],aT [0,1,2],bp,bp,aT [4,5],aT [4,5,6],pe (rg 0 8) 0,pn (rg 0 9) 1 1] [8] [_,_] (kc Z (kc Z (ai (vD Z) (kc Z (kc Z (kc Z (ai (vD Z) (kc Z (ai (aD O (B0:=26000) Z Z Z Z (s9 h1 h2) (aj Z) Z Z Z Z Z) (kc Z trivial)))))))))) ?_))))
 refine al Z (fun z26=>?_) (fun z26=>?_)
 try simp only[az]at z26
 refine ab (js Z (jr ?_))
 refine am Z ?_
 rw[decide_eq_false (fun e=>by subst e;simp at z26)]
 try simp only[az]at z26
 refine ae (ag (js Z ?_))
 first|refine ji Z ?_|refine aQ Z Z ?_
 refine js Z (jn ?_)
 refine⟨i+1,Ent.env ⟨Z,Z,Z,ao⟩,⟨by omega,fun j hj=>?_⟩,by omega⟩
 rcases Nat.lt_or_ge j i with h|h
 exact hi.2 j h
 obtain rfl:j=i:=by omega
 rw[Int.toNat_natCast,au (by omega),au (by omega)]at z26
 rw[List.getElem?_eq_getElem (by omega),List.getElem?_eq_getElem (by omega),z26]
 try simp only[az]at z14
 refine aL (ab (js Z (jr ?_)))
 refine am Z ?_
 have e:xs=ys:=List.ext_getElem? fun j=>by
  rcases Nat.lt_or_ge j i with h|h
  ·
   exact hi.2 j h
  ·
   rw[List.getElem?_eq_none (by omega),List.getElem?_eq_none (by omega)]
 rw[decide_eq_true e]
theorem c26{s t:An}:MQ h1 h2 17 [n8 s,n8 t] [] (Plain (eB (decide (s=t)))):=by
 refine ac ?_ Z
 refine jB 29 h1 h2 Tryz.func17 Z fun O hF=>?_
 refine ab (jx Z (jx Z (js Z (jn (af (ab (aJ Z (aB Z (r5 h1 h2) 10000 Z (js Z (jn (al Z (fun z10=>?_) (fun z10=>?_))))))))))))
 try simp only[az]at z10
 refine ab (js Z (jr ?_))
 refine am Z ?_
 rw[decide_eq_false (fun e=>z10 (by rw[e]))]
 try simp only[az]at z10
 refine ae (af (ab (aJ Z (aB Z (r5 h1 h2) 16000 Z (js Z (jn (al Z (fun z16=>?_) (fun z16=>?_))))))))
 try simp only[az]at z16
 refine ab (js Z (jr ?_))
 refine am Z ?_
 rw[decide_eq_false (fun e=>z16 (by rw[e]))]
 try simp only[az]at z16
 refine ae (af (ab (aJ Z (aB Z (c74 h1 h2) 22000 Z (js Z (jn (al Z (fun z22=>?_) (fun z22=>?_))))))))
 try simp only[az]at z22
 refine ab (js Z (jr ?_))
 refine am Z ?_
 rw[decide_eq_false (fun e=>z22 (by rw[e]))]
 try simp only[az]at z22
 refine ae (af (ab (aJ Z (aB Z (c75 h1 h2) 28000 Z (js Z (jn (al Z (fun z28=>?_) (fun z28=>?_))))))))
 try simp only[az]at z28
 refine ab (js Z (jr ?_))
 refine am Z ?_
 rw[decide_eq_false (fun e=>z28 (by rw[e]))]
 try simp only[az]at z28
 refine ae (ab (js Z (jr ?_)))
 refine am Z ?_
 have e:s=t:=by cases s;cases t;simp_all
 rw[decide_eq_true e]
theorem pD{a:Bool}(h:(!a)=true):a=false:=by simpa using h
theorem pC{a:Bool}(h:(!a)=false):a=true:=by simpa using h
theorem oN{α:Type}{p:α→Bool}{xs:List α}(j:Nat)(hj:j<xs.length)(h:p xs[j]=true):xs.any p=true:=List.any_eq_true.2 ⟨xs[j],List.getElem_mem _,h⟩
theorem pZ{α:Type}{p:α→Bool}{xs:List α}(h: ∀j (hj:j<xs.length),p xs[j]=false):xs.any p=false:=List.any_eq_false.2 fun x hx=>by
 obtain⟨j,hj,rfl⟩:=List.mem_iff_getElem.1 hx
 rw[h j hj];decide
theorem oX(t:Tm):(bif !t.ok then true else decide ((4:Int)<t.xs.length))= !t.term:=by
 unfold Tm.term
 cases t.ok
 rfl
 by_cases h:(4:Int)<t.xs.length
 rw[decide_eq_true h,decide_eq_false (by omega)];rfl
 rw[decide_eq_false h,decide_eq_true (by omega)];rfl
theorem s5:MQ h1 h2 95 [.agg (x.cells.map .d)] [] (Plain (eB (aK x))):=by
 refine ac ?_ Z
 refine jB 37 h1 h2 Tryz.func95 Z fun O hF=>?_
 refine ab (jx Z (js Z (jn (af (ab (aa Z (jn (ak (af (ab (aa Z (jn (al Z (fun z5=>?_) (fun z5=>?_))))))))))))))
 try simp only[az]at z5
 refine ae (al Z (fun z5=>?_) (fun z5=>?_))
 try simp only[az]at z5
 refine ab (aa Z (aB Z (oh h1 h2) 11000 Z (js Z (jr ?_))))
 refine am Z ?_
 unfold aK cC;simp_all
 try simp only[az]at z5
 contradiction
 try simp only[az]at z5
 refine ag (aa Z (jn (al Z (fun z5=>?_) (fun z5=>?_))))
 try simp only[az]at z5
 refine ab (aa Z (aB Z (oh h1 h2) 11000 Z (js Z (jr ?_))))
 refine am Z ?_
 unfold aK cC;simp_all
 try simp only[az]at z5
 refine af (ab (aa Z (jn (al Z (fun z11=>?_) (fun z11=>?_)))))
 try simp only[az]at z11
 refine ae (al Z (fun z11=>?_) (fun z11=>?_))
 try simp only[az]at z11
 refine ab (aa Z (aB Z (kB h1 h2) 17000 Z (js Z (jr ?_))))
 refine am Z ?_
 unfold aK cC;simp_all
 try simp only[az]at z11
 contradiction
 try simp only[az]at z11
 refine ag (aa Z (jn (al Z (fun z11=>?_) (fun z11=>?_))))
 try simp only[az]at z11
 refine ab (aa Z (aB Z (kB h1 h2) 17000 Z (js Z (jr ?_))))
 refine am Z ?_
 unfold aK cC;simp_all
 try simp only[az]at z11
 refine af (ab (aa Z (jn (al Z (fun z17=>?_) (fun z17=>?_)))))
 try simp only[az]at z17
 refine ae (al Z (fun z17=>?_) (fun z17=>?_))
 try simp only[az]at z17
 refine ab (aa Z (aB Z (kB h1 h2) 23000 Z (js Z (jr ?_))))
 refine am Z ?_
 unfold aK cC;simp_all
 try simp only[az]at z17
 contradiction
 try simp only[az]at z17
 refine ag (aa Z (jn (al Z (fun z17=>?_) (fun z17=>?_))))
 try simp only[az]at z17
 refine ab (aa Z (aB Z (kB h1 h2) 23000 Z (js Z (jr ?_))))
 refine am Z ?_
 unfold aK cC;simp_all
 try simp only[az]at z17
 refine ab (aa Z (jn (al Z (fun z23=>?_) (fun z23=>?_))))
 try simp only[az]at z23
 refine ab (aa Z (aB Z (kB h1 h2) 28000 Z (js Z (jr ?_))))
 refine am Z ?_
 unfold aK cC;simp_all
 try simp only[az]at z23
 refine af (ab (aa Z (jn (al Z (fun z28=>?_) (fun z28=>?_)))))
 try simp only[az]at z28
 refine ae (al Z (fun z28=>?_) (fun z28=>?_))
 try simp only[az]at z28
 refine ab (aJ Z (jr ?_))
 refine am Z ?_
 unfold aK cC;simp_all
 try simp only[az]at z28
 contradiction
 try simp only[az]at z28
 refine ab (aa Z (jn (al Z (fun z28=>?_) (fun z28=>?_))))
 try simp only[az]at z28
 refine ae (al Z (fun z28=>?_) (fun z28=>?_))
 try simp only[az]at z28
 refine ab (aJ Z (jr ?_))
 refine am Z ?_
 unfold aK cC;simp_all
 try simp only[az]at z28
 contradiction
 try simp only[az]at z28
 refine ab (aa Z (jn (al Z (fun z28=>?_) (fun z28=>?_))))
 try simp only[az]at z28
 refine ae (al Z (fun z28=>?_) (fun z28=>?_))
 try simp only[az]at z28
 refine ab (aJ Z (jr ?_))
 refine am Z ?_
 unfold aK cC;simp_all
 try simp only[az]at z28
 contradiction
 try simp only[az]at z28
 refine ab (aa Z (jn (al Z (fun z28=>?_) (fun z28=>?_))))
 try simp only[az]at z28
 refine ae (al Z (fun z28=>?_) (fun z28=>?_))
 try simp only[az]at z28
 refine ab (aJ Z (jr ?_))
 refine am Z ?_
 unfold aK cC;simp_all
 try simp only[az]at z28
 contradiction
 try simp only[az]at z28
 refine ag (aa Z (jn (al Z (fun z28=>?_) (fun z28=>?_))))
 try simp only[az]at z28
 refine ab (aJ Z (jr ?_))
 refine am Z ?_
 unfold aK cC;simp_all
 try simp only[az]at z28
 refine ae (ab (js Z (jr ?_)))
 refine am Z ?_
 unfold aK cC;simp_all
variable{c:List In}
theorem tf:MQ h1 h2 57 [i8 c] [] (Plain (eB (dh c))):=by
 refine ac ?_ Z
 refine jB 19 h1 h2 Tryz.func57 Z fun O hF=>?_
 have hl:c.length≤L:=by simpa[As.fact,A.fact,M.fact,D.fact,Ds.fact]using hF.1.1
 refine ab (js Z (jn (af (ab (js Z (jn (ak (aq (X:=Nat) (fun i=>⟨[(0,i8 c),(3,eI i)],[]⟩) (fun i=>i≤c.length∧∀j (h:j<c.length),j<i→aK c[j]=true) (fun i=>c.length-i) 0 (Ent.env ⟨Z,Z,ao⟩) ?_ (fun i hi=>?_)))))))))
 exact⟨bZ _,fun j h hj=>absurd hj (Nat.not_lt_zero j)⟩
 refine af (ab (aa Z ?_))
 first|refine bA Z ?_|refine js Z ?_|refine aQ Z Z ?_
 refine js Z (jn (al Z (fun z7=>?_) (fun z7=>?_)))
 try simp only[az]at z7
 refine ae (af (ak (ab (aa Z ?_))))
 first|refine eZ Z Z ?_|refine aQ Z Z ?_
 refine js Z (aB Z (s5 h1 h2) 15000 Z (js Z (jn (al Z (fun z15=>?_) (fun z15=>?_)))))
 try simp only[az]at z15
 refine ab (js Z (jr ?_))
 refine am Z ?_
 rw[Int.toNat_natCast,au (by omega)]at z15
 rw[dh,dP i (by omega) z15,Bool.false_and]
 try simp only[az]at z15
 refine ae (ag (js Z ?_))
 first|refine ji Z ?_|refine aQ Z Z ?_
 refine js Z (jn ?_)
 refine⟨i+1,Ent.env ⟨Z,Z,ao⟩,⟨by omega,fun j h hj=>?_⟩,by omega⟩
 by_cases e:j=i
 subst e;rw[Int.toNat_natCast,au h]at z15;exact z15
 exact hi.2 j h (by omega)
 try simp only[az]at z7
 refine aL (ab (js Z ?_))
 first|refine bA Z ?_|refine js Z ?_|refine aQ Z Z ?_
 refine aB Z (kB h1 h2) 19000 Z (js Z (jr ?_))
 refine am Z ?_
 rw[dh,fi (fun j hj=>hi.2 j hj (by omega)),Bool.true_and]
 rfl
theorem mW{ts:List Tm}:MQ h1 h2 58 [dY ts] [] (Plain (eB (bh ts 6))):=by
 refine ac ?_ Z
 refine jB 27 h1 h2 Tryz.func58 Z fun O hF=>?_
 have hl:ts.length≤L:=by simpa[As.fact,A.fact,M.fact,D.fact,Ds.fact]using hF.1.1
 refine ab (js Z (jn (af (ab (js Z (jn (ak (aq (X:=Nat) (fun i=>⟨[(0,dY ts),(3,eI i)],[]⟩) (fun i=>i≤ts.length∧∀j (h:j<ts.length),j<i→Tm.term ts[j]=true) (fun i=>ts.length-i) 0 (Ent.env ⟨Z,Z,ao⟩) ?_ (fun i hi=>?_)))))))))
 exact⟨bZ _,fun j h hj=>absurd hj (Nat.not_lt_zero j)⟩
 refine af (ab (aa Z ?_))
 first|refine bA Z ?_|refine js Z ?_|refine aQ Z Z ?_
 refine js Z (jf [7,0,3] Z (jn (al Z (fun z7=>?_) (fun z7=>?_))))
 refine ae (af (ak (ab ?_)))
 have hil:i<ts.length:=by have:=bK z7;omega
 refine aa Z ?_
 first|refine n0 Z Z ?_|refine eZ Z Z ?_|refine aQ Z Z ?_
 refine jf [12,7,0,3] Z (aB Z (qA (t:=ts.getD i default) h1 h2) 14000 Z (aa Z (jf [15,7,0,3] Z (aA 7 Z Z Z (fun hx=>ax hx Z (ax hx Z (c5 hx (vN Z) Z (ax hx Z (ax hx Z (c5 hx (aU O Z Z Z Z Z Z Z Z) Z (ax hx Z (AN.nil)))))))) Z Z ?_))))
 first|refine ah (ay O Z Z Z Z Z) Z ?_|refine ah (Val.pickB O Z Z Z Z Z) Z ?_|refine ah (ar O Z Z Z Z Z) Z ?_
 refine jf [23,7,0,3] Z (jn (al Z (fun z23=>?_) (fun z23=>?_)))
 refine ab (js Z (jr ?_))
 refine am Z ?_
 have h9:=pD ((oX _).symm.trans z23)
 rw[au hil]at h9
 rw[bh,dP i hil h9,Bool.false_and]
 refine ae (ag (js Z ?_))
 first|refine ji Z ?_|refine aQ Z Z ?_
 refine js Z (jf [3,23,7,0] Z (jn ?_))
 refine⟨i+1,Ent.env ⟨Z,Z,ao⟩,⟨by omega,fun j h hj=>?_⟩,by omega⟩
 by_cases e:j=i
 subst e;rw[←au h];exact pC ((oX _).symm.trans z23)
 exact hi.2 j h (by omega)
 refine aL (ab (js Z ?_))
 first|refine bA Z ?_|refine js Z ?_|refine aQ Z Z ?_
 refine aa Z (jf [2,7,0,3] Z (jr ?_))
 refine am Z ?_
 have h9:=ce z7
 rw[bh,fi (fun j hj=>hi.2 j hj (by omega)),Bool.true_and]
theorem tj{a:An}{i:Nat}:(bif (bif !(decide (0≤(a.pts.getD i default).k)&&decide ((a.pts.getD i default).k≤(a.code.length:Int)-1))then true else !bh (a.pts.getD i default).fs 6)then true else(bif decide ((0:Int)<i)then decide ((a.pts.getD i default).k≤(a.pts.getD (i-1) default).k)else false))= !mL a.code.length a.pts i:=by
 unfold mL cC
 rw[show decide ((0:Int)<i)=decide (0<i)from decide_eq_decide.2 (by omega)]
 cases decide (0≤(a.pts.getD i default).k)<;>cases decide ((a.pts.getD i default).k≤(a.code.length:Int)-1)<;>cases bh (a.pts.getD i default).fs 6<;>cases decide (0<i)<;>cases decide ((a.pts.getD i default).k≤(a.pts.getD (i-1) default).k)<;>rfl
theorem nl{a:An}(h:(bif (bif (bif !dh a.code then true else !bh a.pre 6)then true else !bh a.post 6)then true else decide ((8:Int)<a.pts.length))=true):cU a=false:=by
 unfold cU
 rw[show decide (a.pts.length≤8)= !decide ((8:Int)<a.pts.length) by rw[←decide_not];exact decide_eq_decide.2 (by omega)]
 generalize dh a.code=b1 at h ⊢
 generalize bh a.pre 6=b2 at h ⊢
 generalize bh a.post 6=b3 at h ⊢
 generalize decide ((8:Int)<a.pts.length)=b at h ⊢
 cases b1<;>cases b2<;>cases b3<;>cases b<;>simp_all
theorem fH{a:An}(h:(bif (bif (bif !dh a.code then true else !bh a.pre 6)then true else !bh a.post 6)then true else decide ((8:Int)<a.pts.length))=false):cU a=ma a.code.length a.pts∧a.pts.length≤8∧dh a.code=true:=by
 unfold cU
 rw[show decide (a.pts.length≤8)= !decide ((8:Int)<a.pts.length) by rw[←decide_not];exact decide_eq_decide.2 (by omega)]
 generalize dh a.code=b1 at h ⊢
 generalize bh a.pre 6=b2 at h ⊢
 generalize bh a.post 6=b3 at h ⊢
 by_cases hb:(8:Int)<a.pts.length
 rw[decide_eq_true hb]at h
 cases b1<;>cases b2<;>cases b3<;>cases h
 rw[decide_eq_false hb]at h ⊢
 have h9:a.pts.length≤8:=by omega
 cases b1<;>cases b2<;>cases b3<;>simp_all
theorem mt{c:List In}(h:dh c=true):1≤c.length∧c.length≤80:=by
 simp only[dh,cC,bd,decide_eq_true_eq]at h;omega
theorem c67:MQ h1 h2 24 [ptr a.data] [] (Plain (eB (cU a))):=by
 refine ac ?_ Z
 refine jB 90 h1 h2 Tryz.func24 Z fun O hF=>?_
 have hl:a.code.length≤L:=by simpa[As.fact,A.fact,M.fact,D.fact,Ds.fact]using hF.1.2.2.1.1
 have hlp:a.pts.length≤L:=by simpa[As.fact,A.fact,M.fact,D.fact,Ds.fact]using hF.1.2.2.2.1.1
 refine ab (js Z (jn (af (ab (aJ Z (aV [(8,_),(2,_),(0,_)] [] ⟨Z,Z,Z,ao⟩ Z (aB Z (tf h1 h2) 10000 Z (aa Z (aV [(11,_),(2,_),(0,_)] [] ⟨Z,Z,Z,ao⟩ Z (aA 6 Z Z Z (fun hx=>ax hx Z (ax hx Z (ax hx Z (ax hx Z (bu O hx Z Z Z Z (mW h1 h2) (aj Z) Z Z Z Z Z Z Z (B0:=17000) Z (ax hx Z (AN.nil))))))) Z Z ?_))))))))))
 first|refine ah (ay O Z Z Z Z Z) Z ?_|refine ah (Val.pickB O Z Z Z Z Z) Z ?_|refine ah (ar O Z Z Z Z Z) Z ?_
 refine js Z (aV [(19,_),(2,_),(0,_)] [] ⟨Z,Z,Z,ao⟩ Z (aA 6 Z Z Z (fun hx=>ax hx Z (ax hx Z (ax hx Z (ax hx Z (bu O hx Z Z Z Z (mW h1 h2) (aj Z) Z Z Z Z Z Z Z (B0:=25000) Z (ax hx Z (AN.nil))))))) Z Z ?_))
 first|refine ah (ay O Z Z Z Z Z) Z ?_|refine ah (Val.pickB O Z Z Z Z Z) Z ?_|refine ah (ar O Z Z Z Z Z) Z ?_
 refine js Z (aV [(27,_),(2,_),(0,_)] [] ⟨Z,Z,Z,ao⟩ Z (aA 6 Z Z Z (fun hx=>ax hx Z (ax hx Z (ax hx Z (ax hx Z (c5 hx (aU O Z Z Z Z Z Z Z Z) Z (ax hx Z (AN.nil))))))) Z Z ?_))
 first|refine ah (ay O Z Z Z Z Z) Z ?_|refine ah (Val.pickB O Z Z Z Z Z) Z ?_|refine ah (ar O Z Z Z Z Z) Z ?_
 refine jf [34,2,0] Z (jn (al Z (fun z34=>?_) (fun z34=>?_)))
 refine ab (js Z (jr ?_))
 refine am Z ?_
 rw[nl z34]
 refine ae (af (ab (js Z (jn (ak (aq (X:=Nat) (fun i=>⟨[(0,ptr a.data),(3,eI i)],[]⟩) (fun i=>i≤a.pts.length∧∀j,j<i→mL a.code.length a.pts j=true) (fun i=>a.pts.length-i) 0 (Ent.env ⟨Z,Z,ao⟩) ?_ (fun i hi=>?_)))))))
 exact⟨bZ _,fun j hj=>absurd hj (Nat.not_lt_zero j)⟩
 refine af (ab (aJ Z (js Z ?_)))
 first|refine bA Z ?_|refine js Z ?_|refine aQ Z Z ?_
 refine js Z (jf [41,0,3] Z (jn (al Z (fun z41=>?_) (fun z41=>?_))))
 refine ae (af (ak (ab ?_)))
 have hil:i<a.pts.length:=by have:=bK z41;omega
 refine aJ Z (js Z ?_)
 first|refine n0 Z Z ?_|refine eZ Z Z ?_|refine aQ Z Z ?_
 refine js Z (jf [4,41,0,3] Z (jn (af (bJ (F:=⟨[(89,eB (bif (bif !(decide (0≤(a.pts.getD i default).k)&&decide ((a.pts.getD i default).k≤(a.code.length:Int)-1))then true else !bh (a.pts.getD i default).fs 6)then true else(bif decide ((0:Int)<i)then decide ((a.pts.getD i default).k≤(a.pts.getD (i-1) default).k)else false))),(0,ptr a.data),(3,eI i)],[]⟩) ?_ ?_))))
 cases hb7:!(decide (0≤(a.pts.getD i default).k)&&decide ((a.pts.getD i default).k≤(a.code.length:Int)-1))with
 | true=>
  refine oR (_::_::_::_::_::_::_::_::_::_::_::_::_::_::_::_::_::_::_::_::_::_::_::_::_::_::_::_::_::_::_::_::_::_::_::_::_::_::_::_::[]) (bp::aT [0]::aT [0,1]::aT [0,1,2]::bp::aT [4]::aT [4,5]::aT [4,5,6]::aT (rg 4 4)::aT (rg 4 5)::pe (rg 0 10) 0::pn (rg 0 11) 1 1::pn (rg 0 12) 1 1::pn (rg 0 13) 0 1::pn (rg 0 14) 0 1::pn (rg 0 15) 0 1::pn (rg 0 16) 0 1::pn (rg 0 17) 0 1::pn (rg 0 18) 0 1::pn (rg 0 19) 1 1::pn (rg 0 20) 1 1::pn (rg 0 21) 0 1::pn (rg 0 22) 0 1::pn (rg 0 23) 0 1::pn (rg 0 24) 0 1::pn (rg 0 25) 0 1::pn (rg 0 26) 0 1::pn (rg 0 27) 0 1::pn (rg 0 24) 0 1::pn (rg 0 24++[28]) 0 1::pn (rg 0 30) 0 1::pn (rg 0 31) 0 1::pn (rg 0 32) 0 1::pn (rg 0 24) 0 1::pn (rg 0 24++[33]) 0 1::pn (rg 0 24++[33,34]) 0 1::pn (rg 0 24++[33,34,35]) 0 1::pn (rg 0 37) 0 1::pn (rg 0 38) 0 1::pn (rg 0 39) 1 1::[]) [10] [_,_] (kc Z (kc Z (kc Z (kc Z (kc Z (kc Z (kc Z (kc Z (ai (aU O Z Z Z Z Z Z Z Z) (ai (vF Z) (ai (aD O (B0:=61000) Z Z Z Z (kB h1 h2) (aj Z) Z Z Z Z Z) (kc Z (ai ((V Z).cast (v':=eB true) (congrArg eB hb7)) (ai ⟨Z,Z⟩ (ai ⟨Z,Z⟩ (ai ⟨Z,Z⟩ (ai ⟨Z,Z⟩ (ai ⟨Z,Z⟩ (ai ⟨Z,Z⟩ (ai (ch O Z Z Z Z Z) (kc Z (ai ⟨Z,Z⟩ (ai ⟨Z,Z⟩ (ai ⟨Z,Z⟩ (ai ⟨Z,Z⟩ (ai ⟨Z,Z⟩ (ai ⟨Z,Z⟩ (ai ⟨Z,Z⟩ (ai ⟨Z,Z⟩ (ai ⟨Z,Z⟩ (ai ⟨Z,Z⟩ (ai ⟨Z,Z⟩ (ai ⟨Z,Z⟩ (ai ⟨Z,Z⟩ (ai ⟨Z,Z⟩ (ai ⟨Z,Z⟩ (ai ⟨Z,Z⟩ (ai ⟨Z,Z⟩ (ai ⟨Z,Z⟩ (ai (ch O Z Z Z Z Z) trivial)))))))))))))))))))))))))))))))))))))))) ?_
  exact⟨Z,Ent.env ⟨Z,Z,Z,ao⟩⟩
 | false=>
  cases hb7b:!bh (a.pts.getD i default).fs 6 with
  | true=>
   refine oR (_::_::_::_::_::_::_::_::_::_::_::_::_::_::_::_::_::_::_::_::_::_::_::_::_::_::_::_::_::_::_::_::_::_::_::_::_::_::_::_::[]) (bp::aT [0]::aT [0,1]::aT [0,1,2]::bp::aT [4]::aT [4,5]::aT [4,5,6]::aT (rg 4 4)::aT (rg 4 5)::pe (rg 0 10) 0::pn (rg 0 11) 1 1::pn (rg 0 12) 1 1::pn (rg 0 13) 1 1::pn (rg 0 14) 1 1::pn (rg 0 15) 1 1::pn (rg 0 16) 1 1::pe (rg 0 17) 1::pn (rg 0 18) 2 2::pn (rg 0 19) 2 2::pn (rg 0 20) 2 2::pn (rg 0 21) 0 2::pn (rg 0 22) 0 2::pn (rg 0 23) 0 2::pn (rg 0 24) 0 2::pn (rg 0 25) 0 2::pn (rg 0 26) 0 2::pn (rg 0 27) 0 2::pn (rg 0 24) 0 2::pn (rg 0 24++[28]) 0 2::pn (rg 0 30) 0 2::pn (rg 0 31) 0 2::pn (rg 0 32) 0 2::pn (rg 0 24) 0 2::pn (rg 0 24++[33]) 0 2::pn (rg 0 24++[33,34]) 0 2::pn (rg 0 24++[33,34,35]) 0 2::pn (rg 0 37) 0 2::pn (rg 0 38) 0 2::pn (rg 0 39) 2 2::[]) [10,17] [_,_,_] (kc Z (kc Z (kc Z (kc Z (kc Z (kc Z (kc Z (kc Z (ai (aU O Z Z Z Z Z Z Z Z) (ai (vF Z) (ai (aD O (B0:=61000) Z Z Z Z (kB h1 h2) (aj Z) Z Z Z Z Z) (kc Z (ai ((V Z).cast (v':=eB false) (congrArg eB hb7)) (kc Z (kc Z (kc Z (kc Z (ai (aD O (B0:=68000) Z Z Z Z (mW h1 h2) (aj Z) Z Z Z Z Z) (kc Z (ai (aS O Z Z Z Z Z) (ai ((V Z).cast (v':=eB true) (congrArg eB hb7b)) (ai ⟨Z,Z⟩ (ai ⟨Z,Z⟩ (ai ⟨Z,Z⟩ (ai ⟨Z,Z⟩ (ai ⟨Z,Z⟩ (ai ⟨Z,Z⟩ (ai ⟨Z,Z⟩ (ai ⟨Z,Z⟩ (ai ⟨Z,Z⟩ (ai ⟨Z,Z⟩ (ai ⟨Z,Z⟩ (ai ⟨Z,Z⟩ (ai ⟨Z,Z⟩ (ai ⟨Z,Z⟩ (ai ⟨Z,Z⟩ (ai ⟨Z,Z⟩ (ai ⟨Z,Z⟩ (ai ⟨Z,Z⟩ (ai (ch O Z Z Z Z Z) trivial)))))))))))))))))))))))))))))))))))))))) ?_
   exact⟨Z,Ent.env ⟨Z,Z,Z,ao⟩⟩
  | false=>
   cases hb7c:decide ((0:Int)<i)with
   | true=>
    have hi0:0<i:=by have:=bK hb7c;omega
    refine oR (_::_::_::_::_::_::_::_::_::_::_::_::_::_::_::_::_::_::_::_::_::_::_::_::_::_::_::_::_::_::_::_::_::_::_::_::_::_::_::_::[]) (bp::aT [0]::aT [0,1]::aT [0,1,2]::bp::aT [4]::aT [4,5]::aT [4,5,6]::aT (rg 4 4)::aT (rg 4 5)::pe (rg 0 10) 0::pn (rg 0 11) 1 1::pn (rg 0 12) 1 1::pn (rg 0 13) 1 1::pn (rg 0 14) 1 1::pn (rg 0 15) 1 1::pn (rg 0 16) 1 1::pe (rg 0 17) 1::pn (rg 0 18) 2 2::pn (rg 0 19) 2 2::pn (rg 0 20) 2 2::pn (rg 0 21) 2 2::pn (rg 0 22) 2 2::pn (rg 0 23) 2 2::pn (rg 0 24) 2 2::pn (rg 0 25) 2 2::pn (rg 0 26) 2 2::pn (rg 0 27) 2 2::pn (rg 0 24) 2 2::pn (rg 0 24++[28]) 2 2::pn (rg 0 30) 2 2::pn (rg 0 31) 2 2::pn (rg 0 32) 2 2::pn (rg 0 24) 2 2::pn (rg 0 24++[33]) 2 2::pn (rg 0 24++[33,34]) 2 2::pn (rg 0 24++[33,34,35]) 2 2::pn (rg 0 37) 2 2::pn (rg 0 38) 2 2::pn (rg 0 39) 2 2::[]) [10,17] [_,_,_] (kc Z (kc Z (kc Z (kc Z (kc Z (kc Z (kc Z (kc Z (ai (aU O Z Z Z Z Z Z Z Z) (ai (vF Z) (ai (aD O (B0:=61000) Z Z Z Z (kB h1 h2) (aj Z) Z Z Z Z Z) (kc Z (ai ((V Z).cast (v':=eB false) (congrArg eB hb7)) (kc Z (kc Z (kc Z (kc Z (ai (aD O (B0:=68000) Z Z Z Z (mW h1 h2) (aj Z) Z Z Z Z Z) (kc Z (ai (aS O Z Z Z Z Z) (ai ((V Z).cast (v':=eB false) (congrArg eB hb7b)) (kc Z (kc Z (ai ((V Z).cast (v':=eB true) (congrArg eB hb7c)) (kc Z (kc Z (kc Z (kc Z (kc Z (ai ((vF Z).cast (v':=eI ((i-1:Nat):Int)) (congrArg eI (by omega))) (ai (vN Z) (kc Z (kc Z (kc Z (kc Z (kc Z (kc Z (kc Z (ai (ch O Z Z Z Z Z) (ai (aS O Z Z Z Z Z) trivial)))))))))))))))))))))))))))))))))))))))) ?_
    exact⟨Z,Ent.env ⟨Z,Z,Z,ao⟩⟩
   | false=>
    refine oR (_::_::_::_::_::_::_::_::_::_::_::_::_::_::_::_::_::_::_::_::_::_::_::_::_::_::_::_::_::_::_::_::_::_::_::_::_::_::_::_::[]) (bp::aT [0]::aT [0,1]::aT [0,1,2]::bp::aT [4]::aT [4,5]::aT [4,5,6]::aT (rg 4 4)::aT (rg 4 5)::pe (rg 0 10) 0::pn (rg 0 11) 1 1::pn (rg 0 12) 1 1::pn (rg 0 13) 1 1::pn (rg 0 14) 1 1::pn (rg 0 15) 1 1::pn (rg 0 16) 1 1::pe (rg 0 17) 1::pn (rg 0 18) 2 2::pn (rg 0 19) 2 2::pn (rg 0 20) 2 2::pn (rg 0 21) 2 2::pn (rg 0 22) 2 2::pn (rg 0 23) 2 2::pn (rg 0 24) 0 2::pn (rg 0 25) 0 2::pn (rg 0 26) 0 2::pn (rg 0 27) 0 2::pn (rg 0 24) 0 2::pn (rg 0 24++[28]) 0 2::pn (rg 0 30) 0 2::pn (rg 0 31) 0 2::pn (rg 0 32) 0 2::pn (rg 0 24) 0 2::pn (rg 0 24++[33]) 0 2::pn (rg 0 24++[33,34]) 0 2::pn (rg 0 24++[33,34,35]) 0 2::pn (rg 0 37) 0 2::pn (rg 0 38) 2 2::pn (rg 0 39) 2 2::[]) [10,17] [_,_,_] (kc Z (kc Z (kc Z (kc Z (kc Z (kc Z (kc Z (kc Z (ai (aU O Z Z Z Z Z Z Z Z) (ai (vF Z) (ai (aD O (B0:=61000) Z Z Z Z (kB h1 h2) (aj Z) Z Z Z Z Z) (kc Z (ai ((V Z).cast (v':=eB false) (congrArg eB hb7)) (kc Z (kc Z (kc Z (kc Z (ai (aD O (B0:=68000) Z Z Z Z (mW h1 h2) (aj Z) Z Z Z Z Z) (kc Z (ai (aS O Z Z Z Z Z) (ai ((V Z).cast (v':=eB false) (congrArg eB hb7b)) (kc Z (kc Z (ai ((V Z).cast (v':=eB false) (congrArg eB hb7c)) (ai ⟨Z,Z⟩ (ai ⟨Z,Z⟩ (ai ⟨Z,Z⟩ (ai ⟨Z,Z⟩ (ai ⟨Z,Z⟩ (ai ⟨Z,Z⟩ (ai ⟨Z,Z⟩ (ai ⟨Z,Z⟩ (ai ⟨Z,Z⟩ (ai ⟨Z,Z⟩ (ai ⟨Z,Z⟩ (ai ⟨Z,Z⟩ (ai ⟨Z,Z⟩ (ai ⟨Z,Z⟩ (ai (aS O Z Z Z Z Z) (ai (aS O Z Z Z Z Z) trivial)))))))))))))))))))))))))))))))))))))))) ?_
    exact⟨Z,Ent.env ⟨Z,Z,Z,ao⟩⟩
 refine al Z (fun z89=>?_) (fun z89=>?_)
 refine ab (js Z (jr ?_))
 refine am Z ?_
 rw[(fH z34).1,jW i hil (pD (tj.symm.trans z89))]
 refine ae (ag (js Z ?_))
 first|refine ji Z ?_|refine aQ Z Z ?_
 refine js Z (jf [3,89,0] Z (jn ?_))
 have h9:mL a.code.length a.pts i=true:=pC (tj.symm.trans z89)
 refine⟨i+1,Ent.env ⟨Z,Z,ao⟩,⟨by omega,fun j hj=>?_⟩,by omega⟩
 by_cases e:j=i
 subst e;exact h9
 exact hi.2 j (by omega)
 refine aL (ab (js Z (jr ?_)))
 refine am Z ?_
 rw[(fH z34).1,lG fun j hj=>hi.2 j (by have:=ce z41;omega)]
section
set_option linter.unusedSectionVars false
variable{α:Type}[Inhabited α]{f:α→α}{l:List α}{i:Nat}{g:α→List D}
end
structure Fo(a out:An)(k:Nat):Prop where
  le:k≤out.code.length
  eq:lx out=lx a
  ok:AOk out
  no: ∀j,j<k→(lp out j).1=0
structure Gn(a out:An):Prop where
  eq:lx out=lx a
  ok:AOk out
theorem qu{x:Int}:MQ h1 h2 123 [eI x] [] (Plain (eB (cC 0 79 x))):=by
 refine ac ?_ Z
 refine jB 5 h1 h2 Tryz.func123 Z fun O hF=>?_
 refine ab (js Z (aX (js Z (aB Z (i7 h1 h2) 5000 Z (js Z (jr ?_))))))
 refine am Z ?_
 first|rfl|skip
theorem sZ:MQ h1 h2 104 [.agg (x.cells.map .d)] [] (Plain (eB (aK x))):=by
 refine ac ?_ Z
 refine jB 37 h1 h2 Tryz.func104 Z fun O hF=>?_
 refine ab (jx Z (js Z (jn (af (ab (aa Z (jn (ak (af (ab (aa Z (jn (al Z (fun z5=>?_) (fun z5=>?_))))))))))))))
 try simp only[az]at z5
 refine ae (al Z (fun z5=>?_) (fun z5=>?_))
 try simp only[az]at z5
 refine ab (aa Z (jf [9,6,4,3,2,1,0] Z (aB Z (pG h1 h2) 11000 Z (js Z (jf [2,6,4,3,1,0] Z (jr ?_))))))
 refine am Z ?_
 unfold aK cC;simp_all
 try simp only[az]at z5
 contradiction
 try simp only[az]at z5
 refine ag (aa Z (jn (al Z (fun z5=>?_) (fun z5=>?_))))
 try simp only[az]at z5
 refine ab (aa Z (jf [9,7,6,4,3,2,1,0] Z (aB Z (pG h1 h2) 11000 Z (js Z (jf [2,7,6,4,3,1,0] Z (jr ?_))))))
 refine am Z ?_
 unfold aK cC;simp_all
 try simp only[az]at z5
 refine af (ab (aa Z (jf [11,7,6,4,3,2,1,0] Z (jn (al Z (fun z11=>?_) (fun z11=>?_))))))
 try simp only[az]at z11
 refine ae (al Z (fun z11=>?_) (fun z11=>?_))
 try simp only[az]at z11
 refine ab (aa Z (jf [15,7,6,4,3,2,1,0] Z (aB Z (qv h1 h2) 17000 Z (js Z (jf [2,7,6,4,3,1,0] Z (jr ?_))))))
 refine am Z ?_
 unfold aK cC;simp_all
 try simp only[az]at z11
 contradiction
 try simp only[az]at z11
 refine ag (aa Z (jn (al Z (fun z11=>?_) (fun z11=>?_))))
 try simp only[az]at z11
 refine ab (aa Z (jf [15,13,7,6,4,3,2,1,0] Z (aB Z (qv h1 h2) 17000 Z (js Z (jf [2,13,7,6,4,3,1,0] Z (jr ?_))))))
 refine am Z ?_
 unfold aK cC;simp_all
 try simp only[az]at z11
 refine af (ab (aa Z (jf [17,13,7,6,4,3,2,1,0] Z (jn (al Z (fun z17=>?_) (fun z17=>?_))))))
 try simp only[az]at z17
 refine ae (al Z (fun z17=>?_) (fun z17=>?_))
 try simp only[az]at z17
 refine ab (aa Z (jf [21,13,7,6,4,3,2,1,0] Z (aB Z (qu h1 h2) 23000 Z (js Z (jf [2,13,7,6,4,3,1,0] Z (jr ?_))))))
 refine am Z ?_
 unfold aK cC;simp_all
 try simp only[az]at z17
 contradiction
 try simp only[az]at z17
 refine ag (aa Z (jn (al Z (fun z17=>?_) (fun z17=>?_))))
 try simp only[az]at z17
 refine ab (aa Z (jf [21,19,13,7,6,4,3,2,1,0] Z (aB Z (qu h1 h2) 23000 Z (js Z (jf [2,19,13,7,6,4,3,1,0] Z (jr ?_))))))
 refine am Z ?_
 unfold aK cC;simp_all
 try simp only[az]at z17
 refine ab (aa Z (jf [23,19,13,7,6,4,3,2,1,0] Z (jn (al Z (fun z23=>?_) (fun z23=>?_)))))
 try simp only[az]at z23
 refine ab (aa Z (jf [26,19,13,7,6,4,3,2,1,0] Z (aB Z (sS h1 h2) 28000 Z (js Z (jf [2,19,13,7,6,4,3,1,0] Z (jr ?_))))))
 refine am Z ?_
 unfold aK cC;simp_all
 try simp only[az]at z23
 refine af (ab (aa Z (jf [28,19,13,7,6,4,3,2,1,0] Z (jn (al Z (fun z28=>?_) (fun z28=>?_))))))
 try simp only[az]at z28
 refine ae (al Z (fun z28=>?_) (fun z28=>?_))
 try simp only[az]at z28
 refine ab (aJ Z (jf [2,28,19,13,7,6,4,3,1,0] Z (jr ?_)))
 refine am Z ?_
 unfold aK cC;simp_all
 try simp only[az]at z28
 contradiction
 try simp only[az]at z28
 refine ab (aa Z (jn (al Z (fun z28=>?_) (fun z28=>?_))))
 try simp only[az]at z28
 refine ae (al Z (fun z28=>?_) (fun z28=>?_))
 try simp only[az]at z28
 refine ab (aJ Z (jf [2,28,30,19,13,7,6,4,3,1,0] Z (jr ?_)))
 refine am Z ?_
 unfold aK cC;simp_all
 try simp only[az]at z28
 contradiction
 try simp only[az]at z28
 refine ab (aa Z (jn (al Z (fun z28=>?_) (fun z28=>?_))))
 try simp only[az]at z28
 refine ae (al Z (fun z28=>?_) (fun z28=>?_))
 try simp only[az]at z28
 refine ab (aJ Z (jf [2,28,31,30,19,13,7,6,4,3,1,0] Z (jr ?_)))
 refine am Z ?_
 unfold aK cC;simp_all
 try simp only[az]at z28
 contradiction
 try simp only[az]at z28
 refine ab (aa Z (jn (al Z (fun z28=>?_) (fun z28=>?_))))
 try simp only[az]at z28
 refine ae (al Z (fun z28=>?_) (fun z28=>?_))
 try simp only[az]at z28
 refine ab (aJ Z (jf [2,32,31,30,19,13,7,6,4,3,1,0] Z (jr ?_)))
 refine am Z ?_
 unfold aK cC;simp_all
 try simp only[az]at z28
 contradiction
 try simp only[az]at z28
 refine ag (aa Z (jn (al Z (fun z28=>?_) (fun z28=>?_))))
 try simp only[az]at z28
 refine ab (aJ Z (jf [2,33,32,31,30,19,13,7,6,4,3,1,0] Z (jr ?_)))
 refine am Z ?_
 unfold aK cC;simp_all
 try simp only[az]at z28
 refine ae (ab (js Z (jr ?_)))
 refine am Z ?_
 unfold aK cC;simp_all
theorem s4:MQ h1 h2 103 [.agg (x.cells.map .d)] [] (Plain (eB (!aK x))):=by
 refine ac ?_ Z
 refine jB 6 h1 h2 Tryz.func103 Z fun O hF=>?_
 refine ab (jx Z (js Z (aX (js Z (jf [3,2,0] Z (aB Z (sZ h1 h2) 5000 Z (aa Z (jf [2,0] Z (jr ?_)))))))))
 refine am Z ?_
 first|rfl|skip
variable{k:Int}
theorem sU{p:Pt}:MQ h1 h2 112 [.agg (p.cells.map .d),ptr [.int .i64 k]] [] (Plain (eB (decide (p.k=k)))):=by
 refine ac ?_ Z
 refine jB 8 h1 h2 Tryz.func112 Z fun O hF=>?_
 refine ab (jx Z (js Z (aX (aJ Z (js Z (jf [3,0] Z (jr ?_)))))))
 refine am Z ?_
 first|rfl|skip
def e7{α:Type}(p:α→Bool)(l:List α):Int:=if l.any p=true then(l.findIdx p:Nat)else -1
theorem fX{α:Type}{p:α→Bool}{l:List α}(h: ∀j (hj:j<l.length),p l[j]=false):e7 p l= -1:=by rw[e7,if_neg (by rw[pZ h];decide)]
theorem fY{α:Type}{p:α→Bool}{l:List α}{i:Nat}(hi:i<l.length)(h: ∀j (hj:j<l.length),j<i→p l[j]=false)(hn:p l[i]=true):e7 p l=i:=by
 rw[e7,if_pos (oN i hi hn)]
 exact congrArg Nat.cast ((List.findIdx_eq hi).2 ⟨hn,fun j hj=>by simp[h j (by omega) hj]⟩)
theorem kJ{α:Type}{p:α→Bool}{l:List α}:decide (e7 p l≥0)=l.any p:=by
 unfold e7
 cases h:l.any p<;>simp
theorem qY:MQ h1 h2 120 [i8 c,.c (.fn 103 [])] [] (Plain (eI (e7 (fun x:In=>!aK x) c))):=by
 refine ac ?_ Z
 refine jB 19 h1 h2 Tryz.func120 Z fun O hF=>?_
 have hl:c.length≤L:=by simpa[As.fact,A.fact,M.fact,D.fact,Ds.fact]using hF.1.1
 refine ab (js Z (jn (af (ab (js Z ?_)))))
 first|refine bA Z ?_|refine js Z ?_|refine aQ Z Z ?_
 refine js Z (jn (ak (aq (X:=Nat) (fun i=>⟨[(0,i8 c),(1,.c (.fn 103 [])),(7,eI c.length),(8,eI i)],[]⟩) (fun i=>i≤c.length∧∀j (h:j<c.length),j<i→(fun x:In=>!aK x) c[j]=false) (fun i=>c.length-i) 0 (Ent.env ⟨Z,Z,Z,Z,ao⟩) ?_ (fun i hi=>?_))))
 exact⟨bZ _,fun j h hj=>absurd hj (Nat.not_lt_zero j)⟩
 refine ab (js Z (jn (af (al Z (fun z9=>?_) (fun z9=>?_)))))
 refine ae (af (ak (ab ?_)))
 have hil:i<c.length:=by have:=bK z9;omega
 refine aa Z (aX (bc Z ?_))
 first|refine n0 Z Z ?_|refine eZ Z Z ?_|refine aQ Z Z ?_
 refine js Z (aV [(15,_),(11,_),(5,_),(10,_),(9,_),(0,_),(1,_),(7,_),(8,_)] [] ⟨Z,Z,Z,Z,Z,Z,Z,Z,Z,ao⟩ Z (aB Z (s4 (x:=c.getD i default) h1 h2) 17000 Z (jf [16,5,10,9,0,1,7,8] Z (jn (al Z (fun z16=>?_) (fun z16=>?_))))))
 refine ab (aa Z (jr ?_))
 refine am Z ?_
 rw[au hil]at z16
 rw[fY hil hi.2 z16]
 refine ae (ag ?_)
 first|refine ji Z ?_|refine aQ Z Z ?_
 refine js Z (jn ?_)
 refine⟨i+1,Ent.env ⟨Z,Z,Z,Z,ao⟩,⟨by omega,fun j h hj=>?_⟩,by omega⟩
 by_cases e:j=i
 subst e;rw[au h]at z16;exact z16
 exact hi.2 j h (by omega)
 refine aL (ab (js Z (jr ?_)))
 refine am Z ?_
 have h9:=ce z9
 rw[fX (fun j hj=>hi.2 j hj (by omega))]
theorem sV{ps:List Pt}:MQ h1 h2 111 [oi ps,.c (.fn 112 [.d (.ptr [.int .i64 k] 0)])] [] (Plain (eI (e7 (fun p:Pt=>decide (p.k=k)) ps))):=by
 refine ac ?_ Z
 refine jB 19 h1 h2 Tryz.func111 Z fun O hF=>?_
 have hl:ps.length≤L:=by simpa[As.fact,A.fact,M.fact,D.fact,Ds.fact]using hF.1.1
 refine ab (js Z (jn (af (ab (js Z ?_)))))
 first|refine bA Z ?_|refine js Z ?_|refine aQ Z Z ?_
 refine js Z (jn (ak (aq (X:=Nat) (fun i=>⟨[(0,oi ps),(1,.c (.fn 112 [.d (.ptr [.int .i64 k] 0)])),(7,eI ps.length),(8,eI i)],[]⟩) (fun i=>i≤ps.length∧∀j (h:j<ps.length),j<i→(fun p:Pt=>decide (p.k=k)) ps[j]=false) (fun i=>ps.length-i) 0 (Ent.env ⟨Z,Z,Z,Z,ao⟩) ?_ (fun i hi=>?_))))
 exact⟨bZ _,fun j h hj=>absurd hj (Nat.not_lt_zero j)⟩
 refine ab (js Z (jn (af (al Z (fun z9=>?_) (fun z9=>?_)))))
 refine ae (af (ak (ab ?_)))
 have hil:i<ps.length:=by have:=bK z9;omega
 refine aa Z (aX (bc Z ?_))
 first|refine n0 Z Z ?_|refine eZ Z Z ?_|refine aQ Z Z ?_
 refine js Z (aV [(15,_),(11,_),(5,_),(10,_),(9,_),(0,_),(1,_),(7,_),(8,_)] [] ⟨Z,Z,Z,Z,Z,Z,Z,Z,Z,ao⟩ Z (aB Z (sU (k:=k) (p:=ps.getD i default) h1 h2) 17000 Z (jf [16,5,10,9,0,1,7,8] Z (jn (al Z (fun z16=>?_) (fun z16=>?_))))))
 refine ab (aa Z (jr ?_))
 refine am Z ?_
 rw[au hil]at z16
 rw[fY hil hi.2 z16]
 refine ae (ag ?_)
 first|refine ji Z ?_|refine aQ Z Z ?_
 refine js Z (jn ?_)
 refine⟨i+1,Ent.env ⟨Z,Z,Z,Z,ao⟩,⟨by omega,fun j h hj=>?_⟩,by omega⟩
 by_cases e:j=i
 subst e;rw[au h]at z16;exact z16
 exact hi.2 j h (by omega)
 refine aL (ab (js Z (jr ?_)))
 refine am Z ?_
 have h9:=ce z9
 rw[fX (fun j hj=>hi.2 j hj (by omega))]
theorem rJ:MQ h1 h2 102 [i8 c,.c (.fn 103 [])] [] (Plain (eB (c.any (fun x:In=>!aK x)))):=by
 refine ac ?_ Z
 refine jB 9 h1 h2 Tryz.func102 Z fun O hF=>?_
 refine ab (js Z (aX (aa Z (br O Z Z Z Z (qY (c:=c) h1 h2) (.cons (.c .d) (.cons (.c (.fn .nil)) .nil)) Z Z Z Z Z (B0:=8000) Z (aa Z (jr ?_))))))
 refine am Z ?_
 exact congrArg eB kJ
theorem tc:MQ h1 h2 76 [i8 c] [] (Plain (eB (dh c))):=by
 refine ac ?_ Z
 refine jB 12 h1 h2 Tryz.func76 Z fun O hF=>?_
 have hl:c.length≤L:=by simpa[As.fact,A.fact,M.fact,D.fact,Ds.fact]using hF.1.1
 refine ab (js Z (aX (js Z ?_)))
 first|refine bA Z ?_|refine js Z ?_|refine aQ Z Z ?_
 refine aB Z (mV h1 h2) 6000 Z (aB Z (i7 h1 h2) 7000 Z (js Z (aA 3 Z Z Z (fun hx=>ax hx Z (bu O hx Z Z Z Z (rJ (c:=c) h1 h2) (.cons (.c .d) (.cons (.c (.fn .nil)) .nil)) Z Z Z Z Z Z Z (B0:=10000) Z (ax hx Z (AN.nil)))) Z Z ?_)))
 first|refine ah (ar O Z Z Z Z Z) Z ?_|refine ah (ay O Z Z Z Z Z) Z ?_|refine ah (Val.pickB O Z Z Z Z Z) Z ?_
 refine js Z (jr ?_)
 refine am Z ?_
 rw[Bool.cond_false_right,show dh c=_ from Bool.and_comm _ _,List.all_eq_not_any_not]
theorem tb:MQ h1 h2 83 [n8 a,eI k] [] (Plain (eI (e7 (fun p:Pt=>decide (p.k=k)) a.pts))):=by
 refine ac ?_ Z
 refine jB 9 h1 h2 Tryz.func83 Z fun O hF=>?_
 refine ab (jx Z (aW ?_))
 refine bf (Ent.freeze 2 (e':=[(2,_),(1,_)]) Z (.cons Z (.c (.box (cs:=a.data) Z (bj Z))) (fe [1] Z)) (.skip .nil)) ?_
 refine aW ?_
 refine jx Z (aW ?_)
 refine bf (Ent.freeze 3 (e':=[(3,_),(2,_)]) Z (.cons Z (.c (.box (cs:=[.int .i64 k]) Z (bj Z))) (fe [2] Z)) (.skip .nil)) ?_
 refine aW ?_
 refine js Z (aX (bc Z (jf [7,6,4] Z (br O Z Z Z Z (sV (ps:=a.pts) (k:=k) h1 h2) (.cons (.c .d) (.cons (.c (.fn (.cons .d .nil))) .nil)) Z Z Z Z Z (B0:=9000) Z (js Z (jf [4] Z (jr ?_)))))))
 refine am Z ?_
 first|rfl|skip
theorem rT{a:An}{i:Nat}:(bif (bif !bh (a.pts.getD i default).fs 6 then true else !(cC 0 ((a.code.length:Int)-1) (a.pts.getD i default).k))then true else(bif decide ((0:Int)<i)then decide ((a.pts.getD i default).k≤(a.pts.getD (i-1) default).k)else false))= !mL a.code.length a.pts i:=by
 unfold mL cC
 rw[show decide ((0:Int)<i)=decide (0<i)from decide_eq_decide.2 (by omega)]
 cases decide (0≤(a.pts.getD i default).k)<;>cases decide ((a.pts.getD i default).k≤(a.code.length:Int)-1)<;>cases bh (a.pts.getD i default).fs 6<;>cases decide (0<i)<;>cases decide ((a.pts.getD i default).k≤(a.pts.getD (i-1) default).k)<;>rfl
theorem c71:MQ h1 h2 36 [n8 a] [] (Plain (eB (cU a))):=by
 refine ac ?_ Z
 refine jB 65 h1 h2 Tryz.func36 Z fun O hF=>?_
 have hl:a.code.length≤L:=by simpa[As.fact,A.fact,M.fact,Ms.fact,D.fact,Ds.fact]using hF.1.2.2.1.1
 have hlp:a.pts.length≤L:=by simpa[As.fact,A.fact,M.fact,Ms.fact,D.fact,Ds.fact]using hF.1.2.2.2.1.1
 refine ab (jx Z (aW ?_))
 refine bf (Ent.freeze 1 (e':=[(1,_),(0,_)]) Z (.cons Z (.c (.box (cs:=a.data) Z (bj Z))) (fe [0] Z)) (.skip .nil)) ?_
 refine aW ?_
 refine js Z (jn (af (ab (aa Z (jf [6,2,1,0] Z (aB Z (tc h1 h2) 8000 Z (aa Z (jf [9,2,1,0] Z (aA 4 Z Z Z (fun hx=>ax hx Z (ax hx Z (bu O hx Z Z Z Z (mf h1 h2) (aj Z) Z Z Z Z Z Z Z (B0:=13000) Z (ax hx Z (AN.nil))))) Z Z ?_)))))))))
 first|refine ah (ay O Z Z Z Z Z) Z ?_|refine ah (Val.pickB O Z Z Z Z Z) Z ?_|refine ah (ar O Z Z Z Z Z) Z ?_
 refine js Z (jf [15,2,1,0] Z (aA 4 Z Z Z (fun hx=>ax hx Z (ax hx Z (bu O hx Z Z Z Z (mf h1 h2) (aj Z) Z Z Z Z Z Z Z (B0:=19000) Z (ax hx Z (AN.nil))))) Z Z ?_))
 first|refine ah (ay O Z Z Z Z Z) Z ?_|refine ah (Val.pickB O Z Z Z Z Z) Z ?_|refine ah (ar O Z Z Z Z Z) Z ?_
 refine js Z (jf [21,2,1,0] Z (aA 4 Z Z Z (fun hx=>ax hx Z (ax hx Z (c5 hx (aU O Z Z Z Z Z Z Z Z) Z (ax hx Z (AN.nil))))) Z Z ?_))
 first|refine ah (ay O Z Z Z Z Z) Z ?_|refine ah (Val.pickB O Z Z Z Z Z) Z ?_|refine ah (ar O Z Z Z Z Z) Z ?_
 refine jf [26,2,1,0] Z (jn (al Z (fun z26=>?_) (fun z26=>?_)))
 refine ab (js Z (jr ?_))
 refine am Z ?_
 rw[nl z26]
 refine ae (af (ab (aa Z ?_)))
 first|refine bA Z ?_|refine js Z ?_|refine aQ Z Z ?_
 refine js Z (jf [30,29,28,2,1,0] Z (jn (ak (aq (X:=Nat) (fun i=>⟨[(1,ptr a.data),(28,oi a.pts),(29,eI a.pts.length),(30,eI i)],[]⟩) (fun i=>i≤a.pts.length∧∀j,j<i→mL a.code.length a.pts j=true) (fun i=>a.pts.length-i) 0 (Ent.env ⟨Z,Z,Z,Z,ao⟩) ?_ (fun i hi=>?_)))))
 exact⟨bZ _,fun j hj=>absurd hj (Nat.not_lt_zero j)⟩
 refine ab (js Z (jn (af (al Z (fun z31=>?_) (fun z31=>?_)))))
 refine ae (af (ak (ab ?_)))
 have hil:i<a.pts.length:=by have:=bK z31;omega
 have hcl:=(mt (fH z26).2.2).2
 refine js Z ?_
 first|refine n0 Z Z ?_|refine eZ Z Z ?_|refine aQ Z Z ?_
 refine js Z (jf [34,32,31,1,28,29,30] Z (jl Z (aW ?_)))
 refine js Z (jf [3,4,34,31,1,28,29,30] Z (jo Z (aW ?_)))
 refine bf (Ent.freeze 4 (e':=[(4,_),(1,_),(28,_),(29,_),(30,_),(3,_)]) Z (.cons Z (.c (.box (cs:=(a.pts.getD i default).cells) Z (bj Z))) (fe [1,28,29,30,3] Z)) (.skip .nil)) ?_
 refine aW ?_
 refine jn (af (bJ (F:=⟨[(63,eB (bif (bif !bh (a.pts.getD i default).fs 6 then true else !(cC 0 ((a.code.length:Int)-1) (a.pts.getD i default).k))then true else(bif decide ((0:Int)<i)then decide ((a.pts.getD i default).k≤(a.pts.getD (i-1) default).k)else false))),(1,ptr a.data),(28,oi a.pts),(29,eI a.pts.length),(30,eI i)],[]⟩) ?_ ?_))
 cases hb6:!bh (a.pts.getD i default).fs 6 with
 | true=>
  refine oR [_,_,_,_,_,_,_,_,_,_,_,_,_,_,_,_,_,_,_,_,_,_,_,_,_,_,_,_,_] [bp,aT [0],pe [0,1] 0,pn [0,1,2] 1 1,pn (rg 0 4) 1 1,pn (rg 0 5) 0 1,pn (rg 0 6) 0 1,pn (rg 0 5) 0 1,pn [0,1,2,3,4,7] 0 1,pn [0,1,2,3,4,7,8] 0 1,pn (rg 0 10) 0 1,pn (rg 0 11) 0 1,pn (rg 0 12) 1 1,pn (rg 0 13) 1 1,pn (rg 0 14) 0 1,pn (rg 0 15) 0 1,pn (rg 0 16) 0 1,pn (rg 0 17) 0 1,pn (rg 0 18) 0 1,pn (rg 0 17) 0 1,pn (rg 0 17++[19]) 0 1,pn (rg 0 21) 0 1,pn (rg 0 22) 0 1,pn (rg 0 23) 0 1,pn (rg 0 17) 0 1,pn (rg 0 17++[24]) 0 1,pn (rg 0 26) 0 1,pn (rg 0 27) 0 1,pn (rg 0 28) 1 1] [2] [_,_] (kc Z (kc Z (ai (aD O (B0:=38000) Z Z Z Z (mf h1 h2) (aj Z) Z Z Z Z Z) (ai ((V Z).cast (v':=eB true) (congrArg eB hb6)) (kc Z (ai ⟨Z,Z⟩ (ai ⟨Z,Z⟩ (ai ⟨Z,Z⟩ (ai ⟨Z,Z⟩ (ai ⟨Z,Z⟩ (ai ⟨Z,Z⟩ (ai ⟨Z,Z⟩ (ai (ch O Z Z Z Z Z) (kc Z (ai ⟨Z,Z⟩ (ai ⟨Z,Z⟩ (ai ⟨Z,Z⟩ (ai ⟨Z,Z⟩ (ai ⟨Z,Z⟩ (ai ⟨Z,Z⟩ (ai ⟨Z,Z⟩ (ai ⟨Z,Z⟩ (ai ⟨Z,Z⟩ (ai ⟨Z,Z⟩ (ai ⟨Z,Z⟩ (ai ⟨Z,Z⟩ (ai ⟨Z,Z⟩ (ai ⟨Z,Z⟩ (ai (ch O Z Z Z Z Z) trivial))))))))))))))))))))))))))))) ?_
  exact⟨Z,Ent.env ⟨Z,Z,Z,Z,Z,ao⟩⟩
 | false=>
  cases hb6b:!(cC 0 ((a.code.length:Int)-1) (a.pts.getD i default).k)with
  | true=>
   refine oR [_,_,_,_,_,_,_,_,_,_,_,_,_,_,_,_,_,_,_,_,_,_,_,_,_,_,_,_,_] [bp,aT [0],pe [0,1] 0,pn [0,1,2] 1 1,pn (rg 0 4) 1 1,pn (rg 0 5) 1 1,pn (rg 0 6) 1 1,pn (rg 0 5) 1 1,pn [0,1,2,3,4,7] 1 1,pn [0,1,2,3,4,7,8] 1 1,pe (rg 0 10) 1,pn (rg 0 11) 2 2,pn (rg 0 12) 2 2,pn (rg 0 13) 2 2,pn (rg 0 14) 0 2,pn (rg 0 15) 0 2,pn (rg 0 16) 0 2,pn (rg 0 17) 0 2,pn (rg 0 18) 0 2,pn (rg 0 17) 0 2,pn (rg 0 17++[19]) 0 2,pn (rg 0 21) 0 2,pn (rg 0 22) 0 2,pn (rg 0 23) 0 2,pn (rg 0 17) 0 2,pn (rg 0 17++[24]) 0 2,pn (rg 0 26) 0 2,pn (rg 0 27) 0 2,pn (rg 0 28) 2 2] [2,10] [_,_,_] (kc Z (kc Z (ai (aD O (B0:=38000) Z Z Z Z (mf h1 h2) (aj Z) Z Z Z Z Z) (ai ((V Z).cast (v':=eB false) (congrArg eB hb6)) (kc Z (kc Z (kc Z (kc Z (kc Z (ai (aU O Z Z Z Z Z Z Z Z) (ai (aD O (B0:=46000) Z Z Z Z (rZ (k:=(a.pts.getD i default).k) (n:=a.code.length) h1 h2 (by omega)) (aj Z) Z Z Z Z Z) (ai ((V Z).cast (v':=eB true) (congrArg eB hb6b)) (ai (aS O Z Z Z Z Z) (kc Z (ai ⟨Z,Z⟩ (ai ⟨Z,Z⟩ (ai ⟨Z,Z⟩ (ai ⟨Z,Z⟩ (ai ⟨Z,Z⟩ (ai ⟨Z,Z⟩ (ai ⟨Z,Z⟩ (ai ⟨Z,Z⟩ (ai ⟨Z,Z⟩ (ai ⟨Z,Z⟩ (ai ⟨Z,Z⟩ (ai ⟨Z,Z⟩ (ai ⟨Z,Z⟩ (ai ⟨Z,Z⟩ (ai (ch O Z Z Z Z Z) trivial))))))))))))))))))))))))))))) ?_
   exact⟨Z,Ent.env ⟨Z,Z,Z,Z,Z,ao⟩⟩
  | false=>
   cases hb6c:decide ((0:Int)<i)with
   | true=>
    have hi0:0<i:=by have:=bK hb6c;omega
    refine oR [_,_,_,_,_,_,_,_,_,_,_,_,_,_,_,_,_,_,_,_,_,_,_,_,_,_,_,_,_] [bp,aT [0],pe [0,1] 0,pn [0,1,2] 1 1,pn (rg 0 4) 1 1,pn (rg 0 5) 1 1,pn (rg 0 6) 1 1,pn (rg 0 5) 1 1,pn [0,1,2,3,4,7] 1 1,pn [0,1,2,3,4,7,8] 1 1,pe (rg 0 10) 1,pn (rg 0 11) 2 2,pn (rg 0 12) 2 2,pn (rg 0 13) 2 2,pn (rg 0 14) 2 2,pn (rg 0 15) 2 2,pn (rg 0 16) 2 2,pn (rg 0 17) 2 2,pn (rg 0 18) 2 2,pn (rg 0 17) 2 2,pn (rg 0 17++[19]) 2 2,pn (rg 0 21) 2 2,pn (rg 0 22) 2 2,pn (rg 0 23) 2 2,pn (rg 0 17) 2 2,pn (rg 0 17++[24]) 2 2,pn (rg 0 26) 2 2,pn (rg 0 27) 2 2,pn (rg 0 28) 2 2] [2,10] [_,_,_] (kc Z (kc Z (ai (aD O (B0:=38000) Z Z Z Z (mf h1 h2) (aj Z) Z Z Z Z Z) (ai ((V Z).cast (v':=eB false) (congrArg eB hb6)) (kc Z (kc Z (kc Z (kc Z (kc Z (ai (aU O Z Z Z Z Z Z Z Z) (ai (aD O (B0:=46000) Z Z Z Z (rZ (k:=(a.pts.getD i default).k) (n:=a.code.length) h1 h2 (by omega)) (aj Z) Z Z Z Z Z) (ai ((V Z).cast (v':=eB false) (congrArg eB hb6b)) (ai (aS O Z Z Z Z Z) (kc Z (kc Z (ai ((V Z).cast (v':=eB true) (congrArg eB hb6c)) (kc Z (kc Z (kc Z (kc Z (ai ((vF Z).cast (v':=eI ((i-1:Nat):Int)) (congrArg eI (by omega))) (ai (vN Z) (kc Z (kc Z (kc Z (kc Z (kc Z (ai (ch O Z Z Z Z Z) (ai (aS O Z Z Z Z Z) trivial))))))))))))))))))))))))))))) ?_
    exact⟨Z,Ent.env ⟨Z,Z,Z,Z,Z,ao⟩⟩
   | false=>
    refine oR [_,_,_,_,_,_,_,_,_,_,_,_,_,_,_,_,_,_,_,_,_,_,_,_,_,_,_,_,_] [bp,aT [0],pe [0,1] 0,pn [0,1,2] 1 1,pn (rg 0 4) 1 1,pn (rg 0 5) 1 1,pn (rg 0 6) 1 1,pn (rg 0 5) 1 1,pn [0,1,2,3,4,7] 1 1,pn [0,1,2,3,4,7,8] 1 1,pe (rg 0 10) 1,pn (rg 0 11) 2 2,pn (rg 0 12) 2 2,pn (rg 0 13) 2 2,pn (rg 0 14) 2 2,pn (rg 0 15) 2 2,pn (rg 0 16) 2 2,pn (rg 0 17) 0 2,pn (rg 0 18) 0 2,pn (rg 0 17) 0 2,pn (rg 0 17++[19]) 0 2,pn (rg 0 21) 0 2,pn (rg 0 22) 0 2,pn (rg 0 23) 0 2,pn (rg 0 17) 0 2,pn (rg 0 17++[24]) 0 2,pn (rg 0 26) 0 2,pn (rg 0 27) 2 2,pn (rg 0 28) 2 2] [2,10] [_,_,_] (kc Z (kc Z (ai (aD O (B0:=38000) Z Z Z Z (mf h1 h2) (aj Z) Z Z Z Z Z) (ai ((V Z).cast (v':=eB false) (congrArg eB hb6)) (kc Z (kc Z (kc Z (kc Z (kc Z (ai (aU O Z Z Z Z Z Z Z Z) (ai (aD O (B0:=46000) Z Z Z Z (rZ (k:=(a.pts.getD i default).k) (n:=a.code.length) h1 h2 (by omega)) (aj Z) Z Z Z Z Z) (ai ((V Z).cast (v':=eB false) (congrArg eB hb6b)) (ai (aS O Z Z Z Z Z) (kc Z (kc Z (ai ((V Z).cast (v':=eB false) (congrArg eB hb6c)) (kc Z (ai ⟨Z,Z⟩ (ai ⟨Z,Z⟩ (ai ⟨Z,Z⟩ (ai ⟨Z,Z⟩ (ai ⟨Z,Z⟩ (ai ⟨Z,Z⟩ (ai ⟨Z,Z⟩ (ai ⟨Z,Z⟩ (ai ⟨Z,Z⟩ (ai ⟨Z,Z⟩ (ai (aS O Z Z Z Z Z) (ai (aS O Z Z Z Z Z) trivial))))))))))))))))))))))))))))) ?_
    exact⟨Z,Ent.env ⟨Z,Z,Z,Z,Z,ao⟩⟩
 refine al Z (fun z63=>?_) (fun z63=>?_)
 refine ab (js Z (jr ?_))
 refine am Z ?_
 rw[(fH z26).1,jW i hil (pD (rT.symm.trans z63))]
 refine ae (ag ?_)
 first|refine ji Z ?_|refine aQ Z Z ?_
 refine js Z (jn ?_)
 have h9:mL a.code.length a.pts i=true:=pC (rT.symm.trans z63)
 refine⟨i+1,Ent.env ⟨Z,Z,Z,Z,ao⟩,⟨by omega,fun j hj=>?_⟩,by omega⟩
 by_cases e:j=i
 subst e;exact h9
 exact hi.2 j (by omega)
 refine aL (ab (js Z (jr ?_)))
 refine am Z ?_
 rw[(fH z26).1,lG fun j hj=>hi.2 j (by have:=ce z31;omega)]
end Go.Al
