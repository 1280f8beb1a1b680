/- Proofs and annotated code: contracts of both sides' functions that say what is valid; sizes, copies. -/
import Derived.Test.YtdlhjplhmmfnnaaGreatDoorD
import Derived.Test.YtdlhjplhmmfnnaaGreatDoorC
import Derived.Test.YtdlhjplhmmfnnaaGreatDoorRows
set_option linter.unusedVariables false
set_option linter.unusedSimpArgs false
set_option maxRecDepth 10000
set_option maxHeartbeats 4000000
open Go.Proofs
namespace Go.Al
variable{L:Nat}(h1:4096≤L)(h2:L≤1073741824)
theorem pA{c:Int}{xs:List Int}(h:(im c xs).2=true):(im c xs).1.ok=true:=by
 unfold im at h ⊢
 split at h
 rename_i h1;rw[if_pos h1];exact h1
 cases h
theorem oc{p:List Nd}(h:isB p=true):1≤p.length∧p.length≤60∧(∀n∈p,ndB n=true)∧endP p 0=p.length:=by
 simp only[isB,bK,decide_eq_true_eq,List.all_eq_true]at h
 exact⟨by omega,by omega,h.2.1,h.2.2⟩
theorem n7{n:Nd}(h:ndB n=true):n.kind=1∨n.kind=2∨n.kind=3:=by
 unfold ndB at h
 split at h
 exact .inl ‹_›
 split at h
 exact .inr (.inl ‹_›)
 split at h
 exact .inr (.inr ‹_›)
 cases h
structure CS where
  all:List (List Tm)
  has:List Bool
  right:List Bool
  flaw:Int
structure CSok(p:List Nd)(k:Nat)(z:CS):Prop where
  all:z.all.length=k
  has:z.has.length=k
  right:z.right.length=k
  flaw: -1≤z.flaw∧z.flaw<k
  ctx: ∀j,j<k→z.has.getD j default=true→CtxOk (z.all.getD j default)
  good: ∀j,j<k→z.right.getD j default=true→z.has.getD j default=true∧tm (p.getD j default) (z.all.getD j default)=true
structure Con where
  all:List (List Tm)
  has:List Bool
  flaw:Int
  ok:Bool
theorem g2{a b:Bool}:(bif !a then true else !b)= !(a&&b):=by cases a<;>cases b<;>rfl
abbrev nr(p:List Nd):List D:=[wa p]
abbrev o9(ps:List (List Nd)):D:=.slc 1 (ps.map nr)
abbrev lP(ps:List (List Nd)):A:=.c (.d (o9 ps))
theorem xj{t:Tm}:MQ h1 h2 79 [i7 t] [] (Plain (i7 ⟨t.c,bO t.xs⟩)):=by
 refine MC.data (jB 26 h1 h2 Tryz.func79 Z fun O hF=>?_)
 have hl:t.xs.length≤L:=by simpa[As.fact,A.fact,M.fact,Ms.fact,D.fact,Ds.fact]using hF.1.2.1.1
 refine ae (jx Z (jl Z (be (ac Z (cm Z (js Z (jn (ag (am (av (X:=Nat) (fun n=>⟨[(1,.c (.pt 1 0 0)),(2,.c (.pt 2 0 0)),(3,eI n)],[(1,.box [.d (.int .i64 t.c),.d (cf t.xs)]),(2,.box [.d (.int .i64 0),.d .nils])]⟩) (fun n=>n≤t.xs.length∧bO (t.xs.take n)=bO t.xs) (fun n=>n) t.xs.length (Ent.env ⟨Z,Z,Z,ao⟩) ?_ (fun n hi=>?_)))))))))))
 exact⟨bQ _,by rw[List.take_length]⟩
 refine ag (ae (aF Z (ar 7 Z Z Z (fun hx=>aq hx Z (aq hx Z (aq hx Z (bf hx (vF Z) Z (bf hx (vD Z) Z (aq hx Z (aq hx Z (AN.nil)))))))) Z Z (aa (aj O Z Z Z Z Z) Z (jn (ak Z (fun z17=>?_) (fun z17=>?_)))))))
 refine af (am (ab (js Z (ji Z (js Z (jn ?_))))))
 rw[Bool.cond_false_right,bK,decide_eq_true_eq,decide_eq_true_eq]at z17
 obtain⟨k,hk⟩: ∃k,n=k+1:=⟨n-1,by omega⟩
 subst hk
 have hk2:((k+1:Nat):Int)-1=k:=by omega
 rw[hk2]at z17
 refine⟨k,Ent.to ⟨Z,Z,by rw[hk2];rfl,ao⟩ Z,⟨by omega,?_⟩,Nat.lt_succ_self k⟩
 rw[←hi.2,jk (by omega) (by simpa using z17.2)]
 refine aJ (ae (aF Z ?_))
 have hd:bO (t.xs.take n)=t.xs.take n:=gn hi.1 (by
  rw[Bool.cond_false_right]at z17
  rcases Nat.eq_zero_or_pos n with h0|h0
  ·
   exact .inl h0
  ·
   refine .inr (fun h9=>?_)
   have e1:((n:Int)-1).toNat=n-1:=by omega
   rw[e1,h9]at z17;simp at z17;omega)
 have ht:=hi.2
 rw[hd]at ht
 refine aa ((br O Z Z ⟨by omega,by simp;omega⟩).cast (v':=cd (bO t.xs)) (by rw[←ht];simp[List.map_take])) Z (js Z (jo Z (be (js Z (jo Z (jr ?_))))))
 refine ay Z ?_
 exact .v (.agg (aW Z))
theorem mC{n:Int}:MQ h1 h2 30 [eI n] [] (Plain (eI n)):=by
 refine au ?_ Z
 refine jB 4 h1 h2 Tryz.func30 Z fun O hF=>?_
 refine ae (js Z (be (ac Z (jr ?_))))
 refine ay Z ?_
 first|rfl|skip
variable{k:Int}
theorem AK{n:Nat}(hn:n≤1073741824):MQ h1 h2 91 [eI k,eI n] [] (Plain (eB (cQ 0 ((n:Int)-1) k))):=by
 refine au ?_ Z
 refine jB 10 h1 h2 Tryz.func91 Z fun O hF=>?_
 refine ae (js Z (be (ac Z (aO Z (mC (n:=n) h1 h2) 8000 Z ?_))))
 first|refine ji Z ?_|refine aU Z Z ?_
 refine aO Z (iu h1 h2) 10000 Z (js Z (jr ?_))
 refine ay Z ?_
 first|rfl|skip
theorem xi{x:Int}(hx: -1000000≤x∧x≤1000000):MQ h1 h2 131 [eI x] [] (Plain (eI x.natAbs)):=by
 refine au ?_ Z
 refine jB 7 h1 h2 Tryz.func131 Z fun O hF=>?_
 refine ae (js Z (be (ac Z (ji Z (ac Z (jr ?_))))))
 refine ay Z ?_
 exact congrArg eI (show(if 0-x>x then 0-x else x)=(x.natAbs:Int) by split<;>omega)
def ea(n:Nd):Int:=if ndB n=true then(if n.kind=1 then 0 else if n.kind=2 then 2 else 1)else -1
theorem wI{t:Tm}:MQ h1 h2 82 [i7 t] [] (Rows (.agg [.d (.int .i64 t.c),.rs 0 0 t.xs.length]) [cL t.xs]):=by
 refine cK (jB 9 h1 h2 Tryz.func82 Z fun O hF=>?_)
 refine ae (jx Z (jl Z (jn (ag (lC [_,_,_,_,_,_,_] [pn [] 0 1,pn [0] 0 1,bC,bb [2],pe [2,3] 0,pn (rg 0 5) 1 1,pe (rg 0 6) 1] [4,6] [_,_,_] (ai (kc Z (V Z)) (ai (kc Z (V Z)) (kc Z (kc Z (ai (uB O (B0:=8000) Z Z Z Z (yZ (xs:=t.xs) h1 h2) (ah Z) Z Z Z Z Z) (kc Z (ai (eS Z Z Z) trivial))))))) ?_)))))
 refine sq ?_
 refine⟨.inl Z,_,cY,_,Z,[8000],by decide,Z,Z,Z⟩
theorem B1{n:Nd}(h:n.kind=1):ndB n=((decide (n.fact=0)&&n.term.zero)&&rB n.mul):=by rw[ndB,if_pos h]
theorem BZ{n:Nd}(h:n.kind=2):ndB n=((decide (n.fact=0)&&n.term.ok)&&decide ((n.mul.length:Int)=0)):=by rw[ndB,if_neg (by omega),if_pos h]
theorem BY{n:Nd}(h:n.kind=3):ndB n=((cQ 0 19 n.fact&&n.term.zero)&&decide ((n.mul.length:Int)=0)):=by rw[ndB,if_neg (by omega),if_neg (by omega),if_pos h]
theorem fw{n:Nd}(h:ndB n=false):ea n= -1:=by rw[ea,if_neg (by rw[h];decide)]
theorem dv{n:Nd}(h:ndB n=true):ea n=if n.kind=1 then 0 else if n.kind=2 then 2 else 1:=by rw[ea,if_pos h]
theorem B8{a b c d:Bool}:(bif bif bif a then b else false then c else false then d else false)=((a&&b)&&(d&&c)):=by cases a<;>cases b<;>cases c<;>cases d<;>rfl
theorem B7{a b c:Bool}:(bif bif a then b else false then c else false)=((a&&c)&&b):=by cases a<;>cases b<;>cases c<;>rfl
theorem B6{a b c:Bool}:(bif bif a then b else false then c else false)=((a&&b)&&c):=by cases a<;>cases b<;>cases c<;>rfl
def eQ(f:Nat→Option (Nat×Int)):Nat→Nat→Int→Option (Nat×Int)
  | 0,k,d=>some (k,d)
  | q + 1,k,d=>match f k with
    | none=>none
    | some (k',b)=>eQ f q k' (if b>d then b else d)
def dU : Nat→List Nd→Nat→Option (Nat×Int)
  | 0,_,_=>none
  | n + 1,p,k=>if p.length≤k then none else if ea (p.getD k default)<0 then none else
      (eQ (dU n p) (ea (p.getD k default)).toNat (k+1) 0).map fun r=>(r.1,r.2+1)
theorem cN{f:Nat→Option (Nat×Int)}{q k k':Nat}{d b:Int}(h:f k=some (k',b)):eQ f (q+1) k d=eQ f q k' (if b>d then b else d):=by rw[eQ,h]
theorem eE{f:Nat→Option (Nat×Int)}{q k:Nat}{d:Int}(h:f k=none):eQ f (q+1) k d=none:=by rw[eQ,h]
theorem n8{f:Nat→Option (Nat×Int)}{N:Nat}(hf: ∀k b k',f k=some (k',b)→k<k'∧k'≤N∧0≤b∧b≤(k':Int)-k): ∀{q k:Nat} {d d':Int} {k' s:Nat},eQ f q k d=some (k',d')→k≤N→s≤k→0≤d→d≤(k:Int)-s→k≤k'∧k'≤N∧0≤d'∧d'≤(k':Int)-s
 | 0,k,d,d',k',s,h,hk,hs,h0,h1=>by simp only[eQ,ef,Prod.mk.injEq]at h;omega
 | q + 1,k,d,d',k',s,h,hk,hs,h0,h1=>by
  cases hx:f k with
  | none=>rw[eE hx]at h;cases h
  | some x=>
   obtain⟨k1,b⟩:=x
   rw[cN hx]at h
   have h3:=hf k b k1 hx
   have h4:=n8 hf h h3.2.1 (s:=s) (by omega) (by split<;>omega) (by split<;>omega)
   omega
theorem rk: ∀{n:Nat} {p:List Nd} {k k':Nat} {d:Int},dU n p k=some (k',d)→k<k'∧k'≤p.length∧0≤d∧d≤(k':Int)-k
 | 0,_,_,_,_,h=>by cases h
 | n+1,p,k,k',d,h=>by
  unfold dU at h
  split at h
  cases h
  split at h
  cases h
  simp only[Option.map_eq_some_iff]at h
  obtain⟨⟨k2,d2⟩,h1,h2⟩:=h
  simp only[Prod.mk.injEq]at h2
  have:=n8 (N:=p.length) (fun k b k' h=>rk h) h1 (by omega) (bQ _) (Int.le_refl 0) (by omega)
  omega
abbrev eN(r:Option (Nat×Int)):Int:=match r with|some (k,_)=>k|none=>0
abbrev eD(r:Option (Nat×Int)):Int:=match r with|some (_,d)=>d|none=>0
abbrev eO(r:Option (Nat×Int)):Bool:=match r with|some _=>true|none=>false
abbrev xc(r:Option (Nat×Int)):A:=.tup [eI (eN r),eI (eD r),eB (eO r)]
theorem rc{r:Option (Nat×Int)}(h:eO r=true): ∃k d,r=some (k,d):=by
 cases r with
 | none=>cases h
 | some x=>exact⟨x.1,x.2,Z⟩
theorem uu{r:Option (Nat×Int)}(h:eO r=false):r=none:=by
 cases r with
 | none=>rfl
 | some x=>cases h
theorem ug(n:Nd):ea n≤2:=by unfold ea;split<;>(try split)<;>(try split)<;>decide
def nn(p:List Nd):Bool:=decide ((p.length:Int)≤60)&&(eO (dU (p.length+1) p 0)&&decide (eN (dU (p.length+1) p 0)=p.length))
theorem Bw{n:Nd}:MQ h1 h2 148 [yj n] [] (Plain (eI (ea n))):=by
 refine au ?_ Z
 refine jB 59 h1 h2 Tryz.func148 Z fun O hF=>?_
 have hl:n.mul.length≤L:=by simpa[As.fact,A.fact,M.fact,Ms.fact,D.fact,Ds.fact]using hF.1.2.2.2.2.1.1
 refine ae (jx Z (js Z (jn (ag (lC [_,_,_,_,_,_,_,_,_,_,_,_,_] [pn [] 0 1,pn [0] 0 1,pn [0,1] 0 1,bC,bb [3],pe [3,4] 0,pn [] 0 1,pn [6] 0 1,pn [6,7] 0 1,pn [6,7,8] 0 1,pn (rg 0 6) 1 1,pn (rg 0 6++[10]) 1 1,pn (rg 0 12) 1 1] [5] [_,_] (ai (kc Z (V Z)) (ai (kc Z (V Z)) (ai (kc Z (V Z)) (kc Z (kc Z (ai (aP O (B0:=13000) Z Z Z Z (Bv h1 h2) (ah Z) Z Z Z Z Z) (ai (kc Z (V Z)) (ai (kc Z (V Z)) (ai (ai (bF O Z Z Z Z Z Z Z Z) (bF O Z Z Z Z Z Z Z Z)) (ai (kc Z (V Z)) (kc Z (kc Z (kc Z trivial))))))))))))) ?_)))))
 refine jw [5,4,3,2,1,0] Z (nv ?_)
 refine ae (js Z (jn (ag (ae (ac Z (jn (am (ae (ac Z (jn (ak Z (fun z19=>?_) (fun z19=>?_))))))))))))
 refine ae (ac Z (jf [22,20,18,17,6,5,4,3,2,1,0] Z (ar 1 Z Z Z (fun hx=>aq hx Z (AN.nil)) Z Z ?_)))
 first|refine aa (aj O Z Z Z Z Z) Z ?_|refine aa (al O Z Z Z Z Z) Z ?_|refine aa (Val.pickB O Z Z Z Z Z) Z ?_
 refine js Z (jf [25,20,18,17,6,5,4,3,2,1,0] Z (ar 4 Z Z Z (fun hx=>aq hx Z (aq hx Z (bf hx (bF O Z Z Z Z Z Z Z Z) Z (aq hx Z (AN.nil))))) Z Z ?_))
 first|refine aa (aj O Z Z Z Z Z) Z ?_|refine aa (al O Z Z Z Z Z) Z ?_|refine aa (Val.pickB O Z Z Z Z Z) Z ?_
 refine js Z (jf [31,20,18,17,6,5,4,3,2,1,0] Z (ar 3 Z Z Z (fun hx=>aq hx Z (aq hx Z (bj O hx Z Z Z Z (y1 h1 h2) (ah Z) Z Z Z Z Z Z Z (B0:=35000) Z (AN.nil)))) Z Z ?_))
 first|refine aa (aj O Z Z Z Z Z) Z ?_|refine aa (al O Z Z Z Z Z) Z ?_|refine aa (Val.pickB O Z Z Z Z Z) Z ?_
 refine jf [35,20,18,17,6,5,4,3,2,1,0] Z (jn (ak Z (fun z35=>?_) (fun z35=>?_)))
 refine ab (js Z (jn (ae (ac Z (jf [2,20,18,17,5,4,3,1,0] Z (jr ?_))))))
 refine ay Z ?_
 have hb:ndB n=true:=by rw[B1 (bc z19)];have h9:=z35;rw[B8]at h9;exact h9
 rw[dv hb,if_pos (bc z19)]
 refine af (ae (ac Z (jf [2,20,18,17,5,4,3,1,0] Z (jr ?_))))
 refine ay Z ?_
 have hb:ndB n=false:=by rw[B1 (bc z19)];have h9:=z35;rw[B8]at h9;exact h9
 rw[fw hb]
 refine ae (ac Z (jf [36,20,18,17,6,5,4,3,2,1,0] Z (jn (ak Z (fun z36=>?_) (fun z36=>?_)))))
 refine ae (ac Z (jf [39,20,18,17,6,5,4,3,2,1,0] Z (ar 1 Z Z Z (fun hx=>aq hx Z (AN.nil)) Z Z ?_)))
 first|refine aa (aj O Z Z Z Z Z) Z ?_|refine aa (al O Z Z Z Z Z) Z ?_|refine aa (Val.pickB O Z Z Z Z Z) Z ?_
 refine js Z (jf [42,20,18,17,6,5,4,3,2,1,0] Z (ar 3 Z Z Z (fun hx=>aq hx Z (aq hx Z (bj O hx Z Z Z Z (sC h1 h2) (ah Z) Z Z Z Z Z Z Z (B0:=46000) Z (AN.nil)))) Z Z ?_))
 first|refine aa (aj O Z Z Z Z Z) Z ?_|refine aa (al O Z Z Z Z Z) Z ?_|refine aa (Val.pickB O Z Z Z Z Z) Z ?_
 refine jf [46,20,18,17,6,5,4,3,2,1,0] Z (jn (ak Z (fun z46=>?_) (fun z46=>?_)))
 refine ab (js Z (jn (ae (ac Z (jf [2,20,18,17,5,4,3,1,0] Z (jr ?_))))))
 refine ay Z ?_
 have hb:ndB n=true:=by rw[BZ (bc z36)];have h9:=z46;rw[B7]at h9;exact h9
 rw[dv hb,if_neg (bw z19),if_pos (bc z36)]
 refine af (ae (ac Z (jf [2,20,18,17,5,4,3,1,0] Z (jr ?_))))
 refine ay Z ?_
 have hb:ndB n=false:=by rw[BZ (bc z36)];have h9:=z46;rw[B7]at h9;exact h9
 rw[fw hb]
 refine ae (ac Z (jf [47,20,18,17,6,5,4,3,2,1,0] Z (jn (ak Z (fun z47=>?_) (fun z47=>?_)))))
 refine ae (ac Z (jf [50,20,18,17,6,5,4,3,2,1,0] Z (aO Z (iu h1 h2) 52000 Z (js Z (jf [52,20,18,17,6,5,4,3,2,1,0] Z (ar 1 Z Z Z (fun hx=>aq hx Z (AN.nil)) Z Z ?_))))))
 first|refine aa (aj O Z Z Z Z Z) Z ?_|refine aa (al O Z Z Z Z Z) Z ?_|refine aa (Val.pickB O Z Z Z Z Z) Z ?_
 refine js Z (jf [55,20,18,17,6,5,4,3,2,1,0] Z (ar 1 Z Z Z (fun hx=>aq hx Z (AN.nil)) Z Z ?_))
 first|refine aa (aj O Z Z Z Z Z) Z ?_|refine aa (al O Z Z Z Z Z) Z ?_|refine aa (Val.pickB O Z Z Z Z Z) Z ?_
 refine jf [57,20,18,17,6,5,4,3,2,1,0] Z (jn (ak Z (fun z57=>?_) (fun z57=>?_)))
 refine ab (js Z (jn (ae (ac Z (jf [2,20,18,17,5,4,3,1,0] Z (jr ?_))))))
 refine ay Z ?_
 have hb:ndB n=true:=by rw[BY (bc z47)];have h9:=z57;rw[B6]at h9;exact h9
 rw[dv hb,if_neg (bw z19),if_neg (bw z36)]
 refine af (ae (ac Z (jf [2,20,18,17,5,4,3,1,0] Z (jr ?_))))
 refine ay Z ?_
 have hb:ndB n=false:=by rw[BY (bc z47)];have h9:=z57;rw[B6]at h9;exact h9
 rw[fw hb]
 refine af (ae (ac Z (jf [2,20,18,17,5,4,3,1,0] Z (jr ?_))))
 refine ay Z ?_
 rw[fw (by rw[ndB,if_neg (bw z19),if_neg (bw z36),if_neg (bw z47)])]
variable{p:List Nd}
theorem zw{n k:Nat}(hk:k≤p.length)(hn:p.length<n+1+k)(ih: ∀k',k'≤p.length→p.length<n+k'→MQ h1 h2 96 [dF p,eI k'] [] (Plain (xc (dU n p k')))):MQ h1 h2 96 [dF p,eI k] [] (Plain (xc (dU (n+1) p k))):=by
 refine jB 45 h1 h2 Tryz.func96 Z fun O hF=>?_
 have hl:p.length≤L:=by simpa[As.fact,A.fact,M.fact,D.fact,Ds.fact]using hF.1.1
 refine ae (aF Z (jn (ag (ae (ac Z ?_)))))
 first|refine cm Z ?_|refine js Z ?_|refine aU Z Z ?_
 refine js Z (jn (ak Z (fun z15=>?_) (fun z15=>?_)))
 try simp only[aQ]at z15
 refine ae (aF Z (jr ?_))
 refine⟨.inl Z,_,cY,_,Z,?_,Z⟩
 rw[show dU (n+1) p k=none from if_pos (by omega)]
 try simp only[aQ]at z15
 refine af (ae (ac Z ?_))
 first|refine uG Z Z ?_|refine lA Z Z ?_|refine aU Z Z ?_
 refine js Z (aO Z (Bw (n:=p.getD k default) h1 h2) 21000 Z (js Z (jn (ag (ae (ac Z (jn (ak Z (fun z22=>?_) (fun z22=>?_)))))))))
 try simp only[aQ]at z22
 refine ae (aF Z (jr ?_))
 refine⟨.inl Z,_,cY,_,Z,?_,Z⟩
 rw[show dU (n+1) p k=none by unfold dU;rw[if_neg (by omega)];exact if_pos z22]
 try simp only[aQ]at z22
 refine af (ae (js Z ?_))
 first|refine ji Z ?_|refine aU Z Z ?_
 refine js Z (be (js Z (jn (ag (am (av (X:=Nat×Nat×Int) (fun x=>⟨[(0,dF p),(1,eI x.2.1),(7,eI x.1),(8,eI x.2.2)],[]⟩) (fun x=>x.2.1≤p.length∧k<x.2.1∧eQ (dU n p) (ea (p.getD k default)).toNat (k+1) 0=eQ (dU n p) x.1 x.2.1 x.2.2∧x.1≤2∧0≤x.2.2∧x.2.2≤(x.2.1:Int)-(k+1:Nat)) (fun x=>x.1) ((ea (p.getD k default)).toNat,k+1,0) (Ent.to ⟨Z,Z,congrArg (fun z=>some (eI z)) (Int.toNat_of_nonneg z22).symm,Z,ao⟩ Z) ?_ (fun x hi=>?_)))))))
 exact⟨(show k+1≤p.length by omega),Nat.lt_succ_self k,Z,by have:=ug (p.getD k default);show(ea (p.getD k default)).toNat≤2;omega,Int.le_refl 0,by show(0:Int)≤((k+1:Nat):Int)-(k+1:Nat);omega⟩
 refine ag (ae (ac Z (jn (ak Z (fun z26=>?_) (fun z26=>?_)))))
 try simp only[aQ]at z26
 refine af (ag (am (ae (ac Z (aw O Z Z Z Z (ih x.2.1 hi.1 (by omega)) (ah Z) Z Z Z Z (B0:=33000) Z Z (aM Z (aF Z (jn (ag (ae (ac Z (jn (ak Z (fun z37=>?_) (fun z37=>?_))))))))))))))
 try simp only[aQ]at z37
 refine ae (aF Z (jr ?_))
 refine⟨.inl Z,_,cY,_,Z,?_,Z⟩
 have e0:=uu z37
 rw [show dU (n+1) p k=none by
  unfold dU
  rw[if_neg (by omega),if_neg (by omega),hi.2.2.1]
  obtain⟨q,hq⟩: ∃q,x.1=q+1:=⟨x.1-1,by omega⟩
  rw[hq,eE e0];rfl]
 try simp only[aQ]at z37
 refine af (ae ?_)
 obtain⟨k1,d1,hr⟩:=rc z37
 rw[hr]
 refine aM Z (jn (ab (ac Z (jn (ab (js Z ?_))))))
 first|refine ji Z ?_|refine aU Z Z ?_
 refine js Z (jn ?_)
 have hle:=rk hr
 refine⟨(x.1-1,k1,if d1>x.2.2 then d1 else x.2.2),Ent.to ⟨Z,Z,?_,Z,ao⟩ Z,⟨hle.2.1,by show k<k1;omega,?_,by show x.1-1≤2;omega,by show 0≤(if d1>x.2.2 then d1 else x.2.2);split<;>omega,by show(if d1>x.2.2 then d1 else x.2.2)≤(k1:Int)-(k+1:Nat);split<;>omega⟩,?_⟩
 exact congrArg (fun z=>some (eI z)) (by show(x.1:Int)-1=(x.1-1:Nat);omega)
 rw[hi.2.2.1]
 obtain⟨q,hq⟩: ∃q,x.1=q+1:=⟨x.1-1,by omega⟩
 rw[hq,cN hr];rfl
 show x.1-1<x.1;omega
 try simp only[aQ]at z26
 refine aJ (ae (ac Z ?_))
 first|refine ji Z ?_|refine aU Z Z ?_
 refine aF Z (jr ?_)
 refine⟨.inl Z,_,cY,_,Z,?_,Z⟩
 have hx:x.1=0:=by omega
 rw [show dU (n+1) p k=some (x.2.1,x.2.2+1) by
  unfold dU
  rw[if_neg (by omega),if_neg (by omega),hi.2.2.1,hx];rfl]
theorem yW{L:Nat}(h1:4096≤L)(h2:L≤1073741824){p:List Nd}: ∀{n k:Nat},k≤p.length→p.length<n+k→MC Tryz.prog L 96 [dF p,eI k] [] (Plain (xc (dU n p k)))
 | 0,k,hk,hn=>by omega
 | n+1,k,hk,hn=>zw h1 h2 hk hn (fun k' hk' hn'=>yW h1 h2 hk' hn')
theorem xn:MQ h1 h2 41 [dF p] [] (Plain (eB (nn p))):=by
 refine au ?_ Z
 refine jB 22 h1 h2 Tryz.func41 Z fun O hF=>?_
 have hl:p.length≤L:=by simpa[As.fact,A.fact,M.fact,D.fact,Ds.fact]using hF.1.1
 refine ae (js Z (jn (ag (ae (js Z ?_)))))
 first|refine cm Z ?_|refine js Z ?_|refine aU Z Z ?_
 refine js Z (jn (ak Z (fun z8=>?_) (fun z8=>?_)))
 try simp only[aQ]at z8
 refine ae (js Z (jr ?_))
 refine ay Z ?_
 rw[nn,decide_eq_false (show¬(p.length:Int)≤60 by omega),Bool.false_and]
 try simp only[aQ]at z8
 refine af (ae (js Z (bJ [(10,_),(2,_),(0,_)] [] ⟨Z,Z,Z,ao⟩ Z (aw O Z Z Z Z (yW (p:=p) (n:=p.length+1) (k:=0) h1 h2 (ca _) (by omega)) (ah Z) Z Z Z Z (B0:=12000) Z Z (aM Z (aF Z (be (ac Z (bJ [(16,_),(3,_),(2,_),(0,_)] [] ⟨Z,Z,Z,Z,ao⟩ Z (ar 4 Z Z Z (fun hx=>aq hx Z (aq hx Z (bf hx (bF O Z Z Z Z Z Z Z Z) Z (aq hx Z (AN.nil))))) Z Z ?_))))))))))
 first|refine aa (aj O Z Z Z Z Z) Z ?_|refine aa (al O Z Z Z Z Z) Z ?_|refine aa (Val.pickB O Z Z Z Z Z) Z ?_
 refine js Z (jr ?_)
 refine ay Z ?_
 rw[nn,decide_eq_true (show(p.length:Int)≤60 by omega),Bool.true_and,Bool.cond_false_right]
theorem BV{t:Tm}:t.ok=true↔jF t.c=true∧t.xs.all jF=true∧t.xs.length≤10∧(t.xs=[]∨t.xs.getD (t.xs.length-1) default≠0):=by
 unfold Tm.ok
 have hz:((t.xs.length:Int)-1).toNat=t.xs.length-1:=by omega
 rw[hz]
 cases h1:jF t.c<;>cases h2:t.xs.all jF<;>simp
 by_cases h3:t.xs.length≤10
 have h4: ¬(10:Int)<t.xs.length:=by omega
 by_cases h5:t.xs=[]
 simp[h5]
 have h6:0<t.xs.length:=List.length_pos_iff.2 h5
 simp[h3,h5]
 intro _;omega
 have h4:(10:Int)<t.xs.length:=by omega
 simp[h3,h4]
inductive Pf where
  | close (n:Nd)
  | tight (n:Nd) (a:Pf)
  | split (n:Nd) (a b:Pf)
def Pf.size:Pf→Nat
  | .close _=>1
  | .tight _ a=>1+a.size
  | .split _ a b=>1+a.size+b.size
def Pf.At(p:List Nd):Pf→Nat→Prop
  | .close n,k=>p[k]? = some n∧ndB n=true∧n.kind=1
  | .tight n a,k=>p[k]? = some n∧ndB n=true∧n.kind=3∧a.At p (k+1)
  | .split n a b,k=>p[k]? = some n∧ndB n=true∧n.kind=2∧a.At p (k+1)∧b.At p (k+1+a.size)
theorem cF{p:List Nd}{k:Nat}{n:Nd}(h:p[k]? = some n):k<p.length∧p.getD k default=n:=by
 have h1:=(List.getElem?_eq_some_iff.1 h).1
 exact⟨h1,by rw[getD_lt h1];exact(List.getElem?_eq_some_iff.1 h).2⟩
theorem gc: ∀{t:Pf},0<t.size
 | .close _=>by simp[Pf.size]
 | .tight _ _=>by simp only[Pf.size];omega
 | .split _ _ _=>by simp only[Pf.size];omega
theorem Pf.At.beh{p:List Nd}: ∀{t:Pf} {k n:Nat},t.At p k→p.length<n+k→∃d,dU n p k=some (k+t.size,d)
 | .close x,k,0,h,hn=>by have:=(cF h.1).1;omega
 | .tight x a,k,0,h,hn=>by have:=(cF h.1).1;omega
 | .split x a b,k,0,h,hn=>by have:=(cF h.1).1;omega
 | .close x,k,n+1,h,hn=>by
  obtain⟨h1,h2⟩:=cF h.1
  have hk:ea x=0:=by rw[dv h.2.1,if_pos h.2.2]
  refine⟨0+1,?_⟩
  unfold dU
  rw[if_neg (by omega),h2,hk,if_neg (by decide)]
  rfl
 | .tight x a,k,n+1,h,hn=>by
  obtain⟨h1,h2⟩:=cF h.1
  have hk:ea x=1:=by rw[dv h.2.1,if_neg (by rw[h.2.2.1];decide),if_neg (by rw[h.2.2.1];decide)]
  obtain⟨d,hd⟩:=h.2.2.2.beh (n:=n) (by omega)
  refine⟨(if d>0 then d else 0)+1,?_⟩
  unfold dU
  rw[if_neg (by omega),h2,hk,if_neg (by decide),show(1:Int).toNat=0+1 from Z,cN hd]
  show some (k+1+a.size,_)=some (k+(1+a.size),_)
  rw[Nat.add_assoc]
 | .split x a b,k,n+1,h,hn=>by
  obtain⟨h1,h2⟩:=cF h.1
  have hk:ea x=2:=by rw[dv h.2.1,if_neg (by rw[h.2.2.1];decide),if_pos h.2.2.1]
  obtain⟨d,hd⟩:=h.2.2.2.1.beh (n:=n) (by omega)
  obtain⟨d',hd'⟩:=h.2.2.2.2.beh (n:=n) (by have:=gc (t:=a);omega)
  refine⟨(if d'>(if d>0 then d else 0)then d' else(if d>0 then d else 0))+1,?_⟩
  unfold dU
  rw[if_neg (by omega),h2,hk,if_neg (by decide),show(2:Int).toNat=1+1 from Z,cN hd,show(1:Nat)=0+1 from Z,cN hd']
  show some (k+1+a.size+b.size,_)=some (k+(1+a.size+b.size),_)
  rw[show k+1+a.size+b.size=k+(1+a.size+b.size) by omega]
theorem oE{n:Nd}(h: ¬ea n<0):ndB n=true:=by
 cases hb:ndB n with
 | true=>rfl
 | false=>rw[fw hb]at h;exact absurd (by decide) h
theorem mS{p:List Nd}: ∀{n k k':Nat} {d:Int},dU n p k=some (k',d)→∃t:Pf,t.At p k∧k'=k+t.size
 | 0,_,_,_,h=>by cases h
 | n + 1,k,k',d,h=>by
  unfold dU at h
  split at h
  cases h
  rename_i hl
  split at h
  cases h
  rename_i hk
  have hb:=oE hk
  have hg:p[k]? = some (p.getD k default):=by rw[getD_lt (by omega)];exact List.getElem?_eq_getElem (by omega)
  generalize p.getD k default=x at hk hb hg h
  rcases n7 hb with h1|h1|h1
  rw[dv hb,if_pos h1]at h
  simp only[Int.toNat_zero,eQ,Option.map_some,ef,Prod.mk.injEq]at h
  exact⟨.close x,⟨hg,hb,h1⟩,h.1.symm⟩
  rw[dv hb,if_neg (by omega),if_pos h1,show(2:Int).toNat=1+1 from Z]at h
  cases e1:dU n p (k+1)with
  | none=>rw[eE e1]at h;cases h
  | some r1=>
   obtain⟨k1,d1⟩:=r1
   rw[cN e1,show(1:Nat)=0+1 from Z]at h
   obtain⟨a,ha,rfl⟩:=mS e1
   cases e2:dU n p (k+1+a.size)with
   | none=>rw[eE e2]at h;cases h
   | some r2=>
    obtain⟨k2,d2⟩:=r2
    rw[cN e2]at h
    obtain⟨b,hb2,rfl⟩:=mS e2
    simp only[eQ,Option.map_some,ef,Prod.mk.injEq]at h
    exact⟨.split x a b,⟨hg,hb,h1,ha,hb2⟩,by rw[←h.1];simp only[Pf.size];omega⟩
  rw[dv hb,if_neg (by omega),if_neg (by omega),show(1:Int).toNat=0+1 from Z]at h
  cases e1:dU n p (k+1)with
  | none=>rw[eE e1]at h;cases h
  | some r1=>
   obtain⟨k1,d1⟩:=r1
   rw[cN e1]at h
   obtain⟨a,ha,rfl⟩:=mS e1
   simp only[eQ,Option.map_some,ef,Prod.mk.injEq]at h
   exact⟨.tight x a,⟨hg,hb,h1,ha⟩,by rw[←h.1];simp only[Pf.size];omega⟩
theorem Pf.At.endK{p:List Nd}: ∀{t:Pf} {k:Nat} {need:Int},t.At p k→0<need→Al.endK (p.drop k) need=(Al.endK (p.drop (k+t.size)) (need-1)).map (· + t.size)
 | .close x,k,need,h,hn=>by
  obtain⟨h1,h2⟩:=cF h.1
  rw[eC hn h1,h2,h.2.2];rfl
 | .tight x a,k,need,h,hn=>by
  obtain⟨h1,h2⟩:=cF h.1
  rw[eC hn h1,h2,h.2.2.1,show need+dl 3=need by show need+0=need;omega,h.2.2.2.endK hn,Option.map_map]
  simp only[Pf.size]
  rw[show k+1+a.size=k+(1+a.size) by omega]
  exact congrArg (fun f=>Option.map f _) (funext fun n=>by show n+a.size+1=n+(1+a.size);omega)
 | .split x a b,k,need,h,hn=>by
  obtain⟨h1,h2⟩:=cF h.1
  rw[eC hn h1,h2,h.2.2.1,show need+dl 2=need+1 from Z,h.2.2.2.1.endK (by omega),show need+1-1=need by omega,h.2.2.2.2.endK hn,Option.map_map,Option.map_map]
  simp only[Pf.size]
  rw[show k+1+a.size+b.size=k+(1+a.size+b.size) by omega]
  exact congrArg (fun f=>Option.map f _) (funext fun n=>by show n+b.size+a.size+1=n+(1+a.size+b.size);omega)
theorem Pf.At.endP{p:List Nd}{t:Pf}{k:Nat}(h:t.At p k):Al.endP p k=k+t.size:=by
 unfold Al.endP
 rw[h.endK (by decide),show(1:Int)-1=0 from Z,oo (Int.le_refl 0)]
 show(k:Int)+(0+t.size:Nat)=_
 omega
theorem Pf.At.valid{p:List Nd}: ∀{t:Pf} {k j:Nat},t.At p k→k≤j→j<k+t.size→ndB (p.getD j default)=true
 | .close x,k,j,h,h1,h2=>by
  simp only[Pf.size]at h2
  obtain rfl:j=k:=by omega
  rw[(cF h.1).2];exact h.2.1
 | .tight x a,k,j,h,h1,h2=>by
  by_cases e:j=k
  subst e;rw[(cF h.1).2];exact h.2.1
  simp only[Pf.size]at h2
  exact h.2.2.2.valid (by omega) (by omega)
 | .split x a b,k,j,h,h1,h2=>by
  by_cases e:j=k
  subst e;rw[(cF h.1).2];exact h.2.1
  simp only[Pf.size]at h2
  by_cases e2:j<k+1+a.size
  exact h.2.2.2.1.valid (by omega) (by omega)
  exact h.2.2.2.2.valid (by omega) (by omega)
theorem ko{p:List Nd}(hv: ∀n∈p,ndB n=true): ∀{m k:Nat} {need:Int} {r:Nat},p.length-k≤m→0<need→endK (p.drop k) need=some r→∃t:Pf,t.At p k
 | 0,k,need,r,hm,hn,h=>by
  rw[List.drop_of_length_le (by omega),kY hn]at h;cases h
 | m+1,k,need,r,hm,hn,h=>by
  by_cases hk:k<p.length
  have hg:p[k]? = some (p.getD k default):=by rw[getD_lt hk];exact List.getElem?_eq_getElem hk
  have hb:ndB (p.getD k default)=true:=by rw[getD_lt hk];exact hv _ (List.getElem_mem hk)
  rw[eC hn hk]at h
  generalize p.getD k default=x at hb hg h
  rcases n7 hb with h1|h1|h1
  exact⟨.close x,hg,hb,h1⟩
  rw[h1,show need+dl 2=need+1 from Z]at h
  simp only[Option.map_eq_some_iff]at h
  obtain⟨r1,h2,_⟩:=h
  obtain⟨a,ha⟩:=ko hv (m:=m) (by omega) (by omega) h2
  rw[ha.endK (by omega),show need+1-1=need by omega]at h2
  simp only[Option.map_eq_some_iff]at h2
  obtain⟨r2,h3,_⟩:=h2
  obtain⟨b,hb2⟩:=ko hv (m:=m) (by have:=gc (t:=a);omega) hn h3
  exact⟨.split x a b,hg,hb,h1,ha,hb2⟩
  rw[h1,show need+dl 3=need by show need+0=need;omega]at h
  simp only[Option.map_eq_some_iff]at h
  obtain⟨r1,h2,_⟩:=h
  obtain⟨a,ha⟩:=ko hv (m:=m) (by omega) hn h2
  exact⟨.tight x a,hg,hb,h1,ha⟩
  rw[List.drop_of_length_le (by omega),kY hn]at h;cases h
theorem uj{p:List Nd}(h:isB p=true): ∃t:Pf,t.At p 0∧t.size=p.length:=by
 obtain⟨h1,h2,h3,h4⟩:=oc h
 have h5: ∃r,endK (p.drop 0) 1=some r:=by
  unfold endP at h4
  cases e:endK (p.drop 0) 1 with
  | some r=>exact⟨r,Z⟩
  | none=>rw[e]at h4;have h4:(-1:Int)=p.length:=h4;omega
 obtain⟨r,hr⟩:=h5
 obtain⟨t,ht⟩:=ko h3 (bQ _) (by decide) hr
 refine⟨t,ht,?_⟩
 rw[ht.endP]at h4
 omega
theorem kQ{p:List Nd}(h:nn p=true):p.length≤60∧∃t:Pf,t.At p 0∧t.size=p.length:=by
 unfold nn at h
 simp only[bK,decide_eq_true_eq]at h
 obtain⟨k,d,hr⟩:=rc h.2.1
 obtain⟨t,ht,hk⟩:=mS hr
 have h3:=h.2.2
 rw[hr]at h3
 have h3:(k:Int)=p.length:=h3
 exact⟨by omega,t,ht,by omega⟩
theorem pE{p:List Nd}:nn p=isB p:=by
 rw[Bool.eq_iff_iff]
 constructor
 intro h
 obtain⟨h1,t,ht,hs⟩:=kQ h
 have hp:=gc (t:=t)
 unfold isB
 rw[decide_eq_true (show(1:Int)≤p.length by omega),decide_eq_true (show(p.length:Int)≤60 by omega),ht.endP,decide_eq_true (show((0:Nat):Int)+t.size=p.length by omega)]
 simp only[Bool.and_true,Bool.true_and,List.all_eq_true]
 intro n hn
 obtain⟨j,hj,rfl⟩:=List.mem_iff_getElem.1 hn
 have:=ht.valid (ca j) (by omega)
 rwa[getD_lt hj]at this
 intro h
 obtain⟨t,ht,hs⟩:=uj h
 obtain⟨h1,h2,_,_⟩:=oc h
 obtain⟨d,hd⟩:=ht.beh (n:=p.length+1) (by omega)
 unfold nn
 rw[decide_eq_true (show(p.length:Int)≤60 by omega),hd]
 show(true&&decide (((0+t.size:Nat):Int)=p.length))=true
 rw[decide_eq_true (by omega)];rfl
structure Ex where
  es:List (Int×List Tm)
  flaw:Int
def fl(b:Nat→Bool):Nat→Nat→Int→Int
  | _,0,f=>f
  | k,n+1,f=>fl b (k+1) n (if b k=true∧f<0 then(k:Int)else f)
structure Eqs(p:List Nd)(c0:List Tm)(H:Nat→Bool)(A:Nat→List Tm)(R:Nat→Bool):Prop where
  h0:0<p.length→H 0=true∧A 0=c0
  h: ∀j,0<j→j<p.length→H j=R (yl p j j).1.toNat
  a: ∀j,0<j→j<p.length→H j=true→A j=yb (p.getD (yl p j j).1.toNat default) (A (yl p j j).1.toNat) (yl p j j).2
  r: ∀j,j<p.length→R j=(H j&&tm (p.getD j default) (A j))
theorem rK: ∀{k:Int} {xs:List Int},aR mI cv k (aR mI cv k xs)=aR mI cv k xs
 | _,[]=>rfl
 | k,x::xs=>by
  show k::aR mI cv (k+1) (aR mI cv (k+1) xs)=k::aR mI cv (k+1) xs
  rw[rK]
theorem hY(xs:List Int)(k:Int):(if aR mI cv k xs=aR mI cv k (aR mI cv k xs)then k+((aR mI cv k xs).length:Int)else -1)=k+xs.length:=by
 rw[if_pos rK.symm,aD]
theorem dM{α:Type}[Inhabited α]{f:Int→α→α}{sz:α→Nat}: ∀{l:List α} {k:Int} {i:Nat},i<l.length→(aR f sz k l).getD i default=f (k+cnt sz (l.take i)) (l.getD i default)
 | [],_,_,h=>by simp at h
 | a::r,k,0,_=>by simp[aR,cnt]
 | a::r,k,i+1,h=>by
  have:=dM (f:=f) (sz:=sz) (l:=r) (k:=k+sz a) (i:=i) (by simpa using h)
  simp only[aR,List.getD_cons_succ,List.take_succ_cons]at this ⊢
  rw[this]
  have e:k+(sz a:Int)+(cnt sz (r.take i):Int)=k+(cnt sz (a::r.take i):Int):=by simp[cnt];omega
  rw[e]
variable{ts:List Tm}
theorem AM(hk0:0≤k)(hk1:k+cnt nT ts≤1073741824):MQ h1 h2 59 [gB (aR mT nT k ts),eI k] [] (Plain (eI (k+cnt nT ts))):=by
 refine au ?_ Z
 refine jB 31 h1 h2 Tryz.func59 Z fun O hF=>?_
 have hlm:=aD (f:=mT) (sz:=nT) (k:=k) (l:=ts)
 have hl:(aR mT nT k ts).length≤L:=by simpa[As.fact,A.fact,M.fact,D.fact,Ds.fact]using hF.1.1
 refine ae (js Z (jn (ag (ae (js Z (jn (am (av (X:=Nat) (fun i=>⟨[(0,gB (aR mT nT k ts)),(1,eI (k+cnt nT (ts.take i))),(5,eI i)],[]⟩) (fun i=>i≤ts.length) (fun i=>ts.length-i) 0 (Ent.env ⟨Z,by simp[bD,az,cnt],Z,ao⟩) ?_ (fun i hi=>?_)))))))))
 exact ca _
 refine ag (ae (ac Z ?_))
 first|refine cm Z ?_|refine js Z ?_|refine aU Z Z ?_
 refine js Z (jf [9,0,1,5] Z (jn (ak Z (fun z9=>?_) (fun z9=>?_))))
 refine af (ag (am (ag (ae ?_))))
 have hil:i<ts.length:=by have h9:=bc z9;omega
 have hg:=dM (f:=mT) (sz:=nT) (k:=k) hil
 have hcs:=c6 (sz:=nT) hil
 have hcl:=fd (sz:=nT) (l:=ts) (i:=i+1)
 rw[←getD_lt hil]at hcs
 obtain⟨t,ht⟩: ∃t,t=ts.getD i default:=⟨_,rfl⟩
 rw[←ht]at hg hcs
 simp only[nT]at hcs
 obtain⟨K,hK⟩: ∃K,K=k+(cnt nT (ts.take i):Int):=⟨_,rfl⟩
 rw[←hK]at hg ⊢
 refine ac Z (aa ((aE O Z Z Z Z Z Z Z Z (cb (by omega))).cast (v':=ptr (Tm.cells (mT K t))) (by rw[hg])) Z (aM Z (jf [18,9,0,1,5] Z (jn (ak Z (fun z18=>?_) (fun z18=>?_))))))
 exact absurd z18 (by simp)
 refine af (ae (js Z ?_))
 first|refine ji Z ?_|refine aU Z Z ?_
 refine js Z (jf [1,18,9,0,5] Z (be (ac Z (aa ((aE O Z Z Z Z Z Z Z Z (cb (by omega))).cast (v':=ptr (Tm.cells (mT K t))) (by rw[hg])) Z (aF Z (jf [26,25,1,18,9,0,5] Z (aO Z ((AP (xs:=aR mI cv (K+1) t.xs) (k:=K+1) h1 h2 (by omega) (by omega)).plain (congrArg eI (hY t.xs (K+1)))) 28000 Z (js Z (jf [1,18,9,0,5] Z (be (ac Z (jn (ak Z (fun z29=>?_) (fun z29=>?_))))))))))))))
 exact absurd (bc z29) (by omega)
 refine af (ab (js Z ?_))
 first|refine ji Z ?_|refine aU Z Z ?_
 refine js Z (jf [5,29,28,1,18,9,0] Z (jn ?_))
 refine⟨i+1,Ent.env ⟨Z,?_,Z,ao⟩,by omega,by omega⟩
 rw[hcs]
 exact congrArg (fun z=>some (eI z)) (by omega)
 refine aJ (ae (ac Z (jr ?_)))
 refine ay Z ?_
 have h9:=bw z9
 obtain rfl:i=ts.length:=by omega
 rw[List.take_length]
end Go.Al
/- What the laws of the certificates share: the types of their arguments; what came in reads as it did. -/
namespace Go.Proofs.YtdlhjplhmmfnnaaGreatDoor
open Go.ChangeShapes Go.WideShapes Go.ChangeAt Go.RowKit Go.Al

theorem ownK:ownKnob Tryz.prog.godebug=none:=by kernel_rfl
theorem kidsK:Kids Tryz.prog (· < Tryz.prog.types.size):=kids_rows (by kernel_rfl) (by kernel_rfl)
theorem fullK: ∀t e,t<Tryz.prog.types.size→Tryz.prog.underlying t=some (.slice e)→0<Tryz.prog.cellsOf e:=slices_full_of Tryz.prog (by kernel_rfl)

theorem fits_one{t:Ty}{e:List D}(h:FitsL [t] e): ∃d,e=[d]∧Fits t d:=by
 cases h with
 | cons a h=>cases h;exact⟨_,rfl,a⟩
theorem rdl_rms{L:Nat}{w:World}{ok:Nat→Prop}{m:Nat→Go.Al.Loc}: ∀{ds:List D} {vs:List Value} {F:List Nat},RDL L w ok ds vs F→F=[]→RMs L w ok m (ds.map .d) vs
 | _,_,_,.nil,_=>.nil
 | _,_,_,.cons (F1:=F1) (F2:=F2) h1 h2,hF=>by
  obtain⟨rfl,rfl⟩:=List.append_eq_nil_iff.1 hF
  exact .cons (.d h1) (rdl_rms h2 Z)
section
variable{H:Type}{enc:TypeId×Value→H}{P:Program}{w w':World}
theorem vf(hs: ∀b,b<w.heap.size→Same w w' b){p:MemPlace}(hp:p.block<w.heap.size):w.sameAt w' p:=by
 cases p with
 | cell b o=>exact(hs b hp).cell
 | map b=>exact hs b hp
theorem trodAll_same(hs: ∀b,b<w.heap.size→Same w w' b){base:Nat}{sp:Nat→Bool}{held:Bool}: ∀{ts:List TypeId} {vs:List Value} {ds:List (DataW H)} {ps:List MemPlace},(∀p∈ps,p.block<w.heap.size)→DataW.TrodAll enc P w base sp held ts vs ds ps→DataW.TrodAll enc P w' base sp held ts vs ds ps
 | [],[],[],_,_,h=>h
 | _::_,_::_,_::_,_,hl,⟨p,q,⟨n,h1⟩,h2,e⟩=>
  ⟨p,q,⟨n,DataW.trod_carry n _ _ _ h1 (fun x hx=>vf hs (hl x (by rw[e];exact List.mem_append_left _ hx)))⟩,trodAll_same hs (fun x hx=>hl x (by rw[e];exact List.mem_append_right _ hx)) h2,e⟩
theorem p0(hf:Go.Al.Frame w w' [])(may:MemPlace→Prop):w.keptBut w' may:=by
 refine⟨hf.os,hf.output,fun i hi=>?_⟩
 have h:=hf.block i hi (by simp)
 unfold Same at h
 rw[h]
 cases hx:w.heap[i]? with
 | none=>trivial
 | some o=>
  cases o with
  | cells c t fr=>exact⟨Z,Z,Z,fun _ _=>rfl⟩
  | map es clock=>exact .inr ⟨Z,Z⟩
  | _=>rfl
theorem pZ(hf:Go.Al.Frame w w' []){a:Addr}(ha:a.block<w.heap.size):w'.frozen? a=w.frozen? a:=by
 have h:=hf.block a.block ha (by simp)
 unfold Same at h
 unfold World.frozen?
 rw[h]
theorem post_of_old{f:Func}{s:ChangeSpec}{apart fresh handsOn again:Bool}{args:Array Value}{v:Value}{ds gs:List (DataW H)}{before pa pv:List MemPlace}
    (hW:DataW.Whole enc P f.params.toList s.vars apart w args.toList ds gs before)
    (hres: ∀(b:Nat) (sp:Nat→Bool) (hd:Bool),DataW.TrodAll enc P w' b sp hd f.resultTypes.toList (v.resultList f.resultTypes.size) (s.fn H (ds++gs)).results [])
    (hargs: ∀sp:Nat→Bool,(∀p∈before,sp p.block=true)→DataW.TrodAll enc P w' 0 sp true f.params.toList args.toList (s.fn H (ds++gs)).args pa)
    (hvars: ∀sp:Nat→Bool,(∀p∈before,sp p.block=true)→DataW.TrodVars enc P w' sp s.vars (s.fn H (ds++gs)).vars pv)
    (hps:before=pa++pv) (hf:Go.Al.Frame w w' [])
    (hok: ∀(j:Nat) (t:TypeId) (r:Value),f.resultTypes[j]? = some t→(v.resultList f.resultTypes.size)[j]? = some r→Value.okWide P w' .any 0 t r) :
    s.post enc P f apart fresh handsOn again w args v w':=by
 have hlt:=hW.lt
 have hold: ∀p∈before,(fun b=>decide (b<w.heap.size)) p.block=true:=fun p hp=>by simpa using hlt p hp
 refine⟨ds,gs,before,[],pa,pv,hW,hres _ _ _,hargs _ hold,hvars _ hold,World.keptBut_mono (fun p hp=>⟨hp,?_⟩) (p0 hf (· ∈before)),fun _=>?_⟩
 rw[hps,List.mem_append]at hp
 exact Or.inr hp
 obtain⟨_,_,_,_,_,hz,hn⟩:=hW
 refine⟨hok,_,_,([]++pa)++pv,⟨[]++pa,pv,trodAll_append (hargs _ (fun _ _=>rfl)) (hres _ _ _),hvars _ (fun _ _=>rfl),Z,?_,?_⟩,?_⟩
 intro b off hp
 have hp':MemPlace.cell b off∈before:=by rw[hps];simpa using hp
 rw[pZ hf (hlt _ hp')]
 exact hz b off hp'
 intro ha
 have:=hn ha
 rw[hps]at this
 simpa using this
 intro p hp _
 rw[hps]
 simpa using hp
end

end Go.Proofs.YtdlhjplhmmfnnaaGreatDoor
namespace Go.Al
variable{L:Nat}(h1:4096≤L)(h2:L≤1073741824)
abbrev dG(ps:List (List Nd)):B:=.row true 1 (ps.map nr)
theorem c49{xs ys:List (List Nd)}:MQ h1 h2 18 [.c (.d (o9 xs)),.c (.d (o9 ys))] [] (Plain (eB (decide (xs=ys)))):=by
 refine au ?_ Z
 refine jB 27 h1 h2 Tryz.func18 Z fun O hF=>?_
 have hl:xs.length≤L:=by simpa[As.fact,A.fact,M.fact,D.fact,Ds.fact]using hF.1.1
 have hl2:ys.length≤L:=by simpa[As.fact,A.fact,M.fact,D.fact,Ds.fact]using hF.2.1.1
 refine ae (js Z (jn (ag (ae (js Z (cm Z (js Z (cm Z (js Z (jn (ak Z (fun z10=>?_) (fun z10=>?_))))))))))))
 try simp only[aQ]at z10
 refine ae (js Z (jr ?_))
 refine ay Z ?_
 rw[decide_eq_false (fun e=>by subst e;simp at z10)]
 try simp only[aQ]at z10
 refine af (ag (ae (js Z (jn (am (av (X:=Nat) (fun i=>⟨[(0,.c (.d (o9 xs))),(1,.c (.d (o9 ys))),(5,eI i)],[]⟩) (fun i=>i≤xs.length∧∀j,j<i→xs[j]? = ys[j]?) (fun i=>xs.length-i) 0 (Ent.env ⟨Z,Z,Z,ao⟩) ?_ (fun i hi=>?_)))))))
 exact⟨ca _,fun j hj=>absurd hj (Nat.not_lt_zero j)⟩
 refine ag (ae (ac Z (cm Z (js Z (jn (ak Z (fun z14=>?_) (fun z14=>?_)))))))
 try simp only[aQ]at z14
 refine af (ag (am (ag (lC [_,_,_,_,_,_,_,_,_,_] [bC,bC,bb [0,1],bb [0,1,2],bC,bC,bb [4,5],bb [4,5,6],pe (rg 0 8) 0,pn (rg 0 9) 1 1] [8] [_,_] (kc Z (kc Z (ai (vD Z) (kc Z (kc Z (kc Z (ai (vD Z) (kc Z (ai (aP O (B0:=26000) Z Z Z Z (c37 h1 h2) (ah Z) Z Z Z Z Z) (kc Z trivial)))))))))) ?_))))
 refine ak Z (fun z26=>?_) (fun z26=>?_)
 try simp only[aQ]at z26
 refine ae (js Z (jr ?_))
 refine ay Z ?_
 rw[decide_eq_false (fun e=>by subst e;simp at z26)]
 try simp only[aQ]at z26
 refine af (ab (js Z (ji Z (js Z (jn ?_)))))
 refine⟨i+1,Ent.env ⟨Z,Z,Z,ao⟩,⟨by omega,fun j hj=>?_⟩,by omega⟩
 rcases Nat.lt_or_ge j i with h|h
 exact hi.2 j h
 obtain rfl:j=i:=by omega
 rw[Int.toNat_natCast,getD_lt (by omega),getD_lt (by omega)]at z26
 rw[List.getElem?_eq_getElem (by omega),List.getElem?_eq_getElem (by omega),z26]
 try simp only[aQ]at z14
 refine aJ (ae (js Z (jr ?_)))
 refine ay Z ?_
 have e:xs=ys:=List.ext_getElem? fun j=>by
  rcases Nat.lt_or_ge j i with h|h
  ·
   exact hi.2 j h
  ·
   rw[List.getElem?_eq_none (by omega),List.getElem?_eq_none (by omega)]
 rw[decide_eq_true e]
structure NdAt(n:Nat)(x:Nd):Prop where
  close:x.kind=1→n+1≤x.mul.length∧x.mul.length≤20
  fact:x.kind=3→0≤x.fact∧x.fact≤19
  kind:x.kind=1∨x.kind=2∨x.kind=3
structure MvOk(cnt to:Int→Int)(x:Nd):Prop where
  kind:x.kind=1∨x.kind=2∨x.kind=3
  fact:x.kind=3→0≤x.fact∧x.fact≤19
  len:x.kind=1→x.mul.length≤20
  cntb:x.kind=1→0≤cnt x.mul.length∧cnt x.mul.length≤1000
  rng:x.kind=1→∀i:Nat,i<x.mul.length→to i<cnt x.mul.length
variable{k:Int}
theorem Aq{ts:List Nd}(hk0:0≤k)(hk1:k+cnt nN ts≤1073741824):MQ h1 h2 62 [dF (aR mN nN k ts),eI k] [] (Plain (eI (k+cnt nN ts))):=by
 refine au ?_ Z
 refine jB 60 h1 h2 Tryz.func62 Z fun O hF=>?_
 have hlm:=aD (f:=mN) (sz:=nN) (k:=k) (l:=ts)
 have hl:(aR mN nN k ts).length≤L:=by simpa[As.fact,A.fact,M.fact,D.fact,Ds.fact]using hF.1.1
 refine ae (js Z (jn (ag (ae (js Z (jn (am (av (X:=Nat) (fun i=>⟨[(0,dF (aR mN nN k ts)),(1,eI (k+cnt nN (ts.take i))),(5,eI i)],[]⟩) (fun i=>i≤ts.length) (fun i=>ts.length-i) 0 (Ent.env ⟨Z,by simp[bD,az,cnt],Z,ao⟩) ?_ (fun i hi=>?_)))))))))
 exact ca _
 refine ag (ae (ac Z (cm Z (js Z (jf [9,0,1,5] Z (jn (ak Z (fun z9=>?_) (fun z9=>?_))))))))
 refine af (ag (am (ag (ae ?_))))
 have hil:i<ts.length:=by have h9:=bc z9;omega
 have hg:=dM (f:=mN) (sz:=nN) (k:=k) hil
 have hcs:=c6 (sz:=nN) hil
 have hcl:=fd (sz:=nN) (l:=ts) (i:=i+1)
 rw[←getD_lt hil]at hcs
 obtain⟨t,ht⟩: ∃t,t=ts.getD i default:=⟨_,rfl⟩
 rw[←ht]at hg hcs
 simp only[nN]at hcs
 obtain⟨K,hK⟩: ∃K,K=k+(cnt nN (ts.take i):Int):=⟨_,rfl⟩
 rw[←hK]at hg ⊢
 refine ac Z (aa ((aE O Z Z Z Z Z Z Z Z (cb (by omega))).cast (v':=ptr (Nd.cells (mN K t))) (by rw[hg])) Z (aM Z (jf [18,9,0,1,5] Z (jn (ak Z (fun z18=>?_) (fun z18=>?_))))))
 exact absurd z18 (by simp)
 refine af (ae (js Z (ji Z (js Z (jf [1,18,9,0,5] Z (jn (ag (ae (ac Z (aa ((aE O Z Z Z Z Z Z Z Z (cb (by omega))).cast (v':=ptr (Nd.cells (mN K t))) (by rw[hg])) Z (aM Z (jf [27,1,18,9,0,5] Z (jn (ak Z (fun z27=>?_) (fun z27=>?_)))))))))))))))
 exact absurd z27 (by simp)
 refine af (ae (js Z (ji Z (js Z (jf [1,27,18,9,0,5] Z (jn (ag (ae (ac Z (aa ((aE O Z Z Z Z Z Z Z Z (cb (by omega))).cast (v':=ptr (Nd.cells (mN K t))) (by rw[hg])) Z (aM Z (js Z (jf [37,1,27,18,9,0,5] Z (jn (ak Z (fun z37=>?_) (fun z37=>?_))))))))))))))))
 exact absurd z37 (by simp)
 refine af (ae (js Z (ji Z (js Z (jf [1,37,27,18,9,0,5] Z (be (ac Z (aa ((aE O Z Z Z Z Z Z Z Z (cb (by omega))).cast (v':=ptr (Nd.cells (mN K t))) (by rw[hg])) Z (aM Z (jf [46,45,1,37,27,18,9,0,5] Z (aO Z ((AP (xs:=aR mI cv (K+1+1+1) t.term.xs) (k:=K+1+1+1) h1 h2 (by omega) (by omega)).plain (congrArg eI (hY t.term.xs (K+1+1+1)))) 48000 Z (js Z (jf [1,37,27,18,9,0,5] Z (jn (ag (ae (ac Z (jn (ak Z (fun z49=>?_) (fun z49=>?_))))))))))))))))))))
 exact absurd (bc z49) (by omega)
 refine af (ae (ac Z (aa ((aE O Z Z Z Z Z Z Z Z (cb (by omega))).cast (v':=ptr (Nd.cells (mN K t))) (by rw[hg])) Z (aF Z (jf [55,54,49,48,1,37,27,18,9,0,5] Z (aO Z ((AP (xs:=aR mI cv (K+1+1+1+t.term.xs.length) t.mul) (k:=K+1+1+1+t.term.xs.length) h1 h2 (by omega) (by omega)).plain (congrArg eI (hY t.mul (K+1+1+1+t.term.xs.length)))) 57000 Z (js Z (jf [1,49,48,37,27,18,9,0,5] Z (be (ac Z (jn (ak Z (fun z58=>?_) (fun z58=>?_)))))))))))))
 exact absurd (bc z58) (by omega)
 refine af (ab (js Z (ji Z (js Z (jf [5,58,57,1,49,48,37,27,18,9,0] Z (jn ?_))))))
 refine⟨i+1,Ent.env ⟨Z,?_,Z,ao⟩,by omega,by omega⟩
 rw[hcs]
 exact congrArg (fun z=>some (eI z)) (by omega)
 refine aJ (ae (ac Z (jr ?_)))
 refine ay Z ?_
 have h9:=bw z9
 obtain rfl:i=ts.length:=by omega
 rw[List.take_length]
structure Rw where
  c:Int
  xs:List Int
  ms:List Int
  deriving Inhabited
structure ROk(n:Nat)(r:Rw):Prop where
  c:jF r.c=true
  xs:r.xs.all jF=true
  l:r.xs.length=10
  ms:r.ms.all co=true
  n:r.ms.length=n
  uF: ∃x∈r.ms,0<x
structure Fs(ts:List Tm):Prop where
  ok: ∀t∈ts,t.ok=true
  len:ts.length≤14
structure In where
  op:Int
  a:Int
  deriving Inhabited,DecidableEq
abbrev In.cells(x:In):List D:=[.int .i64 x.op,.int .i64 x.a]
abbrev pc(c:List In):D:=.slc 2 (c.map In.cells)
abbrev lF(c:List In):A:=.c (.d (pc c))
abbrev fj(c:List In):B:=.row true 2 (c.map In.cells)
structure Pt where
  k:Int
  fs:List Tm
  deriving Inhabited,DecidableEq
abbrev Pt.cells(p:Pt):List D:=[.int .i64 p.k,qo p.fs]
abbrev o0(ps:List Pt):D:=.slc 2 (ps.map Pt.cells)
abbrev rD(ps:List Pt):A:=.c (.d (o0 ps))
abbrev gA(ps:List Pt):B:=.row true 2 (ps.map Pt.cells)
structure An where
  pre:List Tm
  post:List Tm
  code:List In
  pts:List Pt
  deriving Inhabited,DecidableEq
abbrev An.data(a:An):List D:=[qo a.pre,qo a.post,pc a.code,o0 a.pts]
abbrev wb(a:An):A:=.agg (a.data.map .d)
abbrev oT:Int→In→In:=fun k _=>⟨k,k+1⟩
abbrev nIn:In→Nat:=fun _=>2
abbrev mP:Int→Pt→Pt:=fun k p=>⟨k,aR mT nT (k+1) p.fs⟩
abbrev nP:Pt→Nat:=fun p=>1+cnt nT p.fs
def aV(x:In):Bool:=
  if x.op=0∨x.op=4 then jF x.a else if x.op=1∨x.op=2 then cQ 0 3 x.a else if x.op=5∨x.op=6 then cQ 0 79 x.a else if x.op=9 then cQ 0 3 x.a
  else if x.op=3∨x.op=7∨x.op=8∨x.op=10∨x.op=11 then decide (x.a=0)else false
def eT(c:List In):Bool:=c.all aV&&cQ 1 80 c.length
def sd(n:Nat)(ps:List Pt)(i:Nat):Bool:=cQ 0 ((n:Int)-1) (ps.getD i default).k&&terms (ps.getD i default).fs 6&& !(decide (0<i)&&decide ((ps.getD i default).k≤(ps.getD (i-1) default).k))
def rz(n:Nat)(ps:List Pt):Bool:=(List.range ps.length).all (sd n ps)
def dC(a:An):Bool:=eT a.code&&(terms a.pre 6&&(terms a.post 6&&(decide (a.pts.length≤8)&&rz a.code.length a.pts)))
theorem qY{n:Nat}{ps:List Pt}(h: ∀j,j<ps.length→sd n ps j=true):rz n ps=true:=List.all_eq_true.2 fun j hj=>h j (List.mem_range.1 hj)
theorem nV{n:Nat}{ps:List Pt}(j:Nat)(hj:j<ps.length)(h:sd n ps j=false):rz n ps=false:=by
 cases e:rz n ps with
 | false=>rfl
 | true=>have:=List.all_eq_true.1 e j (List.mem_range.2 hj);rw[h]at this;cases this
def xh(x:In):Bool:=decide (x.op=5)||decide (x.op=6)
def Bh(ps:List Pt)(k:Int):Bool:=ps.any fun p=>decide (p.k=k)
def zm(c:List In)(k:Int):Bool:=c.any fun x=>xh x&&decide (x.a=k)
def plB(c:List In)(ps:List Pt)(k:Int):Bool:=zm c k||Bh ps k
def yE(pl:Int→Bool):Nat→List In→List In
  | _,[]=>[]
  | k,x::r=>if pl (k:Int)=true then[]else x::yE pl (k+1) r
def sgt(c:List In)(ps:List Pt)(k:Nat):List In:=match c.drop k with
  | []=>[]
  | x::r=>x::yE (plB c ps) (k+1) r
def nx:List Int→List In→Bool
  | [],_=>true
  | _::_,[]=>false
  | o::os,x::s=>decide (x.op=o)&&nx os s
def tz(x:In):Bool:=decide (x.op=1)||decide (x.op=3)||decide (x.op=7)
def zf(s:List In):Nat×List In:=
  let x:=s.getD 0 default
  let y:=s.getD 1 default
  if nx [0,4] s=true∧jF (x.a*y.a)=true then(2,[⟨0,x.a*y.a⟩])
  else if nx [0,0,3] s=true∧jF (x.a+y.a)=true then(3,[⟨0,x.a+y.a⟩])
  else if nx [0,1,3] s=true∧x.a=0 then(3,[y])
  else if nx [0,1,4,3] s=true∧x.a=0 then(4,[y,s.getD 2 default])
  else if(tz x=true∨x.op=4)∧nx [x.op,0,3] s=true∧y.a=0 then(3,[x])
  else if tz x=true∧nx [x.op,4] s=true∧y.a=1 then(2,[x])
  else if nx [4,4] s=true∧jF (x.a*y.a)=true then(2,[⟨4,x.a*y.a⟩])
  else(0,[])
def Bf(k less:Int)(x:In):In:=if xh x=true∧k<x.a then⟨x.op,x.a-less⟩else x
def sPt(k less:Int)(p:Pt):Pt:=if k<p.k then⟨p.k-less,p.fs⟩else p
def Bd(a:An)(k n:Nat)(by':List In):An:=
  ⟨a.pre,a.post,(a.code.take k++by'++a.code.drop (k+n)).map (Bf k ((n:Int)-by'.length)),a.pts.map (sPt k ((n:Int)-by'.length))⟩
abbrev qr(a:An)(k:Nat):Nat×List In:=zf (sgt a.code a.pts k)
def wg(a:An):Nat→Nat→Option An
  | 0,_=>none
  | f+1,k=>if 0<(qr a k).1 then some (Bd a k (qr a k).1 (qr a k).2)else wg a f (k+1)
def zt(a:An):Option An:=wg a a.code.length 0
def wG:Nat→An→An
  | 0,a=>a
  | f + 1,a=>match zt a with
    | none=>a
    | some b=>wG f b
def qC(a:An):An:=wG a.code.length a
structure AOk(a:An):Prop where
  code: ∀x∈a.code,aV x=true
  pts: ∀p∈a.pts,0≤p.k∧p.k≤79
  len:a.code.length≤80
  np:a.pts.length≤8
  npre:a.pre.length≤6
  npost:a.post.length≤6
structure RuOk(s:List In)(r:Nat×List In):Prop where
  n:r.1≤s.length
  lt:r.2.length<r.1
  one:1≤r.2.length
  two:r.2.length≤2
  jmp: ∀x∈r.2,xh x=false
  ok:(∀x∈s,aV x=true)→∀x∈r.2,aV x=true
theorem BL{s t:In}:MQ h1 h2 103 [.agg (s.cells.map .d),.agg (t.cells.map .d)] [] (Plain (eB (decide (s=t)))):=by
 refine au ?_ Z
 refine jB 15 h1 h2 Tryz.func103 Z fun O hF=>?_
 refine ae (jx Z (jx Z (js Z (jn (ag (ae (aM Z (js Z (jn (ak Z (fun z9=>?_) (fun z9=>?_)))))))))))
 try simp only[aQ]at z9
 refine ae (js Z (jr ?_))
 refine ay Z ?_
 rw[decide_eq_false (fun e=>z9 (by rw[e]))]
 try simp only[aQ]at z9
 refine af (ag (ae (aM Z (js Z (jn (ak Z (fun z14=>?_) (fun z14=>?_)))))))
 try simp only[aQ]at z14
 refine ae (js Z (jr ?_))
 refine ay Z ?_
 rw[decide_eq_false (fun e=>z14 (by rw[e]))]
 try simp only[aQ]at z14
 refine af (ae (js Z (jr ?_)))
 refine ay Z ?_
 have e:s=t:=by cases s;cases t;simp_all
 rw[decide_eq_true e]
theorem c74{xs ys:List In}:MQ h1 h2 52 [.c (.d (pc xs)),.c (.d (pc ys))] [] (Plain (eB (decide (xs=ys)))):=by
 refine au ?_ Z
 refine jB 27 h1 h2 Tryz.func52 Z fun O hF=>?_
 have hl:xs.length≤L:=by simpa[As.fact,A.fact,M.fact,D.fact,Ds.fact]using hF.1.1
 have hl2:ys.length≤L:=by simpa[As.fact,A.fact,M.fact,D.fact,Ds.fact]using hF.2.1.1
 refine ae (js Z (jn (ag (ae (js Z ?_)))))
 first|refine cm Z ?_|refine js Z ?_|refine aU Z Z ?_
 refine js Z ?_
 first|refine cm Z ?_|refine js Z ?_|refine aU Z Z ?_
 refine js Z (jn (ak Z (fun z10=>?_) (fun z10=>?_)))
 try simp only[aQ]at z10
 refine ae (js Z (jr ?_))
 refine ay Z ?_
 rw[decide_eq_false (fun e=>by subst e;simp at z10)]
 try simp only[aQ]at z10
 refine af (ag (ae (js Z (jn (am (av (X:=Nat) (fun i=>⟨[(0,.c (.d (pc xs))),(1,.c (.d (pc ys))),(5,eI i)],[]⟩) (fun i=>i≤xs.length∧∀j,j<i→xs[j]? = ys[j]?) (fun i=>xs.length-i) 0 (Ent.env ⟨Z,Z,Z,ao⟩) ?_ (fun i hi=>?_)))))))
 exact⟨ca _,fun j hj=>absurd hj (Nat.not_lt_zero j)⟩
 refine ag (ae (ac Z ?_))
 first|refine cm Z ?_|refine js Z ?_|refine aU Z Z ?_
 refine js Z (jn (ak Z (fun z14=>?_) (fun z14=>?_)))
 try simp only[aQ]at z14
 refine af (ag (am (ag (lC [_,_,_,_,_,_,_,_,_,_] [bC,bC,bb [0,1],bb [0,1,2],bC,bC,bb [4,5],bb [4,5,6],pe (rg 0 8) 0,pn (rg 0 9) 1 1] [8] [_,_] (kc Z (kc Z (ai (vD Z) (kc Z (kc Z (kc Z (ai (vD Z) (kc Z (ai (aP O (B0:=26000) Z Z Z Z (BL h1 h2) (ah Z) Z Z Z Z Z) (kc Z trivial)))))))))) ?_))))
 refine ak Z (fun z26=>?_) (fun z26=>?_)
 try simp only[aQ]at z26
 refine ae (js Z (jr ?_))
 refine ay Z ?_
 rw[decide_eq_false (fun e=>by subst e;simp at z26)]
 try simp only[aQ]at z26
 refine af (ab (js Z ?_))
 first|refine ji Z ?_|refine aU Z Z ?_
 refine js Z (jn ?_)
 refine⟨i+1,Ent.env ⟨Z,Z,Z,ao⟩,⟨by omega,fun j hj=>?_⟩,by omega⟩
 rcases Nat.lt_or_ge j i with h|h
 exact hi.2 j h
 obtain rfl:j=i:=by omega
 rw[Int.toNat_natCast,getD_lt (by omega),getD_lt (by omega)]at z26
 rw[List.getElem?_eq_getElem (by omega),List.getElem?_eq_getElem (by omega),z26]
 try simp only[aQ]at z14
 refine aJ (ae (js Z (jr ?_)))
 refine ay Z ?_
 have e:xs=ys:=List.ext_getElem? fun j=>by
  rcases Nat.lt_or_ge j i with h|h
  ·
   exact hi.2 j h
  ·
   rw[List.getElem?_eq_none (by omega),List.getElem?_eq_none (by omega)]
 rw[decide_eq_true e]
theorem BK{s t:Pt}:MQ h1 h2 104 [.agg (s.cells.map .d),.agg (t.cells.map .d)] [] (Plain (eB (decide (s=t)))):=by
 refine au ?_ Z
 refine jB 16 h1 h2 Tryz.func104 Z fun O hF=>?_
 refine ae (jx Z (jx Z (js Z (jn (ag (ae (aM Z (js Z (jn (ak Z (fun z9=>?_) (fun z9=>?_)))))))))))
 try simp only[aQ]at z9
 refine ae (js Z (jr ?_))
 refine ay Z ?_
 rw[decide_eq_false (fun e=>z9 (by rw[e]))]
 try simp only[aQ]at z9
 refine af (ag (ae (aM Z (aO Z (AO h1 h2) 15000 Z (js Z (jn (ak Z (fun z15=>?_) (fun z15=>?_))))))))
 try simp only[aQ]at z15
 refine ae (js Z (jr ?_))
 refine ay Z ?_
 rw[decide_eq_false (fun e=>z15 (by rw[e]))]
 try simp only[aQ]at z15
 refine af (ae (js Z (jr ?_)))
 refine ay Z ?_
 have e:s=t:=by cases s;cases t;simp_all
 rw[decide_eq_true e]
theorem c75{xs ys:List Pt}:MQ h1 h2 53 [.c (.d (o0 xs)),.c (.d (o0 ys))] [] (Plain (eB (decide (xs=ys)))):=by
 refine au ?_ Z
 refine jB 27 h1 h2 Tryz.func53 Z fun O hF=>?_
 have hl:xs.length≤L:=by simpa[As.fact,A.fact,M.fact,D.fact,Ds.fact]using hF.1.1
 have hl2:ys.length≤L:=by simpa[As.fact,A.fact,M.fact,D.fact,Ds.fact]using hF.2.1.1
 refine ae (js Z (jn (ag (ae (js Z ?_)))))
 first|refine cm Z ?_|refine js Z ?_|refine aU Z Z ?_
 refine js Z ?_
 first|refine cm Z ?_|refine js Z ?_|refine aU Z Z ?_
 refine js Z (jn (ak Z (fun z10=>?_) (fun z10=>?_)))
 try simp only[aQ]at z10
 refine ae (js Z (jr ?_))
 refine ay Z ?_
 rw[decide_eq_false (fun e=>by subst e;simp at z10)]
 try simp only[aQ]at z10
 refine af (ag (ae (js Z (jn (am (av (X:=Nat) (fun i=>⟨[(0,.c (.d (o0 xs))),(1,.c (.d (o0 ys))),(5,eI i)],[]⟩) (fun i=>i≤xs.length∧∀j,j<i→xs[j]? = ys[j]?) (fun i=>xs.length-i) 0 (Ent.env ⟨Z,Z,Z,ao⟩) ?_ (fun i hi=>?_)))))))
 exact⟨ca _,fun j hj=>absurd hj (Nat.not_lt_zero j)⟩
 refine ag (ae (ac Z ?_))
 first|refine cm Z ?_|refine js Z ?_|refine aU Z Z ?_
 refine js Z (jn (ak Z (fun z14=>?_) (fun z14=>?_)))
 try simp only[aQ]at z14
 refine af (ag (am (ag (lC [_,_,_,_,_,_,_,_,_,_] [bC,bC,bb [0,1],bb [0,1,2],bC,bC,bb [4,5],bb [4,5,6],pe (rg 0 8) 0,pn (rg 0 9) 1 1] [8] [_,_] (kc Z (kc Z (ai (vD Z) (kc Z (kc Z (kc Z (ai (vD Z) (kc Z (ai (aP O (B0:=26000) Z Z Z Z (BK h1 h2) (ah Z) Z Z Z Z Z) (kc Z trivial)))))))))) ?_))))
 refine ak Z (fun z26=>?_) (fun z26=>?_)
 try simp only[aQ]at z26
 refine ae (js Z (jr ?_))
 refine ay Z ?_
 rw[decide_eq_false (fun e=>by subst e;simp at z26)]
 try simp only[aQ]at z26
 refine af (ab (js Z ?_))
 first|refine ji Z ?_|refine aU Z Z ?_
 refine js Z (jn ?_)
 refine⟨i+1,Ent.env ⟨Z,Z,Z,ao⟩,⟨by omega,fun j hj=>?_⟩,by omega⟩
 rcases Nat.lt_or_ge j i with h|h
 exact hi.2 j h
 obtain rfl:j=i:=by omega
 rw[Int.toNat_natCast,getD_lt (by omega),getD_lt (by omega)]at z26
 rw[List.getElem?_eq_getElem (by omega),List.getElem?_eq_getElem (by omega),z26]
 try simp only[aQ]at z14
 refine aJ (ae (js Z (jr ?_)))
 refine ay Z ?_
 have e:xs=ys:=List.ext_getElem? fun j=>by
  rcases Nat.lt_or_ge j i with h|h
  ·
   exact hi.2 j h
  ·
   rw[List.getElem?_eq_none (by omega),List.getElem?_eq_none (by omega)]
 rw[decide_eq_true e]
theorem c26{s t:An}:MQ h1 h2 17 [wb s,wb t] [] (Plain (eB (decide (s=t)))):=by
 refine au ?_ Z
 refine jB 29 h1 h2 Tryz.func17 Z fun O hF=>?_
 refine ae (jx Z (jx Z (js Z (jn (ag (ae (aM Z (aO Z (AO h1 h2) 10000 Z (js Z (jn (ak Z (fun z10=>?_) (fun z10=>?_))))))))))))
 try simp only[aQ]at z10
 refine ae (js Z (jr ?_))
 refine ay Z ?_
 rw[decide_eq_false (fun e=>z10 (by rw[e]))]
 try simp only[aQ]at z10
 refine af (ag (ae (aM Z (aO Z (AO h1 h2) 16000 Z (js Z (jn (ak Z (fun z16=>?_) (fun z16=>?_))))))))
 try simp only[aQ]at z16
 refine ae (js Z (jr ?_))
 refine ay Z ?_
 rw[decide_eq_false (fun e=>z16 (by rw[e]))]
 try simp only[aQ]at z16
 refine af (ag (ae (aM Z (aO Z (c74 h1 h2) 22000 Z (js Z (jn (ak Z (fun z22=>?_) (fun z22=>?_))))))))
 try simp only[aQ]at z22
 refine ae (js Z (jr ?_))
 refine ay Z ?_
 rw[decide_eq_false (fun e=>z22 (by rw[e]))]
 try simp only[aQ]at z22
 refine af (ag (ae (aM Z (aO Z (c75 h1 h2) 28000 Z (js Z (jn (ak Z (fun z28=>?_) (fun z28=>?_))))))))
 try simp only[aQ]at z28
 refine ae (js Z (jr ?_))
 refine ay Z ?_
 rw[decide_eq_false (fun e=>z28 (by rw[e]))]
 try simp only[aQ]at z28
 refine af (ae (js Z (jr ?_)))
 refine ay Z ?_
 have e:s=t:=by cases s;cases t;simp_all
 rw[decide_eq_true e]
theorem c76{ts:List In}(hk0:0≤k)(hk1:k+cnt nIn ts≤1073741824):MQ h1 h2 56 [.c (.rs 0 0 ts.length),eI k] [(0,fj ts)] (fW (eI (k+cnt nIn ts)) [(0,fj (aR oT nIn k ts))]):=by
 refine jH 27 [0] h1 h2 Tryz.func56 Z fun O hF=>?_
 refine eo 0 Z (fun hB=>?_)
 have hl:ts.length≤L:=by simpa[B.fact]using hB.1
 refine ae (js Z (jn (ag (ae (js Z (jn (am (av (X:=Nat) (fun i=>⟨[(0,.c (.rs 0 0 ts.length)),(1,eI (k+cnt nIn (ts.take i))),(5,eI i)],[(0,fj (mk oT nIn k i ts))]⟩) (fun i=>i≤ts.length) (fun i=>ts.length-i) 0 (Ent.to ⟨Z,by simp[bD,az,cnt],Z,ao⟩ (by simp[gh])) ?_ (fun i hi=>?_)))))))))
 exact ca _
 refine ag (ae (ac Z ?_))
 first|refine cm Z ?_|refine js Z ?_|refine aU Z Z ?_
 refine js Z (jf [9,0,1,5] Z (jn (ak Z (fun z9=>?_) (fun z9=>?_))))
 try simp only[aQ]at z9
 refine af (ag (am (ae (aF Z ?_))))
 first|refine lA Z Z ?_|refine aU Z Z ?_
 refine js Z (jf [16,14,9,0,1,5] Z ?_)
 obtain⟨K,hK⟩: ∃K,K=k+(cnt nIn (ts.take i):Int):=⟨_,rfl⟩
 rw[←hK]
 have hcs:=c6 (sz:=nIn) (show i<ts.length by omega)
 have hcl:=fd (sz:=nIn) (l:=ts) (i:=i+1)
 have hg:=gO (f:=oT) (sz:=nIn) (k:=k) (show i<ts.length by omega)
 have hs:=fG (f:=oT) (sz:=nIn) (k:=k) (show i<ts.length by omega)
 rw[←getD_lt (show i<ts.length by omega)]at hcs hg hs
 obtain⟨t,ht⟩: ∃t,t=ts.getD i default:=⟨_,rfl⟩
 rw[←ht]at hcs hg hs
 rw[←hK]at hs
 simp only[nIn]at hcs
 obtain⟨R,hR⟩: ∃R,R=(mk oT nIn k i ts).map In.cells:=⟨_,rfl⟩
 have hRl:i<R.length:=by rw[hR,bd,el];omega
 have hRi:R[i]? = some t.cells:=by rw[hR,List.getElem?_map,hg];rfl
 have hRn:R.set i (oT K t).cells=(mk oT nIn k (i+1) ts).map In.cells:=by rw[hR,←hs,List.map_set]
 have e0:fj (mk oT nIn k i ts)= .row true 2 (R.set i t.cells):=by rw[eh hRi,hR]
 rw[e0]
 refine aY (bV (ex:=[.int .i64 t.op,.int .i64 t.a]) (xs':=R.set i [.int .i64 K,.int .i64 t.a]) O Z Z Z Z Z Z Z Z Z Z Z Z Z Z (by simp[hRl]) (by simp)) Z (aB ?_)
 refine jf [9,0,1,5] Z (be (js Z ?_))
 first|refine ji Z ?_|refine aU Z Z ?_
 refine js Z (jf [1,9,0,5] Z (be (aF Z ?_)))
 first|refine lA Z Z ?_|refine aU Z Z ?_
 refine js Z (jf [23,21,1,9,0,5] Z (aY (bV (ex:=[.int .i64 K,.int .i64 t.a]) (xs':=R.set i [.int .i64 K,.int .i64 (K+1)]) O Z Z Z Z Z Z Z Z Z Z Z Z Z Z (by simp[hRl]) (by simp)) Z (aB ?_)))
 refine jf [1,9,0,5] Z (jn (ab (js Z ?_)))
 first|refine ji Z ?_|refine aU Z Z ?_
 refine js Z (jf [1,9,0,5] Z (jn (ab (js Z ?_))))
 first|refine ji Z ?_|refine aU Z Z ?_
 refine js Z (jf [5,1,9,0] Z (jn ?_))
 refine⟨i+1,Ent.to ⟨Z,?_,Z,ao⟩ (by rw[fj,←hRn]),by omega,by omega⟩
 rw[hcs]
 exact congrArg (fun z=>some (eI z)) (by omega)
 try simp only[aQ]at z9
 refine aJ (ae (ac Z (jr ?_)))
 refine ay Z ?_
 obtain rfl:i=ts.length:=by omega
 rw[jd (bQ _),List.take_length]
 exact⟨Z,Z⟩
theorem c77{ts:List Pt}(hk0:0≤k)(hk1:k+cnt nP ts≤1073741824):MQ h1 h2 57 [.c (.rs 0 0 ts.length),eI k] [(0,gA ts)] (fW (eI (k+cnt nP ts)) [(0,gA (aR mP nP k ts))]):=by
 refine jH 27 [0] h1 h2 Tryz.func57 Z fun O hF=>?_
 refine eo 0 Z (fun hB=>?_)
 have hl:ts.length≤L:=by simpa[B.fact]using hB.1
 refine ae (js Z (jn (ag (ae (js Z (jn (am (av (X:=Nat) (fun i=>⟨[(0,.c (.rs 0 0 ts.length)),(1,eI (k+cnt nP (ts.take i))),(5,eI i)],[(0,gA (mk mP nP k i ts))]⟩) (fun i=>i≤ts.length) (fun i=>ts.length-i) 0 (Ent.to ⟨Z,by simp[bD,az,cnt],Z,ao⟩ (by simp[gh])) ?_ (fun i hi=>?_)))))))))
 exact ca _
 refine ag (ae (ac Z ?_))
 first|refine cm Z ?_|refine js Z ?_|refine aU Z Z ?_
 refine js Z (jf [9,0,1,5] Z (jn (ak Z (fun z9=>?_) (fun z9=>?_))))
 try simp only[aQ]at z9
 refine af (ag (am (ae (aF Z ?_))))
 first|refine lA Z Z ?_|refine aU Z Z ?_
 refine js Z (jf [16,14,9,0,1,5] Z ?_)
 obtain⟨K,hK⟩: ∃K,K=k+(cnt nP (ts.take i):Int):=⟨_,rfl⟩
 rw[←hK]
 have hcs:=c6 (sz:=nP) (show i<ts.length by omega)
 have hcl:=fd (sz:=nP) (l:=ts) (i:=i+1)
 have hg:=gO (f:=mP) (sz:=nP) (k:=k) (show i<ts.length by omega)
 have hs:=fG (f:=mP) (sz:=nP) (k:=k) (show i<ts.length by omega)
 rw[←getD_lt (show i<ts.length by omega)]at hcs hg hs
 obtain⟨t,ht⟩: ∃t,t=ts.getD i default:=⟨_,rfl⟩
 rw[←ht]at hcs hg hs
 rw[←hK]at hs
 simp only[nP]at hcs
 obtain⟨R,hR⟩: ∃R,R=(mk mP nP k i ts).map Pt.cells:=⟨_,rfl⟩
 have hRl:i<R.length:=by rw[hR,bd,el];omega
 have hRi:R[i]? = some t.cells:=by rw[hR,List.getElem?_map,hg];rfl
 have hRn:R.set i (mP K t).cells=(mk mP nP k (i+1) ts).map Pt.cells:=by rw[hR,←hs,List.map_set]
 have e0:gA (mk mP nP k i ts)= .row true 2 (R.set i t.cells):=by rw[eh hRi,hR]
 rw[e0]
 refine aY (bV (ex:=[.int .i64 t.k,qo t.fs]) (xs':=R.set i [.int .i64 K,qo t.fs]) O Z Z Z Z Z Z Z Z Z Z Z Z Z Z (by simp[hRl]) (by simp)) Z (aB ?_)
 refine jf [9,0,1,5] Z (be (js Z ?_))
 first|refine ji Z ?_|refine aU Z Z ?_
 refine js Z (jf [1,9,0,5] Z (jn (ab (ac Z ?_))))
 first|refine lA Z Z ?_|refine aU Z Z ?_
 refine js Z (aa (bv O (ex:=[.int .i64 K,qo t.fs]) Z Z Z Z (by simp[hRl]) Z) Z (js Z (jf [24,23,1,9,0,5] Z (eG O (l:=0) (j:=1) (z:=2) (ex:=[.int .i64 K,qo t.fs]) (ys:=(t.fs).map Tm.cells) (ys':=(aR mT nT (K+1) t.fs).map Tm.cells) (xs':=R.set i [.int .i64 K,qo (aR mT nT (K+1) t.fs)]) Z Z Z Z (.rp (.d Z .nil)) (.rp (.d Z .nil)) Z (by simp[hRl]) Z (AA (ts:=t.fs) (k:=(K+1)) h1 h2 (by omega) (by omega)).1 (fun _=>by rw[bd];exact AA (ts:=t.fs) h1 h2 (by omega) (by omega)) (fun hys=>?_) Z (by simp[aD]) Z Z Z Z (by simp) ?_))))
 have hy:t.fs=[]:=by simpa using hys
 rw[hy]
 exact(Bt h1 h2 (k:=(K+1))).plain (by simp[cnt,hy])
 refine aB ?_
 refine js Z (jf [1,9,0,5] Z (jn (ab (js Z ?_))))
 first|refine ji Z ?_|refine aU Z Z ?_
 refine js Z (jf [5,1,9,0] Z (jn ?_))
 refine⟨i+1,Ent.to ⟨Z,?_,Z,ao⟩ (by rw[gA,←hRn]),by omega,by omega⟩
 rw[hcs]
 exact congrArg (fun z=>some (eI z)) (by omega)
 try simp only[aQ]at z9
 refine aJ (ae (ac Z (jr ?_)))
 refine ay Z ?_
 obtain rfl:i=ts.length:=by omega
 rw[jd (bQ _),List.take_length]
 exact⟨Z,Z⟩
abbrev w3(a:An):List (Nat×B):=[(0,cV a.pre),(1,cV a.post),(2,fj a.code),(3,gA a.pts)]
abbrev uS(a:An):A:=.agg [.rs 0 0 a.pre.length,.rs 1 0 a.post.length,.rs 2 0 a.code.length,.rs 3 0 a.pts.length]
def AI(k:Int)(a:An):An:=⟨aR mT nT k a.pre,aR mT nT (k+cnt nT a.pre) a.post,aR oT nIn (k+cnt nT a.pre+cnt nT a.post) a.code,aR mP nP (k+cnt nT a.pre+cnt nT a.post+cnt nIn a.code) a.pts⟩
variable{a:An}
theorem c27(hk0:0≤k)(hk1:k+cnt nT a.pre+cnt nT a.post+cnt nIn a.code+cnt nP a.pts≤1073741824):MQ h1 h2 19 [uS a,eI k] (w3 a) (fW (eI (k+cnt nT a.pre+cnt nT a.post+cnt nIn a.code+cnt nP a.pts)) (w3 (AI k a))):=by
 refine k9 500 Z (jH 22 [500,501,502,503] h1 h2 Tryz.func19 Z fun O hF=>?_)
 refine ae (jx Z (js Z (be (aF Z (jf [7,6,4,2,0,1] Z (cu O [500] (bin:=[cV a.pre]) Z Z Z Z (AA (ts:=a.pre) (k:=k) h1 h2 hk0 (by omega)) Z Z Z Z Z Z (B0:=9000) Z Z (aB ?_)))))))
 refine js Z (jf [1,4,2,0] Z (be (aF Z (jf [11,10,1,4,2,0] Z (cu O [501] (bin:=[cV a.post]) Z Z Z Z (AA (ts:=a.post) (k:=k+cnt nT a.pre) h1 h2 (by omega) (by omega)) Z Z Z Z Z Z (B0:=13000) Z Z (aB ?_))))))
 refine js Z (jf [1,4,2,0] Z (be (aF Z (jf [15,14,1,4,2,0] Z (cu O [502] (bin:=[fj a.code]) Z Z Z Z (c76 (ts:=a.code) (k:=k+cnt nT a.pre+cnt nT a.post) h1 h2 (by omega) (by omega)) Z Z Z Z Z Z (B0:=17000) Z Z (aB ?_))))))
 refine js Z (jf [1,4,2,0] Z (be (aF Z (jf [19,18,1,4,2,0] Z (cu O [503] (bin:=[gA a.pts]) Z Z Z Z (c77 (ts:=a.pts) (k:=k+cnt nT a.pre+cnt nT a.post+cnt nIn a.code) h1 h2 (by omega) (by omega)) Z Z Z Z Z Z (B0:=21000) Z Z (aB ?_))))))
 refine js Z (jf [1,4,2,0] Z (be (ac Z (jr ?_))))
 refine⟨.inl Z,_,aC [500,501,502,503] Z Z (e':=[(4,eI (k+cnt nT a.pre+cnt nT a.post+cnt nIn a.code+cnt nP a.pts))]) ⟨Z,ao⟩ Z,_,Z,Z,Z⟩
theorem c78{ts:List In}(hk0:0≤k)(hk1:k+cnt nIn ts≤1073741824):MQ h1 h2 60 [lF (aR oT nIn k ts),eI k] [] (Plain (eI (k+cnt nIn ts))):=by
 refine au ?_ Z
 refine jB 31 h1 h2 Tryz.func60 Z fun O hF=>?_
 have hlm:=aD (f:=oT) (sz:=nIn) (k:=k) (l:=ts)
 have hl:(aR oT nIn k ts).length≤L:=by simpa[As.fact,A.fact,M.fact,D.fact,Ds.fact]using hF.1.1
 refine ae (js Z (jn (ag (ae (js Z (jn (am (av (X:=Nat) (fun i=>⟨[(0,lF (aR oT nIn k ts)),(1,eI (k+cnt nIn (ts.take i))),(5,eI i)],[]⟩) (fun i=>i≤ts.length) (fun i=>ts.length-i) 0 (Ent.env ⟨Z,by simp[bD,az,cnt],Z,ao⟩) ?_ (fun i hi=>?_)))))))))
 exact ca _
 refine ag (ae (ac Z ?_))
 first|refine cm Z ?_|refine js Z ?_|refine aU Z Z ?_
 refine js Z (jf [9,0,1,5] Z (jn (ak Z (fun z9=>?_) (fun z9=>?_))))
 refine af (ag (am (ag (ae ?_))))
 have hil:i<ts.length:=by have h9:=bc z9;omega
 have hg:=dM (f:=oT) (sz:=nIn) (k:=k) hil
 have hcs:=c6 (sz:=nIn) hil
 have hcl:=fd (sz:=nIn) (l:=ts) (i:=i+1)
 rw[←getD_lt hil]at hcs
 obtain⟨t,ht⟩: ∃t,t=ts.getD i default:=⟨_,rfl⟩
 rw[←ht]at hg hcs
 simp only[nIn]at hcs
 obtain⟨K,hK⟩: ∃K,K=k+(cnt nIn (ts.take i):Int):=⟨_,rfl⟩
 rw[←hK]at hg ⊢
 refine ac Z (aa ((aE O Z Z Z Z Z Z Z Z (cb (by omega))).cast (v':=ptr (In.cells (oT K t))) (by rw[hg])) Z (aM Z (jf [18,9,0,1,5] Z (jn (ak Z (fun z18=>?_) (fun z18=>?_))))))
 exact absurd z18 (by simp)
 refine af (ae (js Z ?_))
 first|refine ji Z ?_|refine aU Z Z ?_
 refine js Z (jf [1,18,9,0,5] Z (jn (ag (ae (ac Z (aa ((aE O Z Z Z Z Z Z Z Z (cb (by omega))).cast (v':=ptr (In.cells (oT K t))) (by rw[hg])) Z (aM Z (jf [27,1,18,9,0,5] Z (jn (ak Z (fun z27=>?_) (fun z27=>?_)))))))))))
 exact absurd z27 (by simp)
 refine af (ab (js Z ?_))
 first|refine ji Z ?_|refine aU Z Z ?_
 refine js Z (jf [1,27,18,9,0,5] Z (jn (ab (js Z ?_))))
 first|refine ji Z ?_|refine aU Z Z ?_
 refine js Z (jf [5,1,27,18,9,0] Z (jn ?_))
 refine⟨i+1,Ent.env ⟨Z,?_,Z,ao⟩,by omega,by omega⟩
 rw[hcs]
 exact congrArg (fun z=>some (eI z)) (by omega)
 refine aJ (ae (ac Z (jr ?_)))
 refine ay Z ?_
 have h9:=bw z9
 obtain rfl:i=ts.length:=by omega
 rw[List.take_length]
theorem c79{ts:List Pt}(hk0:0≤k)(hk1:k+cnt nP ts≤1073741824):MQ h1 h2 61 [rD (aR mP nP k ts),eI k] [] (Plain (eI (k+cnt nP ts))):=by
 refine au ?_ Z
 refine jB 31 h1 h2 Tryz.func61 Z fun O hF=>?_
 have hlm:=aD (f:=mP) (sz:=nP) (k:=k) (l:=ts)
 have hl:(aR mP nP k ts).length≤L:=by simpa[As.fact,A.fact,M.fact,D.fact,Ds.fact]using hF.1.1
 refine ae (js Z (jn (ag (ae (js Z (jn (am (av (X:=Nat) (fun i=>⟨[(0,rD (aR mP nP k ts)),(1,eI (k+cnt nP (ts.take i))),(5,eI i)],[]⟩) (fun i=>i≤ts.length) (fun i=>ts.length-i) 0 (Ent.env ⟨Z,by simp[bD,az,cnt],Z,ao⟩) ?_ (fun i hi=>?_)))))))))
 exact ca _
 refine ag (ae (ac Z ?_))
 first|refine cm Z ?_|refine js Z ?_|refine aU Z Z ?_
 refine js Z (jf [9,0,1,5] Z (jn (ak Z (fun z9=>?_) (fun z9=>?_))))
 refine af (ag (am (ag (ae ?_))))
 have hil:i<ts.length:=by have h9:=bc z9;omega
 have hg:=dM (f:=mP) (sz:=nP) (k:=k) hil
 have hcs:=c6 (sz:=nP) hil
 have hcl:=fd (sz:=nP) (l:=ts) (i:=i+1)
 rw[←getD_lt hil]at hcs
 obtain⟨t,ht⟩: ∃t,t=ts.getD i default:=⟨_,rfl⟩
 rw[←ht]at hg hcs
 simp only[nP]at hcs
 obtain⟨K,hK⟩: ∃K,K=k+(cnt nP (ts.take i):Int):=⟨_,rfl⟩
 rw[←hK]at hg ⊢
 refine ac Z (aa ((aE O Z Z Z Z Z Z Z Z (cb (by omega))).cast (v':=ptr (Pt.cells (mP K t))) (by rw[hg])) Z (aM Z (jf [18,9,0,1,5] Z (jn (ak Z (fun z18=>?_) (fun z18=>?_))))))
 exact absurd z18 (by simp)
 refine af (ae (js Z ?_))
 first|refine ji Z ?_|refine aU Z Z ?_
 refine js Z (jf [1,18,9,0,5] Z (be (ac Z (aa ((aE O Z Z Z Z Z Z Z Z (cb (by omega))).cast (v':=ptr (Pt.cells (mP K t))) (by rw[hg])) Z (aF Z (jf [26,25,1,18,9,0,5] Z (aO Z (AM (ts:=t.fs) (k:=K+1) h1 h2 (by omega) (by omega)) 28000 Z (js Z (jf [1,18,9,0,5] Z (be (ac Z (jn (ak Z (fun z29=>?_) (fun z29=>?_))))))))))))))
 exact absurd (bc z29) (by omega)
 refine af (ab (js Z ?_))
 first|refine ji Z ?_|refine aU Z Z ?_
 refine js Z (jf [5,29,28,1,18,9,0] Z (jn ?_))
 refine⟨i+1,Ent.env ⟨Z,?_,Z,ao⟩,by omega,by omega⟩
 rw[hcs]
 exact congrArg (fun z=>some (eI z)) (by omega)
 refine aJ (ae (ac Z (jr ?_)))
 refine ay Z ?_
 have h9:=bw z9
 obtain rfl:i=ts.length:=by omega
 rw[List.take_length]
theorem c28(hk0:0≤k)(hk1:k+cnt nT a.pre+cnt nT a.post+cnt nIn a.code+cnt nP a.pts≤1073741824):MQ h1 h2 21 [wb (AI k a),eI k] [] (Plain (eI (k+cnt nT a.pre+cnt nT a.post+cnt nIn a.code+cnt nP a.pts))):=by
 refine au ?_ Z
 refine jB 30 h1 h2 Tryz.func21 Z fun O hF=>?_
 refine ae (jx Z (js Z (be (aF Z (jf [7,6,4,2,0,1] Z (aO Z (AM (ts:=a.pre) (k:=k) h1 h2 hk0 (by omega)) 9000 Z (js Z (jf [1,4,2,0] Z (jn (ag (ae (ac Z (jn (ak Z (fun z10=>?_) (fun z10=>?_)))))))))))))))
 exact absurd (bc z10) (by omega)
 refine af (ae (aF Z (jf [13,12,9,1,4,2,0] Z (aO Z (AM (ts:=a.post) (k:=k+cnt nT a.pre) h1 h2 (by omega) (by omega)) 15000 Z (js Z (jf [1,9,4,2,0] Z (jn (ag (ae (ac Z (jn (ak Z (fun z16=>?_) (fun z16=>?_)))))))))))))
 exact absurd (bc z16) (by omega)
 refine af (ae (aF Z (jf [19,18,15,1,9,4,2,0] Z (aO Z (c78 (ts:=a.code) (k:=k+cnt nT a.pre+cnt nT a.post) h1 h2 (by omega) (by omega)) 21000 Z (js Z (jf [1,15,9,4,2,0] Z (jn (ag (ae (ac Z (jn (ak Z (fun z22=>?_) (fun z22=>?_)))))))))))))
 exact absurd (bc z22) (by omega)
 refine af (ae (aF Z (jf [25,24,21,1,15,9,4,2,0] Z (aO Z (c79 (ts:=a.pts) (k:=k+cnt nT a.pre+cnt nT a.post+cnt nIn a.code) h1 h2 (by omega) (by omega)) 27000 Z (js Z (jf [1,21,15,9,4,2,0] Z (jn (ag (ae (ac Z (jn (ak Z (fun z28=>?_) (fun z28=>?_)))))))))))))
 exact absurd (bc z28) (by omega)
 refine af (ae (ac Z (jf [4,27,1,21,15,9,2,0] Z (jr ?_))))
 refine ay Z ?_
 rfl
theorem xg{a:Bool}(h:(!a)=true):a=false:=by simpa using h
theorem xf{a:Bool}(h:(!a)=false):a=true:=by simpa using h
theorem vZ{α:Type}{p:α→Bool}{xs:List α}(j:Nat)(hj:j<xs.length)(h:p xs[j]=true):xs.any p=true:=List.any_eq_true.2 ⟨xs[j],List.getElem_mem _,h⟩
theorem yd{α:Type}{p:α→Bool}{xs:List α}(h: ∀j (hj:j<xs.length),p xs[j]=false):xs.any p=false:=List.any_eq_false.2 fun x hx=>by
 obtain⟨j,hj,rfl⟩:=List.mem_iff_getElem.1 hx
 rw[h j hj];decide
theorem wA(t:Tm):(bif !t.ok then true else decide ((4:Int)<t.xs.length))= !t.term:=by
 unfold Tm.term
 cases t.ok
 rfl
 by_cases h:(4:Int)<t.xs.length
 rw[decide_eq_true h,decide_eq_false (by omega)];rfl
 rw[decide_eq_false h,decide_eq_true (by omega)];rfl
variable{x:In}
theorem xm:MQ h1 h2 113 [.agg (x.cells.map .d)] [] (Plain (eB (aV x))):=by
 refine au ?_ Z
 refine jB 37 h1 h2 Tryz.func113 Z fun O hF=>?_
 refine ae (jx Z (js Z (jn (ag (ae (ac Z (jn (am (ag (ae (ac Z (jn (ak Z (fun z5=>?_) (fun z5=>?_))))))))))))))
 try simp only[aQ]at z5
 refine af (ak Z (fun z5=>?_) (fun z5=>?_))
 try simp only[aQ]at z5
 refine ae (ac Z (aO Z (uQ h1 h2) 11000 Z (js Z (jr ?_))))
 refine ay Z ?_
 unfold aV cQ;simp_all
 try simp only[aQ]at z5
 contradiction
 try simp only[aQ]at z5
 refine ab (ac Z (jn (ak Z (fun z5=>?_) (fun z5=>?_))))
 try simp only[aQ]at z5
 refine ae (ac Z (aO Z (uQ h1 h2) 11000 Z (js Z (jr ?_))))
 refine ay Z ?_
 unfold aV cQ;simp_all
 try simp only[aQ]at z5
 refine ag (ae (ac Z (jn (ak Z (fun z11=>?_) (fun z11=>?_)))))
 try simp only[aQ]at z11
 refine af (ak Z (fun z11=>?_) (fun z11=>?_))
 try simp only[aQ]at z11
 refine ae (ac Z (aO Z (lI h1 h2) 17000 Z (js Z (jr ?_))))
 refine ay Z ?_
 unfold aV cQ;simp_all
 try simp only[aQ]at z11
 contradiction
 try simp only[aQ]at z11
 refine ab (ac Z (jn (ak Z (fun z11=>?_) (fun z11=>?_))))
 try simp only[aQ]at z11
 refine ae (ac Z (aO Z (lI h1 h2) 17000 Z (js Z (jr ?_))))
 refine ay Z ?_
 unfold aV cQ;simp_all
 try simp only[aQ]at z11
 refine ag (ae (ac Z (jn (ak Z (fun z17=>?_) (fun z17=>?_)))))
 try simp only[aQ]at z17
 refine af (ak Z (fun z17=>?_) (fun z17=>?_))
 try simp only[aQ]at z17
 refine ae (ac Z (aO Z (lI h1 h2) 23000 Z (js Z (jr ?_))))
 refine ay Z ?_
 unfold aV cQ;simp_all
 try simp only[aQ]at z17
 contradiction
 try simp only[aQ]at z17
 refine ab (ac Z (jn (ak Z (fun z17=>?_) (fun z17=>?_))))
 try simp only[aQ]at z17
 refine ae (ac Z (aO Z (lI h1 h2) 23000 Z (js Z (jr ?_))))
 refine ay Z ?_
 unfold aV cQ;simp_all
 try simp only[aQ]at z17
 refine ae (ac Z (jn (ak Z (fun z23=>?_) (fun z23=>?_))))
 try simp only[aQ]at z23
 refine ae (ac Z (aO Z (lI h1 h2) 28000 Z (js Z (jr ?_))))
 refine ay Z ?_
 unfold aV cQ;simp_all
 try simp only[aQ]at z23
 refine ag (ae (ac Z (jn (ak Z (fun z28=>?_) (fun z28=>?_)))))
 try simp only[aQ]at z28
 refine af (ak Z (fun z28=>?_) (fun z28=>?_))
 try simp only[aQ]at z28
 refine ae (aM Z (jr ?_))
 refine ay Z ?_
 unfold aV cQ;simp_all
 try simp only[aQ]at z28
 contradiction
 try simp only[aQ]at z28
 refine ae (ac Z (jn (ak Z (fun z28=>?_) (fun z28=>?_))))
 try simp only[aQ]at z28
 refine af (ak Z (fun z28=>?_) (fun z28=>?_))
 try simp only[aQ]at z28
 refine ae (aM Z (jr ?_))
 refine ay Z ?_
 unfold aV cQ;simp_all
 try simp only[aQ]at z28
 contradiction
 try simp only[aQ]at z28
 refine ae (ac Z (jn (ak Z (fun z28=>?_) (fun z28=>?_))))
 try simp only[aQ]at z28
 refine af (ak Z (fun z28=>?_) (fun z28=>?_))
 try simp only[aQ]at z28
 refine ae (aM Z (jr ?_))
 refine ay Z ?_
 unfold aV cQ;simp_all
 try simp only[aQ]at z28
 contradiction
 try simp only[aQ]at z28
 refine ae (ac Z (jn (ak Z (fun z28=>?_) (fun z28=>?_))))
 try simp only[aQ]at z28
 refine af (ak Z (fun z28=>?_) (fun z28=>?_))
 try simp only[aQ]at z28
 refine ae (aM Z (jr ?_))
 refine ay Z ?_
 unfold aV cQ;simp_all
 try simp only[aQ]at z28
 contradiction
 try simp only[aQ]at z28
 refine ab (ac Z (jn (ak Z (fun z28=>?_) (fun z28=>?_))))
 try simp only[aQ]at z28
 refine ae (aM Z (jr ?_))
 refine ay Z ?_
 unfold aV cQ;simp_all
 try simp only[aQ]at z28
 refine af (ae (js Z (jr ?_)))
 refine ay Z ?_
 unfold aV cQ;simp_all
variable{c:List In}
theorem BP:MQ h1 h2 115 [lF c] [] (Plain (eB (eT c))):=by
 refine au ?_ Z
 refine jB 19 h1 h2 Tryz.func115 Z fun O hF=>?_
 have hl:c.length≤L:=by simpa[As.fact,A.fact,M.fact,D.fact,Ds.fact]using hF.1.1
 refine ae (js Z (jn (ag (ae (js Z (jn (am (av (X:=Nat) (fun i=>⟨[(0,lF c),(3,eI i)],[]⟩) (fun i=>i≤c.length∧∀j (h:j<c.length),j<i→aV c[j]=true) (fun i=>c.length-i) 0 (Ent.env ⟨Z,Z,ao⟩) ?_ (fun i hi=>?_)))))))))
 exact⟨ca _,fun j h hj=>absurd hj (Nat.not_lt_zero j)⟩
 refine ag (ae (ac Z ?_))
 first|refine cm Z ?_|refine js Z ?_|refine aU Z Z ?_
 refine js Z (jn (ak Z (fun z7=>?_) (fun z7=>?_)))
 try simp only[aQ]at z7
 refine af (ag (am (ae (ac Z ?_))))
 first|refine lA Z Z ?_|refine aU Z Z ?_
 refine js Z (aO Z (xm h1 h2) 15000 Z (js Z (jn (ak Z (fun z15=>?_) (fun z15=>?_)))))
 try simp only[aQ]at z15
 refine ae (js Z (jr ?_))
 refine ay Z ?_
 rw[Int.toNat_natCast,getD_lt (by omega)]at z15
 rw[eT,fJ i (by omega) z15,Bool.false_and]
 try simp only[aQ]at z15
 refine af (ab (js Z ?_))
 first|refine ji Z ?_|refine aU Z Z ?_
 refine js Z (jn ?_)
 refine⟨i+1,Ent.env ⟨Z,Z,ao⟩,⟨by omega,fun j h hj=>?_⟩,by omega⟩
 by_cases e:j=i
 subst e;rw[Int.toNat_natCast,getD_lt h]at z15;exact z15
 exact hi.2 j h (by omega)
 try simp only[aQ]at z7
 refine aJ (ae (js Z ?_))
 first|refine cm Z ?_|refine js Z ?_|refine aU Z Z ?_
 refine aO Z (lI h1 h2) 19000 Z (js Z (jr ?_))
 refine ay Z ?_
 rw[eT,gU (fun j hj=>hi.2 j hj (by omega)),Bool.true_and]
 rfl
variable{ts:List Tm}
theorem sE:MQ h1 h2 116 [gB ts] [] (Plain (eB (terms ts 6))):=by
 refine au ?_ Z
 refine jB 27 h1 h2 Tryz.func116 Z fun O hF=>?_
 have hl:ts.length≤L:=by simpa[As.fact,A.fact,M.fact,D.fact,Ds.fact]using hF.1.1
 refine ae (js Z (jn (ag (ae (js Z (jn (am (av (X:=Nat) (fun i=>⟨[(0,gB ts),(3,eI i)],[]⟩) (fun i=>i≤ts.length∧∀j (h:j<ts.length),j<i→Tm.term ts[j]=true) (fun i=>ts.length-i) 0 (Ent.env ⟨Z,Z,ao⟩) ?_ (fun i hi=>?_)))))))))
 exact⟨ca _,fun j h hj=>absurd hj (Nat.not_lt_zero j)⟩
 refine ag (ae (ac Z ?_))
 first|refine cm Z ?_|refine js Z ?_|refine aU Z Z ?_
 refine js Z (jf [7,0,3] Z (jn (ak Z (fun z7=>?_) (fun z7=>?_))))
 refine af (ag (am (ae ?_)))
 have hil:i<ts.length:=by have:=bc z7;omega
 refine ac Z ?_
 first|refine uG Z Z ?_|refine lA Z Z ?_|refine aU Z Z ?_
 refine jf [12,7,0,3] Z (aO Z (uR (t:=ts.getD i default) h1 h2) 14000 Z (ac Z (jf [15,7,0,3] Z (ar 7 Z Z Z (fun hx=>aq hx Z (aq hx Z (bf hx (vN Z) Z (aq hx Z (aq hx Z (bf hx (bF O Z Z Z Z Z Z Z Z) Z (aq hx Z (AN.nil)))))))) Z Z ?_))))
 first|refine aa (al O Z Z Z Z Z) Z ?_|refine aa (Val.pickB O Z Z Z Z Z) Z ?_|refine aa (aj O Z Z Z Z Z) Z ?_
 refine jf [23,7,0,3] Z (jn (ak Z (fun z23=>?_) (fun z23=>?_)))
 refine ae (js Z (jr ?_))
 refine ay Z ?_
 have h9:=xg ((wA _).symm.trans z23)
 rw[getD_lt hil]at h9
 rw[terms,fJ i hil h9,Bool.false_and]
 refine af (ab (js Z ?_))
 first|refine ji Z ?_|refine aU Z Z ?_
 refine js Z (jf [3,23,7,0] Z (jn ?_))
 refine⟨i+1,Ent.env ⟨Z,Z,ao⟩,⟨by omega,fun j h hj=>?_⟩,by omega⟩
 by_cases e:j=i
 subst e;rw[←getD_lt h];exact xf ((wA _).symm.trans z23)
 exact hi.2 j h (by omega)
 refine aJ (ae (js Z ?_))
 first|refine cm Z ?_|refine js Z ?_|refine aU Z Z ?_
 refine ac Z (jf [2,7,0,3] Z (jr ?_))
 refine ay Z ?_
 have h9:=bw z7
 rw[terms,gU (fun j hj=>hi.2 j hj (by omega)),Bool.true_and]
theorem BU{a:An}{i:Nat}:(bif (bif !(decide (0≤(a.pts.getD i default).k)&&decide ((a.pts.getD i default).k≤(a.code.length:Int)-1))then true else !terms (a.pts.getD i default).fs 6)then true else(bif decide ((0:Int)<i)then decide ((a.pts.getD i default).k≤(a.pts.getD (i-1) default).k)else false))= !sd a.code.length a.pts i:=by
 unfold sd cQ
 rw[show decide ((0:Int)<i)=decide (0<i)from decide_eq_decide.2 (by omega)]
 cases decide (0≤(a.pts.getD i default).k)<;>cases decide ((a.pts.getD i default).k≤(a.code.length:Int)-1)<;>cases terms (a.pts.getD i default).fs 6<;>cases decide (0<i)<;>cases decide ((a.pts.getD i default).k≤(a.pts.getD (i-1) default).k)<;>rfl
theorem tV{a:An}(h:(bif (bif (bif !eT a.code then true else !terms a.pre 6)then true else !terms a.post 6)then true else decide ((8:Int)<a.pts.length))=true):dC a=false:=by
 unfold dC
 rw[show decide (a.pts.length≤8)= !decide ((8:Int)<a.pts.length) by rw[←decide_not];exact decide_eq_decide.2 (by omega)]
 generalize eT a.code=b1 at h ⊢
 generalize terms a.pre 6=b2 at h ⊢
 generalize terms a.post 6=b3 at h ⊢
 generalize decide ((8:Int)<a.pts.length)=b at h ⊢
 cases b1<;>cases b2<;>cases b3<;>cases b<;>simp_all
theorem iH{a:An}(h:(bif (bif (bif !eT a.code then true else !terms a.pre 6)then true else !terms a.post 6)then true else decide ((8:Int)<a.pts.length))=false):dC a=rz a.code.length a.pts∧a.pts.length≤8∧eT a.code=true:=by
 unfold dC
 rw[show decide (a.pts.length≤8)= !decide ((8:Int)<a.pts.length) by rw[←decide_not];exact decide_eq_decide.2 (by omega)]
 generalize eT a.code=b1 at h ⊢
 generalize terms a.pre 6=b2 at h ⊢
 generalize terms a.post 6=b3 at h ⊢
 by_cases hb:(8:Int)<a.pts.length
 rw[decide_eq_true hb]at h
 cases b1<;>cases b2<;>cases b3<;>cases h
 rw[decide_eq_false hb]at h ⊢
 have h9:a.pts.length≤8:=by omega
 cases b1<;>cases b2<;>cases b3<;>simp_all
theorem rQ{c:List In}(h:eT c=true):1≤c.length∧c.length≤80:=by
 simp only[eT,cQ,bK,decide_eq_true_eq]at h;omega
theorem Cc:MQ h1 h2 67 [ptr a.data] [] (Plain (eB (dC a))):=by
 refine au ?_ Z
 refine jB 90 h1 h2 Tryz.func67 Z fun O hF=>?_
 have hl:a.code.length≤L:=by simpa[As.fact,A.fact,M.fact,D.fact,Ds.fact]using hF.1.2.2.1.1
 have hlp:a.pts.length≤L:=by simpa[As.fact,A.fact,M.fact,D.fact,Ds.fact]using hF.1.2.2.2.1.1
 refine ae (js Z (jn (ag (ae (aM Z (bJ [(8,_),(2,_),(0,_)] [] ⟨Z,Z,Z,ao⟩ Z (aO Z (BP h1 h2) 10000 Z (ac Z (bJ [(11,_),(2,_),(0,_)] [] ⟨Z,Z,Z,ao⟩ Z (ar 6 Z Z Z (fun hx=>aq hx Z (aq hx Z (aq hx Z (aq hx Z (bj O hx Z Z Z Z (sE h1 h2) (ah Z) Z Z Z Z Z Z Z (B0:=17000) Z (aq hx Z (AN.nil))))))) Z Z ?_))))))))))
 first|refine aa (al O Z Z Z Z Z) Z ?_|refine aa (Val.pickB O Z Z Z Z Z) Z ?_|refine aa (aj O Z Z Z Z Z) Z ?_
 refine js Z (bJ [(19,_),(2,_),(0,_)] [] ⟨Z,Z,Z,ao⟩ Z (ar 6 Z Z Z (fun hx=>aq hx Z (aq hx Z (aq hx Z (aq hx Z (bj O hx Z Z Z Z (sE h1 h2) (ah Z) Z Z Z Z Z Z Z (B0:=25000) Z (aq hx Z (AN.nil))))))) Z Z ?_))
 first|refine aa (al O Z Z Z Z Z) Z ?_|refine aa (Val.pickB O Z Z Z Z Z) Z ?_|refine aa (aj O Z Z Z Z Z) Z ?_
 refine js Z (bJ [(27,_),(2,_),(0,_)] [] ⟨Z,Z,Z,ao⟩ Z (ar 6 Z Z Z (fun hx=>aq hx Z (aq hx Z (aq hx Z (aq hx Z (bf hx (bF O Z Z Z Z Z Z Z Z) Z (aq hx Z (AN.nil))))))) Z Z ?_))
 first|refine aa (al O Z Z Z Z Z) Z ?_|refine aa (Val.pickB O Z Z Z Z Z) Z ?_|refine aa (aj O Z Z Z Z Z) Z ?_
 refine jf [34,2,0] Z (jn (ak Z (fun z34=>?_) (fun z34=>?_)))
 refine ae (js Z (jr ?_))
 refine ay Z ?_
 rw[tV z34]
 refine af (ag (ae (js Z (jn (am (av (X:=Nat) (fun i=>⟨[(0,ptr a.data),(3,eI i)],[]⟩) (fun i=>i≤a.pts.length∧∀j,j<i→sd a.code.length a.pts j=true) (fun i=>a.pts.length-i) 0 (Ent.env ⟨Z,Z,ao⟩) ?_ (fun i hi=>?_)))))))
 exact⟨ca _,fun j hj=>absurd hj (Nat.not_lt_zero j)⟩
 refine ag (ae (aM Z (js Z ?_)))
 first|refine cm Z ?_|refine js Z ?_|refine aU Z Z ?_
 refine js Z (jf [41,0,3] Z (jn (ak Z (fun z41=>?_) (fun z41=>?_))))
 refine af (ag (am (ae ?_)))
 have hil:i<a.pts.length:=by have:=bc z41;omega
 refine aM Z (js Z ?_)
 first|refine uG Z Z ?_|refine lA Z Z ?_|refine aU Z Z ?_
 refine js Z (jf [4,41,0,3] Z (jn (ag (bl (F:=⟨[(89,eB (bif (bif !(decide (0≤(a.pts.getD i default).k)&&decide ((a.pts.getD i default).k≤(a.code.length:Int)-1))then true else !terms (a.pts.getD i default).fs 6)then true else(bif decide ((0:Int)<i)then decide ((a.pts.getD i default).k≤(a.pts.getD (i-1) default).k)else false))),(0,ptr a.data),(3,eI i)],[]⟩) ?_ ?_))))
 cases hb7:!(decide (0≤(a.pts.getD i default).k)&&decide ((a.pts.getD i default).k≤(a.code.length:Int)-1))with
 | true=>
  refine uH (_::_::_::_::_::_::_::_::_::_::_::_::_::_::_::_::_::_::_::_::_::_::_::_::_::_::_::_::_::_::_::_::_::_::_::_::_::_::_::_::[]) (bC::bb [0]::bb [0,1]::bb [0,1,2]::bC::bb [4]::bb [4,5]::bb [4,5,6]::bb (rg 4 4)::bb (rg 4 5)::pe (rg 0 10) 0::pn (rg 0 11) 1 1::pn (rg 0 12) 1 1::pn (rg 0 13) 0 1::pn (rg 0 14) 0 1::pn (rg 0 15) 0 1::pn (rg 0 16) 0 1::pn (rg 0 17) 0 1::pn (rg 0 18) 0 1::pn (rg 0 19) 1 1::pn (rg 0 20) 1 1::pn (rg 0 21) 0 1::pn (rg 0 22) 0 1::pn (rg 0 23) 0 1::pn (rg 0 24) 0 1::pn (rg 0 25) 0 1::pn (rg 0 26) 0 1::pn (rg 0 27) 0 1::pn (rg 0 24) 0 1::pn (rg 0 24++[28]) 0 1::pn (rg 0 30) 0 1::pn (rg 0 31) 0 1::pn (rg 0 32) 0 1::pn (rg 0 24) 0 1::pn (rg 0 24++[33]) 0 1::pn (rg 0 24++[33,34]) 0 1::pn (rg 0 24++[33,34,35]) 0 1::pn (rg 0 37) 0 1::pn (rg 0 38) 0 1::pn (rg 0 39) 1 1::[]) [10] [_,_] (kc Z (kc Z (kc Z (kc Z (kc Z (kc Z (kc Z (kc Z (ai (bF O Z Z Z Z Z Z Z Z) (ai (vF Z) (ai (aP O (B0:=61000) Z Z Z Z (lI h1 h2) (ah Z) Z Z Z Z Z) (kc Z (ai ((V Z).cast (v':=eB true) (congrArg eB hb7)) (ai ⟨Z,Z⟩ (ai ⟨Z,Z⟩ (ai ⟨Z,Z⟩ (ai ⟨Z,Z⟩ (ai ⟨Z,Z⟩ (ai ⟨Z,Z⟩ (ai (cU O Z Z Z Z Z) (kc Z (ai ⟨Z,Z⟩ (ai ⟨Z,Z⟩ (ai ⟨Z,Z⟩ (ai ⟨Z,Z⟩ (ai ⟨Z,Z⟩ (ai ⟨Z,Z⟩ (ai ⟨Z,Z⟩ (ai ⟨Z,Z⟩ (ai ⟨Z,Z⟩ (ai ⟨Z,Z⟩ (ai ⟨Z,Z⟩ (ai ⟨Z,Z⟩ (ai ⟨Z,Z⟩ (ai ⟨Z,Z⟩ (ai ⟨Z,Z⟩ (ai ⟨Z,Z⟩ (ai ⟨Z,Z⟩ (ai ⟨Z,Z⟩ (ai (cU O Z Z Z Z Z) trivial)))))))))))))))))))))))))))))))))))))))) ?_
  exact⟨Z,Ent.env ⟨Z,Z,Z,ao⟩⟩
 | false=>
  cases hb7b:!terms (a.pts.getD i default).fs 6 with
  | true=>
   refine uH (_::_::_::_::_::_::_::_::_::_::_::_::_::_::_::_::_::_::_::_::_::_::_::_::_::_::_::_::_::_::_::_::_::_::_::_::_::_::_::_::[]) (bC::bb [0]::bb [0,1]::bb [0,1,2]::bC::bb [4]::bb [4,5]::bb [4,5,6]::bb (rg 4 4)::bb (rg 4 5)::pe (rg 0 10) 0::pn (rg 0 11) 1 1::pn (rg 0 12) 1 1::pn (rg 0 13) 1 1::pn (rg 0 14) 1 1::pn (rg 0 15) 1 1::pn (rg 0 16) 1 1::pe (rg 0 17) 1::pn (rg 0 18) 2 2::pn (rg 0 19) 2 2::pn (rg 0 20) 2 2::pn (rg 0 21) 0 2::pn (rg 0 22) 0 2::pn (rg 0 23) 0 2::pn (rg 0 24) 0 2::pn (rg 0 25) 0 2::pn (rg 0 26) 0 2::pn (rg 0 27) 0 2::pn (rg 0 24) 0 2::pn (rg 0 24++[28]) 0 2::pn (rg 0 30) 0 2::pn (rg 0 31) 0 2::pn (rg 0 32) 0 2::pn (rg 0 24) 0 2::pn (rg 0 24++[33]) 0 2::pn (rg 0 24++[33,34]) 0 2::pn (rg 0 24++[33,34,35]) 0 2::pn (rg 0 37) 0 2::pn (rg 0 38) 0 2::pn (rg 0 39) 2 2::[]) [10,17] [_,_,_] (kc Z (kc Z (kc Z (kc Z (kc Z (kc Z (kc Z (kc Z (ai (bF O Z Z Z Z Z Z Z Z) (ai (vF Z) (ai (aP O (B0:=61000) Z Z Z Z (lI h1 h2) (ah Z) Z Z Z Z Z) (kc Z (ai ((V Z).cast (v':=eB false) (congrArg eB hb7)) (kc Z (kc Z (kc Z (kc Z (ai (aP O (B0:=68000) Z Z Z Z (sE h1 h2) (ah Z) Z Z Z Z Z) (kc Z (ai (bm O Z Z Z Z Z) (ai ((V Z).cast (v':=eB true) (congrArg eB hb7b)) (ai ⟨Z,Z⟩ (ai ⟨Z,Z⟩ (ai ⟨Z,Z⟩ (ai ⟨Z,Z⟩ (ai ⟨Z,Z⟩ (ai ⟨Z,Z⟩ (ai ⟨Z,Z⟩ (ai ⟨Z,Z⟩ (ai ⟨Z,Z⟩ (ai ⟨Z,Z⟩ (ai ⟨Z,Z⟩ (ai ⟨Z,Z⟩ (ai ⟨Z,Z⟩ (ai ⟨Z,Z⟩ (ai ⟨Z,Z⟩ (ai ⟨Z,Z⟩ (ai ⟨Z,Z⟩ (ai ⟨Z,Z⟩ (ai (cU O Z Z Z Z Z) trivial)))))))))))))))))))))))))))))))))))))))) ?_
   exact⟨Z,Ent.env ⟨Z,Z,Z,ao⟩⟩
  | false=>
   cases hb7c:decide ((0:Int)<i)with
   | true=>
    have hi0:0<i:=by have:=bc hb7c;omega
    refine uH (_::_::_::_::_::_::_::_::_::_::_::_::_::_::_::_::_::_::_::_::_::_::_::_::_::_::_::_::_::_::_::_::_::_::_::_::_::_::_::_::[]) (bC::bb [0]::bb [0,1]::bb [0,1,2]::bC::bb [4]::bb [4,5]::bb [4,5,6]::bb (rg 4 4)::bb (rg 4 5)::pe (rg 0 10) 0::pn (rg 0 11) 1 1::pn (rg 0 12) 1 1::pn (rg 0 13) 1 1::pn (rg 0 14) 1 1::pn (rg 0 15) 1 1::pn (rg 0 16) 1 1::pe (rg 0 17) 1::pn (rg 0 18) 2 2::pn (rg 0 19) 2 2::pn (rg 0 20) 2 2::pn (rg 0 21) 2 2::pn (rg 0 22) 2 2::pn (rg 0 23) 2 2::pn (rg 0 24) 2 2::pn (rg 0 25) 2 2::pn (rg 0 26) 2 2::pn (rg 0 27) 2 2::pn (rg 0 24) 2 2::pn (rg 0 24++[28]) 2 2::pn (rg 0 30) 2 2::pn (rg 0 31) 2 2::pn (rg 0 32) 2 2::pn (rg 0 24) 2 2::pn (rg 0 24++[33]) 2 2::pn (rg 0 24++[33,34]) 2 2::pn (rg 0 24++[33,34,35]) 2 2::pn (rg 0 37) 2 2::pn (rg 0 38) 2 2::pn (rg 0 39) 2 2::[]) [10,17] [_,_,_] (kc Z (kc Z (kc Z (kc Z (kc Z (kc Z (kc Z (kc Z (ai (bF O Z Z Z Z Z Z Z Z) (ai (vF Z) (ai (aP O (B0:=61000) Z Z Z Z (lI h1 h2) (ah Z) Z Z Z Z Z) (kc Z (ai ((V Z).cast (v':=eB false) (congrArg eB hb7)) (kc Z (kc Z (kc Z (kc Z (ai (aP O (B0:=68000) Z Z Z Z (sE h1 h2) (ah Z) Z Z Z Z Z) (kc Z (ai (bm O Z Z Z Z Z) (ai ((V Z).cast (v':=eB false) (congrArg eB hb7b)) (kc Z (kc Z (ai ((V Z).cast (v':=eB true) (congrArg eB hb7c)) (kc Z (kc Z (kc Z (kc Z (kc Z (ai ((vF Z).cast (v':=eI ((i-1:Nat):Int)) (congrArg eI (by omega))) (ai (vN Z) (kc Z (kc Z (kc Z (kc Z (kc Z (kc Z (kc Z (ai (cU O Z Z Z Z Z) (ai (bm O Z Z Z Z Z) trivial)))))))))))))))))))))))))))))))))))))))) ?_
    exact⟨Z,Ent.env ⟨Z,Z,Z,ao⟩⟩
   | false=>
    refine uH (_::_::_::_::_::_::_::_::_::_::_::_::_::_::_::_::_::_::_::_::_::_::_::_::_::_::_::_::_::_::_::_::_::_::_::_::_::_::_::_::[]) (bC::bb [0]::bb [0,1]::bb [0,1,2]::bC::bb [4]::bb [4,5]::bb [4,5,6]::bb (rg 4 4)::bb (rg 4 5)::pe (rg 0 10) 0::pn (rg 0 11) 1 1::pn (rg 0 12) 1 1::pn (rg 0 13) 1 1::pn (rg 0 14) 1 1::pn (rg 0 15) 1 1::pn (rg 0 16) 1 1::pe (rg 0 17) 1::pn (rg 0 18) 2 2::pn (rg 0 19) 2 2::pn (rg 0 20) 2 2::pn (rg 0 21) 2 2::pn (rg 0 22) 2 2::pn (rg 0 23) 2 2::pn (rg 0 24) 0 2::pn (rg 0 25) 0 2::pn (rg 0 26) 0 2::pn (rg 0 27) 0 2::pn (rg 0 24) 0 2::pn (rg 0 24++[28]) 0 2::pn (rg 0 30) 0 2::pn (rg 0 31) 0 2::pn (rg 0 32) 0 2::pn (rg 0 24) 0 2::pn (rg 0 24++[33]) 0 2::pn (rg 0 24++[33,34]) 0 2::pn (rg 0 24++[33,34,35]) 0 2::pn (rg 0 37) 0 2::pn (rg 0 38) 2 2::pn (rg 0 39) 2 2::[]) [10,17] [_,_,_] (kc Z (kc Z (kc Z (kc Z (kc Z (kc Z (kc Z (kc Z (ai (bF O Z Z Z Z Z Z Z Z) (ai (vF Z) (ai (aP O (B0:=61000) Z Z Z Z (lI h1 h2) (ah Z) Z Z Z Z Z) (kc Z (ai ((V Z).cast (v':=eB false) (congrArg eB hb7)) (kc Z (kc Z (kc Z (kc Z (ai (aP O (B0:=68000) Z Z Z Z (sE h1 h2) (ah Z) Z Z Z Z Z) (kc Z (ai (bm O Z Z Z Z Z) (ai ((V Z).cast (v':=eB false) (congrArg eB hb7b)) (kc Z (kc Z (ai ((V Z).cast (v':=eB false) (congrArg eB hb7c)) (ai ⟨Z,Z⟩ (ai ⟨Z,Z⟩ (ai ⟨Z,Z⟩ (ai ⟨Z,Z⟩ (ai ⟨Z,Z⟩ (ai ⟨Z,Z⟩ (ai ⟨Z,Z⟩ (ai ⟨Z,Z⟩ (ai ⟨Z,Z⟩ (ai ⟨Z,Z⟩ (ai ⟨Z,Z⟩ (ai ⟨Z,Z⟩ (ai ⟨Z,Z⟩ (ai ⟨Z,Z⟩ (ai (bm O Z Z Z Z Z) (ai (bm O Z Z Z Z Z) trivial)))))))))))))))))))))))))))))))))))))))) ?_
    exact⟨Z,Ent.env ⟨Z,Z,Z,ao⟩⟩
 refine ak Z (fun z89=>?_) (fun z89=>?_)
 refine ae (js Z (jr ?_))
 refine ay Z ?_
 rw[(iH z34).1,nV i hil (xg (BU.symm.trans z89))]
 refine af (ab (js Z ?_))
 first|refine ji Z ?_|refine aU Z Z ?_
 refine js Z (jf [3,89,0] Z (jn ?_))
 have h9:sd a.code.length a.pts i=true:=xf (BU.symm.trans z89)
 refine⟨i+1,Ent.env ⟨Z,Z,ao⟩,⟨by omega,fun j hj=>?_⟩,by omega⟩
 by_cases e:j=i
 subst e;exact h9
 exact hi.2 j (by omega)
 refine aJ (ae (js Z (jr ?_)))
 refine ay Z ?_
 rw[(iH z34).1,qY fun j hj=>hi.2 j (by have:=bw z41;omega)]
section
set_option linter.unusedSectionVars false
variable{α:Type}[Inhabited α]{f:α→α}{l:List α}{i:Nat}{g:α→List D}
end
structure Fo(a out:An)(k:Nat):Prop where
  le:k≤out.code.length
  eq:qC out=qC a
  ok:AOk out
  no: ∀j,j<k→(qr out j).1=0
structure Gn(a out:An):Prop where
  eq:qC out=qC a
  ok:AOk out
abbrev xo(a:An):List B:=[cV a.pre,cV a.post,fj a.code,gA a.pts]
theorem yU{x:Int}:MQ h1 h2 136 [eI x] [] (Plain (eB (cQ 0 79 x))):=by
 refine au ?_ Z
 refine jB 5 h1 h2 Tryz.func136 Z fun O hF=>?_
 refine ae (js Z (be (js Z (aO Z (iu h1 h2) 5000 Z (js Z (jr ?_))))))
 refine ay Z ?_
 first|rfl|skip
theorem yY:MQ h1 h2 87 [.agg (x.cells.map .d)] [] (Plain (eB (aV x))):=by
 refine au ?_ Z
 refine jB 37 h1 h2 Tryz.func87 Z fun O hF=>?_
 refine ae (jx Z (js Z (jn (ag (ae (ac Z (jn (am (ag (ae (ac Z (jn (ak Z (fun z5=>?_) (fun z5=>?_))))))))))))))
 try simp only[aQ]at z5
 refine af (ak Z (fun z5=>?_) (fun z5=>?_))
 try simp only[aQ]at z5
 refine ae (ac Z (jf [9,6,4,3,2,1,0] Z (aO Z (xl h1 h2) 11000 Z (js Z (jf [2,6,4,3,1,0] Z (jr ?_))))))
 refine ay Z ?_
 unfold aV cQ;simp_all
 try simp only[aQ]at z5
 contradiction
 try simp only[aQ]at z5
 refine ab (ac Z (jn (ak Z (fun z5=>?_) (fun z5=>?_))))
 try simp only[aQ]at z5
 refine ae (ac Z (jf [9,7,6,4,3,2,1,0] Z (aO Z (xl h1 h2) 11000 Z (js Z (jf [2,7,6,4,3,1,0] Z (jr ?_))))))
 refine ay Z ?_
 unfold aV cQ;simp_all
 try simp only[aQ]at z5
 refine ag (ae (ac Z (jf [11,7,6,4,3,2,1,0] Z (jn (ak Z (fun z11=>?_) (fun z11=>?_))))))
 try simp only[aQ]at z11
 refine af (ak Z (fun z11=>?_) (fun z11=>?_))
 try simp only[aQ]at z11
 refine ae (ac Z (jf [15,7,6,4,3,2,1,0] Z (aO Z (yV h1 h2) 17000 Z (js Z (jf [2,7,6,4,3,1,0] Z (jr ?_))))))
 refine ay Z ?_
 unfold aV cQ;simp_all
 try simp only[aQ]at z11
 contradiction
 try simp only[aQ]at z11
 refine ab (ac Z (jn (ak Z (fun z11=>?_) (fun z11=>?_))))
 try simp only[aQ]at z11
 refine ae (ac Z (jf [15,13,7,6,4,3,2,1,0] Z (aO Z (yV h1 h2) 17000 Z (js Z (jf [2,13,7,6,4,3,1,0] Z (jr ?_))))))
 refine ay Z ?_
 unfold aV cQ;simp_all
 try simp only[aQ]at z11
 refine ag (ae (ac Z (jf [17,13,7,6,4,3,2,1,0] Z (jn (ak Z (fun z17=>?_) (fun z17=>?_))))))
 try simp only[aQ]at z17
 refine af (ak Z (fun z17=>?_) (fun z17=>?_))
 try simp only[aQ]at z17
 refine ae (ac Z (jf [21,13,7,6,4,3,2,1,0] Z (aO Z (yU h1 h2) 23000 Z (js Z (jf [2,13,7,6,4,3,1,0] Z (jr ?_))))))
 refine ay Z ?_
 unfold aV cQ;simp_all
 try simp only[aQ]at z17
 contradiction
 try simp only[aQ]at z17
 refine ab (ac Z (jn (ak Z (fun z17=>?_) (fun z17=>?_))))
 try simp only[aQ]at z17
 refine ae (ac Z (jf [21,19,13,7,6,4,3,2,1,0] Z (aO Z (yU h1 h2) 23000 Z (js Z (jf [2,19,13,7,6,4,3,1,0] Z (jr ?_))))))
 refine ay Z ?_
 unfold aV cQ;simp_all
 try simp only[aQ]at z17
 refine ae (ac Z (jf [23,19,13,7,6,4,3,2,1,0] Z (jn (ak Z (fun z23=>?_) (fun z23=>?_)))))
 try simp only[aQ]at z23
 refine ae (ac Z (jf [26,19,13,7,6,4,3,2,1,0] Z (aO Z (Bz h1 h2) 28000 Z (js Z (jf [2,19,13,7,6,4,3,1,0] Z (jr ?_))))))
 refine ay Z ?_
 unfold aV cQ;simp_all
 try simp only[aQ]at z23
 refine ag (ae (ac Z (jf [28,19,13,7,6,4,3,2,1,0] Z (jn (ak Z (fun z28=>?_) (fun z28=>?_))))))
 try simp only[aQ]at z28
 refine af (ak Z (fun z28=>?_) (fun z28=>?_))
 try simp only[aQ]at z28
 refine ae (aM Z (jf [2,28,19,13,7,6,4,3,1,0] Z (jr ?_)))
 refine ay Z ?_
 unfold aV cQ;simp_all
 try simp only[aQ]at z28
 contradiction
 try simp only[aQ]at z28
 refine ae (ac Z (jn (ak Z (fun z28=>?_) (fun z28=>?_))))
 try simp only[aQ]at z28
 refine af (ak Z (fun z28=>?_) (fun z28=>?_))
 try simp only[aQ]at z28
 refine ae (aM Z (jf [2,28,30,19,13,7,6,4,3,1,0] Z (jr ?_)))
 refine ay Z ?_
 unfold aV cQ;simp_all
 try simp only[aQ]at z28
 contradiction
 try simp only[aQ]at z28
 refine ae (ac Z (jn (ak Z (fun z28=>?_) (fun z28=>?_))))
 try simp only[aQ]at z28
 refine af (ak Z (fun z28=>?_) (fun z28=>?_))
 try simp only[aQ]at z28
 refine ae (aM Z (jf [2,28,31,30,19,13,7,6,4,3,1,0] Z (jr ?_)))
 refine ay Z ?_
 unfold aV cQ;simp_all
 try simp only[aQ]at z28
 contradiction
 try simp only[aQ]at z28
 refine ae (ac Z (jn (ak Z (fun z28=>?_) (fun z28=>?_))))
 try simp only[aQ]at z28
 refine af (ak Z (fun z28=>?_) (fun z28=>?_))
 try simp only[aQ]at z28
 refine ae (aM Z (jf [2,32,31,30,19,13,7,6,4,3,1,0] Z (jr ?_)))
 refine ay Z ?_
 unfold aV cQ;simp_all
 try simp only[aQ]at z28
 contradiction
 try simp only[aQ]at z28
 refine ab (ac Z (jn (ak Z (fun z28=>?_) (fun z28=>?_))))
 try simp only[aQ]at z28
 refine ae (aM Z (jf [2,33,32,31,30,19,13,7,6,4,3,1,0] Z (jr ?_)))
 refine ay Z ?_
 unfold aV cQ;simp_all
 try simp only[aQ]at z28
 refine af (ae (js Z (jr ?_)))
 refine ay Z ?_
 unfold aV cQ;simp_all
theorem BG:MQ h1 h2 139 [.agg (x.cells.map .d)] [] (Plain (eB (!aV x))):=by
 refine au ?_ Z
 refine jB 6 h1 h2 Tryz.func139 Z fun O hF=>?_
 refine ae (jx Z (js Z (be (js Z (jf [3,2,0] Z (aO Z (yY h1 h2) 5000 Z (ac Z (jf [2,0] Z (jr ?_)))))))))
 refine ay Z ?_
 first|rfl|skip
theorem BB{p:Pt}:MQ h1 h2 144 [.agg (p.cells.map .d),ptr [.int .i64 k]] [] (Plain (eB (decide (p.k=k)))):=by
 refine au ?_ Z
 refine jB 8 h1 h2 Tryz.func144 Z fun O hF=>?_
 refine ae (jx Z (js Z (be (aM Z (js Z (jf [3,0] Z (jr ?_)))))))
 refine ay Z ?_
 first|rfl|skip
def gd{α:Type}(p:α→Bool)(l:List α):Int:=if l.any p=true then(l.findIdx p:Nat)else -1
theorem gR{α:Type}{p:α→Bool}{l:List α}(h: ∀j (hj:j<l.length),p l[j]=false):gd p l= -1:=by rw[gd,if_neg (by rw[yd h];decide)]
theorem gS{α:Type}{p:α→Bool}{l:List α}{i:Nat}(hi:i<l.length)(h: ∀j (hj:j<l.length),j<i→p l[j]=false)(hn:p l[i]=true):gd p l=i:=by
 rw[gd,if_pos (vZ i hi hn)]
 exact congrArg Nat.cast ((List.findIdx_eq hi).2 ⟨hn,fun j hj=>by simp[h j (by omega) hj]⟩)
theorem pD{α:Type}{p:α→Bool}{l:List α}:decide (gd p l≥0)=l.any p:=by
 unfold gd
 cases h:l.any p<;>simp
theorem zx:MQ h1 h2 166 [lF c,.c (.fn 139 [])] [] (Plain (eI (gd (fun x:In=>!aV x) c))):=by
 refine au ?_ Z
 refine jB 19 h1 h2 Tryz.func166 Z fun O hF=>?_
 have hl:c.length≤L:=by simpa[As.fact,A.fact,M.fact,D.fact,Ds.fact]using hF.1.1
 refine ae (js Z (jn (ag (ae (js Z ?_)))))
 first|refine cm Z ?_|refine js Z ?_|refine aU Z Z ?_
 refine js Z (jn (am (av (X:=Nat) (fun i=>⟨[(0,lF c),(1,.c (.fn 139 [])),(7,eI c.length),(8,eI i)],[]⟩) (fun i=>i≤c.length∧∀j (h:j<c.length),j<i→(fun x:In=>!aV x) c[j]=false) (fun i=>c.length-i) 0 (Ent.env ⟨Z,Z,Z,Z,ao⟩) ?_ (fun i hi=>?_))))
 exact⟨ca _,fun j h hj=>absurd hj (Nat.not_lt_zero j)⟩
 refine ae (js Z (jn (ag (ak Z (fun z9=>?_) (fun z9=>?_)))))
 refine af (ag (am (ae ?_)))
 have hil:i<c.length:=by have:=bc z9;omega
 refine ac Z (be (aF Z ?_))
 first|refine uG Z Z ?_|refine lA Z Z ?_|refine aU Z Z ?_
 refine js Z (bJ [(15,_),(11,_),(5,_),(10,_),(9,_),(0,_),(1,_),(7,_),(8,_)] [] ⟨Z,Z,Z,Z,Z,Z,Z,Z,Z,ao⟩ Z (aO Z (BG (x:=c.getD i default) h1 h2) 17000 Z (jf [16,5,10,9,0,1,7,8] Z (jn (ak Z (fun z16=>?_) (fun z16=>?_))))))
 refine ae (ac Z (jr ?_))
 refine ay Z ?_
 rw[getD_lt hil]at z16
 rw[gS hil hi.2 z16]
 refine af (ab ?_)
 first|refine ji Z ?_|refine aU Z Z ?_
 refine js Z (jn ?_)
 refine⟨i+1,Ent.env ⟨Z,Z,Z,Z,ao⟩,⟨by omega,fun j h hj=>?_⟩,by omega⟩
 by_cases e:j=i
 subst e;rw[getD_lt h]at z16;exact z16
 exact hi.2 j h (by omega)
 refine aJ (ae (js Z (jr ?_)))
 refine ay Z ?_
 have h9:=bw z9
 rw[gR (fun j hj=>hi.2 j hj (by omega))]
theorem BC{ps:List Pt}:MQ h1 h2 143 [rD ps,.c (.fn 144 [.d (.ptr [.int .i64 k] 0)])] [] (Plain (eI (gd (fun p:Pt=>decide (p.k=k)) ps))):=by
 refine au ?_ Z
 refine jB 19 h1 h2 Tryz.func143 Z fun O hF=>?_
 have hl:ps.length≤L:=by simpa[As.fact,A.fact,M.fact,D.fact,Ds.fact]using hF.1.1
 refine ae (js Z (jn (ag (ae (js Z ?_)))))
 first|refine cm Z ?_|refine js Z ?_|refine aU Z Z ?_
 refine js Z (jn (am (av (X:=Nat) (fun i=>⟨[(0,rD ps),(1,.c (.fn 144 [.d (.ptr [.int .i64 k] 0)])),(7,eI ps.length),(8,eI i)],[]⟩) (fun i=>i≤ps.length∧∀j (h:j<ps.length),j<i→(fun p:Pt=>decide (p.k=k)) ps[j]=false) (fun i=>ps.length-i) 0 (Ent.env ⟨Z,Z,Z,Z,ao⟩) ?_ (fun i hi=>?_))))
 exact⟨ca _,fun j h hj=>absurd hj (Nat.not_lt_zero j)⟩
 refine ae (js Z (jn (ag (ak Z (fun z9=>?_) (fun z9=>?_)))))
 refine af (ag (am (ae ?_)))
 have hil:i<ps.length:=by have:=bc z9;omega
 refine ac Z (be (aF Z ?_))
 first|refine uG Z Z ?_|refine lA Z Z ?_|refine aU Z Z ?_
 refine js Z (bJ [(15,_),(11,_),(5,_),(10,_),(9,_),(0,_),(1,_),(7,_),(8,_)] [] ⟨Z,Z,Z,Z,Z,Z,Z,Z,Z,ao⟩ Z (aO Z (BB (k:=k) (p:=ps.getD i default) h1 h2) 17000 Z (jf [16,5,10,9,0,1,7,8] Z (jn (ak Z (fun z16=>?_) (fun z16=>?_))))))
 refine ae (ac Z (jr ?_))
 refine ay Z ?_
 rw[getD_lt hil]at z16
 rw[gS hil hi.2 z16]
 refine af (ab ?_)
 first|refine ji Z ?_|refine aU Z Z ?_
 refine js Z (jn ?_)
 refine⟨i+1,Ent.env ⟨Z,Z,Z,Z,ao⟩,⟨by omega,fun j h hj=>?_⟩,by omega⟩
 by_cases e:j=i
 subst e;rw[getD_lt h]at z16;exact z16
 exact hi.2 j h (by omega)
 refine aJ (ae (js Z (jr ?_)))
 refine ay Z ?_
 have h9:=bw z9
 rw[gR (fun j hj=>hi.2 j hj (by omega))]
theorem Ak:MQ h1 h2 138 [lF c,.c (.fn 139 [])] [] (Plain (eB (c.any (fun x:In=>!aV x)))):=by
 refine au ?_ Z
 refine jB 9 h1 h2 Tryz.func138 Z fun O hF=>?_
 refine ae (js Z (be (ac Z (aZ O Z Z Z Z (zx (c:=c) h1 h2) (.cons (.c .d) (.cons (.c (.fn .nil)) .nil)) Z Z Z Z Z (B0:=8000) Z (ac Z (jr ?_))))))
 refine ay Z ?_
 exact congrArg eB pD
theorem BO:MQ h1 h2 89 [lF c] [] (Plain (eB (eT c))):=by
 refine au ?_ Z
 refine jB 12 h1 h2 Tryz.func89 Z fun O hF=>?_
 have hl:c.length≤L:=by simpa[As.fact,A.fact,M.fact,D.fact,Ds.fact]using hF.1.1
 refine ae (js Z (be (js Z ?_)))
 first|refine cm Z ?_|refine js Z ?_|refine aU Z Z ?_
 refine aO Z (mC h1 h2) 6000 Z (aO Z (iu h1 h2) 7000 Z (js Z (ar 3 Z Z Z (fun hx=>aq hx Z (bj O hx Z Z Z Z (Ak (c:=c) h1 h2) (.cons (.c .d) (.cons (.c (.fn .nil)) .nil)) Z Z Z Z Z Z Z (B0:=10000) Z (aq hx Z (AN.nil)))) Z Z ?_)))
 first|refine aa (aj O Z Z Z Z Z) Z ?_|refine aa (al O Z Z Z Z Z) Z ?_|refine aa (Val.pickB O Z Z Z Z Z) Z ?_
 refine js Z (jr ?_)
 refine ay Z ?_
 rw[Bool.cond_false_right,show eT c=_ from Bool.and_comm _ _,List.all_eq_not_any_not]
theorem BM:MQ h1 h2 93 [wb a,eI k] [] (Plain (eI (gd (fun p:Pt=>decide (p.k=k)) a.pts))):=by
 refine au ?_ Z
 refine jB 9 h1 h2 Tryz.func93 Z fun O hF=>?_
 refine ae (jx Z (aB ?_))
 refine aK (Ent.freeze 2 (e':=[(2,_),(1,_)]) Z (.cons Z (.c (.box (cs:=a.data) Z (aW Z))) (fe [1] Z)) (.skip .nil)) ?_
 refine aB ?_
 refine jx Z (aB ?_)
 refine aK (Ent.freeze 3 (e':=[(3,_),(2,_)]) Z (.cons Z (.c (.box (cs:=[.int .i64 k]) Z (aW Z))) (fe [2] Z)) (.skip .nil)) ?_
 refine aB ?_
 refine js Z (be (aF Z (jf [7,6,4] Z (aZ O Z Z Z Z (BC (ps:=a.pts) (k:=k) h1 h2) (.cons (.c .d) (.cons (.c (.fn (.cons .d .nil))) .nil)) Z Z Z Z Z (B0:=9000) Z (js Z (jf [4] Z (jr ?_)))))))
 refine ay Z ?_
 first|rfl|skip
theorem AD{a:An}{i:Nat}:(bif (bif !terms (a.pts.getD i default).fs 6 then true else !(cQ 0 ((a.code.length:Int)-1) (a.pts.getD i default).k))then true else(bif decide ((0:Int)<i)then decide ((a.pts.getD i default).k≤(a.pts.getD (i-1) default).k)else false))= !sd a.code.length a.pts i:=by
 unfold sd cQ
 rw[show decide ((0:Int)<i)=decide (0<i)from decide_eq_decide.2 (by omega)]
 cases decide (0≤(a.pts.getD i default).k)<;>cases decide ((a.pts.getD i default).k≤(a.code.length:Int)-1)<;>cases terms (a.pts.getD i default).fs 6<;>cases decide (0<i)<;>cases decide ((a.pts.getD i default).k≤(a.pts.getD (i-1) default).k)<;>rfl
theorem Cb:MQ h1 h2 37 [wb a] [] (Plain (eB (dC a))):=by
 refine au ?_ Z
 refine jB 65 h1 h2 Tryz.func37 Z fun O hF=>?_
 have hl:a.code.length≤L:=by simpa[As.fact,A.fact,M.fact,Ms.fact,D.fact,Ds.fact]using hF.1.2.2.1.1
 have hlp:a.pts.length≤L:=by simpa[As.fact,A.fact,M.fact,Ms.fact,D.fact,Ds.fact]using hF.1.2.2.2.1.1
 refine ae (jx Z (aB ?_))
 refine aK (Ent.freeze 1 (e':=[(1,_),(0,_)]) Z (.cons Z (.c (.box (cs:=a.data) Z (aW Z))) (fe [0] Z)) (.skip .nil)) ?_
 refine aB ?_
 refine js Z (jn (ag (ae (ac Z (jf [6,2,1,0] Z (aO Z (BO h1 h2) 8000 Z (ac Z (jf [9,2,1,0] Z (ar 4 Z Z Z (fun hx=>aq hx Z (aq hx Z (bj O hx Z Z Z Z (rC h1 h2) (ah Z) Z Z Z Z Z Z Z (B0:=13000) Z (aq hx Z (AN.nil))))) Z Z ?_)))))))))
 first|refine aa (al O Z Z Z Z Z) Z ?_|refine aa (Val.pickB O Z Z Z Z Z) Z ?_|refine aa (aj O Z Z Z Z Z) Z ?_
 refine js Z (jf [15,2,1,0] Z (ar 4 Z Z Z (fun hx=>aq hx Z (aq hx Z (bj O hx Z Z Z Z (rC h1 h2) (ah Z) Z Z Z Z Z Z Z (B0:=19000) Z (aq hx Z (AN.nil))))) Z Z ?_))
 first|refine aa (al O Z Z Z Z Z) Z ?_|refine aa (Val.pickB O Z Z Z Z Z) Z ?_|refine aa (aj O Z Z Z Z Z) Z ?_
 refine js Z (jf [21,2,1,0] Z (ar 4 Z Z Z (fun hx=>aq hx Z (aq hx Z (bf hx (bF O Z Z Z Z Z Z Z Z) Z (aq hx Z (AN.nil))))) Z Z ?_))
 first|refine aa (al O Z Z Z Z Z) Z ?_|refine aa (Val.pickB O Z Z Z Z Z) Z ?_|refine aa (aj O Z Z Z Z Z) Z ?_
 refine jf [26,2,1,0] Z (jn (ak Z (fun z26=>?_) (fun z26=>?_)))
 refine ae (js Z (jr ?_))
 refine ay Z ?_
 rw[tV z26]
 refine af (ag (ae (ac Z ?_)))
 first|refine cm Z ?_|refine js Z ?_|refine aU Z Z ?_
 refine js Z (jf [30,29,28,2,1,0] Z (jn (am (av (X:=Nat) (fun i=>⟨[(1,ptr a.data),(28,rD a.pts),(29,eI a.pts.length),(30,eI i)],[]⟩) (fun i=>i≤a.pts.length∧∀j,j<i→sd a.code.length a.pts j=true) (fun i=>a.pts.length-i) 0 (Ent.env ⟨Z,Z,Z,Z,ao⟩) ?_ (fun i hi=>?_)))))
 exact⟨ca _,fun j hj=>absurd hj (Nat.not_lt_zero j)⟩
 refine ae (js Z (jn (ag (ak Z (fun z31=>?_) (fun z31=>?_)))))
 refine af (ag (am (ae ?_)))
 have hil:i<a.pts.length:=by have:=bc z31;omega
 have hcl:=(rQ (iH z26).2.2).2
 refine js Z ?_
 first|refine uG Z Z ?_|refine lA Z Z ?_|refine aU Z Z ?_
 refine js Z (jf [34,32,31,1,28,29,30] Z (jl Z (aB ?_)))
 refine js Z (jf [3,4,34,31,1,28,29,30] Z (jo Z (aB ?_)))
 refine aK (Ent.freeze 4 (e':=[(4,_),(1,_),(28,_),(29,_),(30,_),(3,_)]) Z (.cons Z (.c (.box (cs:=(a.pts.getD i default).cells) Z (aW Z))) (fe [1,28,29,30,3] Z)) (.skip .nil)) ?_
 refine aB ?_
 refine jn (ag (bl (F:=⟨[(63,eB (bif (bif !terms (a.pts.getD i default).fs 6 then true else !(cQ 0 ((a.code.length:Int)-1) (a.pts.getD i default).k))then true else(bif decide ((0:Int)<i)then decide ((a.pts.getD i default).k≤(a.pts.getD (i-1) default).k)else false))),(1,ptr a.data),(28,rD a.pts),(29,eI a.pts.length),(30,eI i)],[]⟩) ?_ ?_))
 cases hb6:!terms (a.pts.getD i default).fs 6 with
 | true=>
  refine uH [_,_,_,_,_,_,_,_,_,_,_,_,_,_,_,_,_,_,_,_,_,_,_,_,_,_,_,_,_] [bC,bb [0],pe [0,1] 0,pn [0,1,2] 1 1,pn (rg 0 4) 1 1,pn (rg 0 5) 0 1,pn (rg 0 6) 0 1,pn (rg 0 5) 0 1,pn [0,1,2,3,4,7] 0 1,pn [0,1,2,3,4,7,8] 0 1,pn (rg 0 10) 0 1,pn (rg 0 11) 0 1,pn (rg 0 12) 1 1,pn (rg 0 13) 1 1,pn (rg 0 14) 0 1,pn (rg 0 15) 0 1,pn (rg 0 16) 0 1,pn (rg 0 17) 0 1,pn (rg 0 18) 0 1,pn (rg 0 17) 0 1,pn (rg 0 17++[19]) 0 1,pn (rg 0 21) 0 1,pn (rg 0 22) 0 1,pn (rg 0 23) 0 1,pn (rg 0 17) 0 1,pn (rg 0 17++[24]) 0 1,pn (rg 0 26) 0 1,pn (rg 0 27) 0 1,pn (rg 0 28) 1 1] [2] [_,_] (kc Z (kc Z (ai (aP O (B0:=38000) Z Z Z Z (rC h1 h2) (ah Z) Z Z Z Z Z) (ai ((V Z).cast (v':=eB true) (congrArg eB hb6)) (kc Z (ai ⟨Z,Z⟩ (ai ⟨Z,Z⟩ (ai ⟨Z,Z⟩ (ai ⟨Z,Z⟩ (ai ⟨Z,Z⟩ (ai ⟨Z,Z⟩ (ai ⟨Z,Z⟩ (ai (cU O Z Z Z Z Z) (kc Z (ai ⟨Z,Z⟩ (ai ⟨Z,Z⟩ (ai ⟨Z,Z⟩ (ai ⟨Z,Z⟩ (ai ⟨Z,Z⟩ (ai ⟨Z,Z⟩ (ai ⟨Z,Z⟩ (ai ⟨Z,Z⟩ (ai ⟨Z,Z⟩ (ai ⟨Z,Z⟩ (ai ⟨Z,Z⟩ (ai ⟨Z,Z⟩ (ai ⟨Z,Z⟩ (ai ⟨Z,Z⟩ (ai (cU O Z Z Z Z Z) trivial))))))))))))))))))))))))))))) ?_
  exact⟨Z,Ent.env ⟨Z,Z,Z,Z,Z,ao⟩⟩
 | false=>
  cases hb6b:!(cQ 0 ((a.code.length:Int)-1) (a.pts.getD i default).k)with
  | true=>
   refine uH [_,_,_,_,_,_,_,_,_,_,_,_,_,_,_,_,_,_,_,_,_,_,_,_,_,_,_,_,_] [bC,bb [0],pe [0,1] 0,pn [0,1,2] 1 1,pn (rg 0 4) 1 1,pn (rg 0 5) 1 1,pn (rg 0 6) 1 1,pn (rg 0 5) 1 1,pn [0,1,2,3,4,7] 1 1,pn [0,1,2,3,4,7,8] 1 1,pe (rg 0 10) 1,pn (rg 0 11) 2 2,pn (rg 0 12) 2 2,pn (rg 0 13) 2 2,pn (rg 0 14) 0 2,pn (rg 0 15) 0 2,pn (rg 0 16) 0 2,pn (rg 0 17) 0 2,pn (rg 0 18) 0 2,pn (rg 0 17) 0 2,pn (rg 0 17++[19]) 0 2,pn (rg 0 21) 0 2,pn (rg 0 22) 0 2,pn (rg 0 23) 0 2,pn (rg 0 17) 0 2,pn (rg 0 17++[24]) 0 2,pn (rg 0 26) 0 2,pn (rg 0 27) 0 2,pn (rg 0 28) 2 2] [2,10] [_,_,_] (kc Z (kc Z (ai (aP O (B0:=38000) Z Z Z Z (rC h1 h2) (ah Z) Z Z Z Z Z) (ai ((V Z).cast (v':=eB false) (congrArg eB hb6)) (kc Z (kc Z (kc Z (kc Z (kc Z (ai (bF O Z Z Z Z Z Z Z Z) (ai (aP O (B0:=46000) Z Z Z Z (AK (k:=(a.pts.getD i default).k) (n:=a.code.length) h1 h2 (by omega)) (ah Z) Z Z Z Z Z) (ai ((V Z).cast (v':=eB true) (congrArg eB hb6b)) (ai (bm O Z Z Z Z Z) (kc Z (ai ⟨Z,Z⟩ (ai ⟨Z,Z⟩ (ai ⟨Z,Z⟩ (ai ⟨Z,Z⟩ (ai ⟨Z,Z⟩ (ai ⟨Z,Z⟩ (ai ⟨Z,Z⟩ (ai ⟨Z,Z⟩ (ai ⟨Z,Z⟩ (ai ⟨Z,Z⟩ (ai ⟨Z,Z⟩ (ai ⟨Z,Z⟩ (ai ⟨Z,Z⟩ (ai ⟨Z,Z⟩ (ai (cU O Z Z Z Z Z) trivial))))))))))))))))))))))))))))) ?_
   exact⟨Z,Ent.env ⟨Z,Z,Z,Z,Z,ao⟩⟩
  | false=>
   cases hb6c:decide ((0:Int)<i)with
   | true=>
    have hi0:0<i:=by have:=bc hb6c;omega
    refine uH [_,_,_,_,_,_,_,_,_,_,_,_,_,_,_,_,_,_,_,_,_,_,_,_,_,_,_,_,_] [bC,bb [0],pe [0,1] 0,pn [0,1,2] 1 1,pn (rg 0 4) 1 1,pn (rg 0 5) 1 1,pn (rg 0 6) 1 1,pn (rg 0 5) 1 1,pn [0,1,2,3,4,7] 1 1,pn [0,1,2,3,4,7,8] 1 1,pe (rg 0 10) 1,pn (rg 0 11) 2 2,pn (rg 0 12) 2 2,pn (rg 0 13) 2 2,pn (rg 0 14) 2 2,pn (rg 0 15) 2 2,pn (rg 0 16) 2 2,pn (rg 0 17) 2 2,pn (rg 0 18) 2 2,pn (rg 0 17) 2 2,pn (rg 0 17++[19]) 2 2,pn (rg 0 21) 2 2,pn (rg 0 22) 2 2,pn (rg 0 23) 2 2,pn (rg 0 17) 2 2,pn (rg 0 17++[24]) 2 2,pn (rg 0 26) 2 2,pn (rg 0 27) 2 2,pn (rg 0 28) 2 2] [2,10] [_,_,_] (kc Z (kc Z (ai (aP O (B0:=38000) Z Z Z Z (rC h1 h2) (ah Z) Z Z Z Z Z) (ai ((V Z).cast (v':=eB false) (congrArg eB hb6)) (kc Z (kc Z (kc Z (kc Z (kc Z (ai (bF O Z Z Z Z Z Z Z Z) (ai (aP O (B0:=46000) Z Z Z Z (AK (k:=(a.pts.getD i default).k) (n:=a.code.length) h1 h2 (by omega)) (ah Z) Z Z Z Z Z) (ai ((V Z).cast (v':=eB false) (congrArg eB hb6b)) (ai (bm O Z Z Z Z Z) (kc Z (kc Z (ai ((V Z).cast (v':=eB true) (congrArg eB hb6c)) (kc Z (kc Z (kc Z (kc Z (ai ((vF Z).cast (v':=eI ((i-1:Nat):Int)) (congrArg eI (by omega))) (ai (vN Z) (kc Z (kc Z (kc Z (kc Z (kc Z (ai (cU O Z Z Z Z Z) (ai (bm O Z Z Z Z Z) trivial))))))))))))))))))))))))))))) ?_
    exact⟨Z,Ent.env ⟨Z,Z,Z,Z,Z,ao⟩⟩
   | false=>
    refine uH [_,_,_,_,_,_,_,_,_,_,_,_,_,_,_,_,_,_,_,_,_,_,_,_,_,_,_,_,_] [bC,bb [0],pe [0,1] 0,pn [0,1,2] 1 1,pn (rg 0 4) 1 1,pn (rg 0 5) 1 1,pn (rg 0 6) 1 1,pn (rg 0 5) 1 1,pn [0,1,2,3,4,7] 1 1,pn [0,1,2,3,4,7,8] 1 1,pe (rg 0 10) 1,pn (rg 0 11) 2 2,pn (rg 0 12) 2 2,pn (rg 0 13) 2 2,pn (rg 0 14) 2 2,pn (rg 0 15) 2 2,pn (rg 0 16) 2 2,pn (rg 0 17) 0 2,pn (rg 0 18) 0 2,pn (rg 0 17) 0 2,pn (rg 0 17++[19]) 0 2,pn (rg 0 21) 0 2,pn (rg 0 22) 0 2,pn (rg 0 23) 0 2,pn (rg 0 17) 0 2,pn (rg 0 17++[24]) 0 2,pn (rg 0 26) 0 2,pn (rg 0 27) 2 2,pn (rg 0 28) 2 2] [2,10] [_,_,_] (kc Z (kc Z (ai (aP O (B0:=38000) Z Z Z Z (rC h1 h2) (ah Z) Z Z Z Z Z) (ai ((V Z).cast (v':=eB false) (congrArg eB hb6)) (kc Z (kc Z (kc Z (kc Z (kc Z (ai (bF O Z Z Z Z Z Z Z Z) (ai (aP O (B0:=46000) Z Z Z Z (AK (k:=(a.pts.getD i default).k) (n:=a.code.length) h1 h2 (by omega)) (ah Z) Z Z Z Z Z) (ai ((V Z).cast (v':=eB false) (congrArg eB hb6b)) (ai (bm O Z Z Z Z Z) (kc Z (kc Z (ai ((V Z).cast (v':=eB false) (congrArg eB hb6c)) (kc Z (ai ⟨Z,Z⟩ (ai ⟨Z,Z⟩ (ai ⟨Z,Z⟩ (ai ⟨Z,Z⟩ (ai ⟨Z,Z⟩ (ai ⟨Z,Z⟩ (ai ⟨Z,Z⟩ (ai ⟨Z,Z⟩ (ai ⟨Z,Z⟩ (ai ⟨Z,Z⟩ (ai (bm O Z Z Z Z Z) (ai (bm O Z Z Z Z Z) trivial))))))))))))))))))))))))))))) ?_
    exact⟨Z,Ent.env ⟨Z,Z,Z,Z,Z,ao⟩⟩
 refine ak Z (fun z63=>?_) (fun z63=>?_)
 refine ae (js Z (jr ?_))
 refine ay Z ?_
 rw[(iH z26).1,nV i hil (xg (AD.symm.trans z63))]
 refine af (ab ?_)
 first|refine ji Z ?_|refine aU Z Z ?_
 refine js Z (jn ?_)
 have h9:sd a.code.length a.pts i=true:=xf (AD.symm.trans z63)
 refine⟨i+1,Ent.env ⟨Z,Z,Z,Z,ao⟩,⟨by omega,fun j hj=>?_⟩,by omega⟩
 by_cases e:j=i
 subst e;exact h9
 exact hi.2 j (by omega)
 refine aJ (ae (js Z (jr ?_)))
 refine ay Z ?_
 rw[(iH z26).1,qY fun j hj=>hi.2 j (by have:=bw z31;omega)]
end Go.Al
