/- Contracts of the program's functions for q8; the types of the arguments; what is drawn from bytes. -/
import Derived.Test.YtlofbdghppgnbaaDoorD
import Derived.Test.YtlofbdghppgnbaaDoorC
import Derived.Test.YtlofbdghppgnbaaDoorRows
set_option linter.unusedVariables false
set_option linter.unusedSimpArgs false
set_option maxRecDepth 10000
set_option maxHeartbeats 4000000
open Go.Proofs
namespace Go.Al
variable{L:Nat}(h1:4096≤L)(h2:L≤1073741824)
theorem nf{c:Int}{xs:List Int}(h:(ix c xs).2=true):(ix c xs).1.ok=true:=by
 unfold ix at h ⊢
 split at h
 rename_i h1;rw[if_pos h1];exact h1
 cases h
theorem isB_spec{p:List Nd}(h:isB p=true):1≤p.length∧p.length≤60∧(∀n∈p,ndB n=true)∧endP p 0=p.length:=by
 simp only[isB,bb,decide_eq_true_eq,List.all_eq_true]at h
 exact⟨by omega,by omega,h.2.1,h.2.2⟩
theorem ka{n:Nd}(h:ndB n=true):n.kind=1∨n.kind=2∨n.kind=3:=by
 unfold ndB at h
 split at h
 exact .inl ‹_›
 split at h
 exact .inr (.inl ‹_›)
 split at h
 exact .inr (.inr ‹_›)
 cases h
structure CS where
  all:List (List Tm)
  has:List Bool
  right:List Bool
  flaw:Int
structure CSok(p:List Nd)(k:Nat)(z:CS):Prop where
  all:z.all.length=k
  has:z.has.length=k
  right:z.right.length=k
  flaw: -1≤z.flaw∧z.flaw<k
  ctx: ∀j,j<k→z.has.getD j default=true→CtxOk (z.all.getD j default)
  good: ∀j,j<k→z.right.getD j default=true→z.has.getD j default=true∧nb (p.getD j default) (z.all.getD j default)=true
structure Con where
  all:List (List Tm)
  has:List Bool
  flaw:Int
  ok:Bool
theorem g2{a b:Bool}:(bif !a then true else !b)= !(a&&b):=by cases a<;>cases b<;>rfl
theorem qB{t:Tm}:MQ h1 h2 36 [gE t] [] (Plain (gE ⟨t.c,bh t.xs⟩)):=by
 refine MC.data (jB 26 h1 h2 Tryd.func36 Z fun O hF=>?_)
 have hl:t.xs.length≤L:=by simpa[As.fact,A.fact,M.fact,Ms.fact,D.fact,Ds.fact]using hF.1.2.1.1
 refine ac (jx Z (jl Z (bM (ae Z (et Z (js Z (jn (ag (am (ax (X:=Nat) (fun n=>⟨[(1,.c (.pt 1 0 0)),(2,.c (.pt 2 0 0)),(3,eI n)],[(1,.box [.d (.int .i64 t.c),.d (bl t.xs)]),(2,.box [.d (.int .i64 0),.d .nils])]⟩) (fun n=>n≤t.xs.length∧bh (t.xs.take n)=bh t.xs) (fun n=>n) t.xs.length (Ent.env ⟨Z,Z,Z,aq⟩) ?_ (fun n hi=>?_)))))))))))
 exact⟨bD _,by rw[List.take_length]⟩
 refine ag (ac (aP Z (ar 7 Z Z Z (fun hx=>ap hx Z (ap hx Z (ap hx Z (bg hx (vF Z) Z (bg hx (vD Z) Z (ap hx Z (ap hx Z (AN.nil)))))))) Z Z (aa (aj O Z Z Z Z Z) Z (jn (ak Z (fun z17=>?_) (fun z17=>?_)))))))
 refine af (am (ab (js Z (ji Z (js Z (jn ?_))))))
 rw[Bool.cond_false_right,bb,decide_eq_true_eq,decide_eq_true_eq]at z17
 obtain⟨k,hk⟩: ∃k,n=k+1:=⟨n-1,by omega⟩
 subst hk
 have hk2:((k+1:Nat):Int)-1=k:=by omega
 rw[hk2]at z17
 refine⟨k,Ent.to ⟨Z,Z,by rw[hk2];rfl,aq⟩ Z,⟨by omega,?_⟩,Nat.lt_succ_self k⟩
 rw[←hi.2,iM (by omega) (by simpa using z17.2)]
 refine aZ (ac (aP Z ?_))
 have hd:bh (t.xs.take n)=t.xs.take n:=fP hi.1 (by
  rw[Bool.cond_false_right]at z17
  rcases Nat.eq_zero_or_pos n with h0|h0
  ·
   exact .inl h0
  ·
   refine .inr (fun h9=>?_)
   have e1:((n:Int)-1).toNat=n-1:=by omega
   rw[e1,h9]at z17;simp at z17;omega)
 have ht:=hi.2
 rw[hd]at ht
 refine aa ((bH O Z Z ⟨by omega,by simp;omega⟩).cast (v':=bP (bh t.xs)) (by rw[←ht];simp[List.map_take])) Z (js Z (jo Z (bM (js Z (jo Z (jr ?_))))))
 refine az Z ?_
 exact .v (.agg (bK Z))
theorem px{x:Int}(hx: -1000000≤x∧x≤1000000):MQ h1 h2 69 [eI x] [] (Plain (eI x.natAbs)):=by
 refine aA ?_ Z
 refine jB 7 h1 h2 Tryd.func69 Z fun O hF=>?_
 refine ac (js Z (bM (ae Z (ji Z (ae Z (jr ?_))))))
 refine az Z ?_
 exact congrArg eI (show(if 0-x>x then 0-x else x)=(x.natAbs:Int) by split<;>omega)
def cL(n:Nd):Int:=if ndB n=true then(if n.kind=1 then 0 else if n.kind=2 then 2 else 1)else -1
theorem rn{t:Tm}:MQ h1 h2 37 [gE t] [] (Rows (.agg [.d (.int .i64 t.c),.rs 0 0 t.xs.length]) [cU t.xs]):=by
 refine di (jB 9 h1 h2 Tryd.func37 Z fun O hF=>?_)
 refine ac (jx Z (jl Z (jn (ag (nX [_,_,_,_,_,_,_] [pn [] 0 1,pn [0] 0 1,cO,cd [2],pe [2,3] 0,pn (rg 0 5) 1 1,pe (rg 0 6) 1] [4,6] [_,_,_] (ai (kc Z (V Z)) (ai (kc Z (V Z)) (kc Z (kc Z (ai (nT O (B0:=8000) Z Z Z Z (qG (xs:=t.xs) h1 h2) (al Z) Z Z Z Z Z) (kc Z (ai (eS Z Z Z) trivial))))))) ?_)))))
 refine qr ?_
 refine⟨.inl Z,_,dd,_,Z,[8000],by decide,Z,Z,Z⟩
theorem sA{n:Nd}(h:n.kind=1):ndB n=((decide (n.fact=0)&&n.term.zero)&&mulB n.mul):=by rw[ndB,if_pos h]
theorem sv{n:Nd}(h:n.kind=2):ndB n=((decide (n.fact=0)&&n.term.ok)&&decide ((n.mul.length:Int)=0)):=by rw[ndB,if_neg (by omega),if_pos h]
theorem su{n:Nd}(h:n.kind=3):ndB n=((nY 0 19 n.fact&&n.term.zero)&&decide ((n.mul.length:Int)=0)):=by rw[ndB,if_neg (by omega),if_neg (by omega),if_pos h]
theorem dE{n:Nd}(h:ndB n=false):cL n= -1:=by rw[cL,if_neg (by rw[h];decide)]
theorem ch{n:Nd}(h:ndB n=true):cL n=if n.kind=1 then 0 else if n.kind=2 then 2 else 1:=by rw[cL,if_pos h]
theorem sH{a b c d:Bool}:(bif bif bif a then b else false then c else false then d else false)=((a&&b)&&(d&&c)):=by cases a<;>cases b<;>cases c<;>cases d<;>rfl
theorem sG{a b c:Bool}:(bif bif a then b else false then c else false)=((a&&c)&&b):=by cases a<;>cases b<;>cases c<;>rfl
theorem sF{a b c:Bool}:(bif bif a then b else false then c else false)=((a&&b)&&c):=by cases a<;>cases b<;>cases c<;>rfl
def de(f:Nat→Option (Nat×Int)):Nat→Nat→Int→Option (Nat×Int)
  | 0,k,d=>some (k,d)
  | q + 1,k,d=>match f k with
    | none=>none
    | some (k',b)=>de f q k' (if b>d then b else d)
def cB : Nat→List Nd→Nat→Option (Nat×Int)
  | 0,_,_=>none
  | n + 1,p,k=>if p.length≤k then none else if cL (p.getD k default)<0 then none else
      (de (cB n p) (cL (p.getD k default)).toNat (k+1) 0).map fun r=>(r.1,r.2+1)
theorem bL{f:Nat→Option (Nat×Int)}{q k k':Nat}{d b:Int}(h:f k=some (k',b)):de f (q+1) k d=de f q k' (if b>d then b else d):=by rw[de,h]
theorem c5{f:Nat→Option (Nat×Int)}{q k:Nat}{d:Int}(h:f k=none):de f (q+1) k d=none:=by rw[de,h]
theorem kd{f:Nat→Option (Nat×Int)}{N:Nat}(hf: ∀k b k',f k=some (k',b)→k<k'∧k'≤N∧0≤b∧b≤(k':Int)-k): ∀{q k:Nat} {d d':Int} {k' s:Nat},de f q k d=some (k',d')→k≤N→s≤k→0≤d→d≤(k:Int)-s→k≤k'∧k'≤N∧0≤d'∧d'≤(k':Int)-s
 | 0,k,d,d',k',s,h,hk,hs,h0,h1=>by simp only[de,dc,Prod.mk.injEq]at h;omega
 | q + 1,k,d,d',k',s,h,hk,hs,h0,h1=>by
  cases hx:f k with
  | none=>rw[c5 hx]at h;cases h
  | some x=>
   obtain⟨k1,b⟩:=x
   rw[bL hx]at h
   have h3:=hf k b k1 hx
   have h4:=kd hf h h3.2.1 (s:=s) (by omega) (by split<;>omega) (by split<;>omega)
   omega
theorem lZ: ∀{n:Nat} {p:List Nd} {k k':Nat} {d:Int},cB n p k=some (k',d)→k<k'∧k'≤p.length∧0≤d∧d≤(k':Int)-k
 | 0,_,_,_,_,h=>by cases h
 | n+1,p,k,k',d,h=>by
  unfold cB at h
  split at h
  cases h
  split at h
  cases h
  simp only[Option.map_eq_some_iff]at h
  obtain⟨⟨k2,d2⟩,h1,h2⟩:=h
  simp only[Prod.mk.injEq]at h2
  have:=kd (N:=p.length) (fun k b k' h=>lZ h) h1 (by omega) (bD _) (Int.le_refl 0) (by omega)
  omega
abbrev eN(r:Option (Nat×Int)):Int:=match r with|some (k,_)=>k|none=>0
abbrev eD(r:Option (Nat×Int)):Int:=match r with|some (_,d)=>d|none=>0
abbrev eO(r:Option (Nat×Int)):Bool:=match r with|some _=>true|none=>false
abbrev pr(r:Option (Nat×Int)):A:=.tup [eI (eN r),eI (eD r),eB (eO r)]
theorem lV{r:Option (Nat×Int)}(h:eO r=true): ∃k d,r=some (k,d):=by
 cases r with
 | none=>cases h
 | some x=>exact⟨x.1,x.2,Z⟩
theorem nQ{r:Option (Nat×Int)}(h:eO r=false):r=none:=by
 cases r with
 | none=>rfl
 | some x=>cases h
theorem nI(n:Nd):cL n≤2:=by unfold cL;split<;>(try split)<;>(try split)<;>decide
def mH(p:List Nd):Bool:=decide ((p.length:Int)≤60)&&(eO (cB (p.length+1) p 0)&&decide (eN (cB (p.length+1) p 0)=p.length))
theorem sd{n:Nd}:MQ h1 h2 103 [qf n] [] (Plain (eI (cL n))):=by
 refine aA ?_ Z
 refine jB 59 h1 h2 Tryd.func103 Z fun O hF=>?_
 have hl:n.mul.length≤L:=by simpa[As.fact,A.fact,M.fact,Ms.fact,D.fact,Ds.fact]using hF.1.2.2.2.2.1.1
 refine ac (jx Z (js Z (jn (ag (nX [_,_,_,_,_,_,_,_,_,_,_,_,_] [pn [] 0 1,pn [0] 0 1,pn [0,1] 0 1,cO,cd [3],pe [3,4] 0,pn [] 0 1,pn [6] 0 1,pn [6,7] 0 1,pn [6,7,8] 0 1,pn (rg 0 6) 1 1,pn (rg 0 6++[10]) 1 1,pn (rg 0 12) 1 1] [5] [_,_] (ai (kc Z (V Z)) (ai (kc Z (V Z)) (ai (kc Z (V Z)) (kc Z (kc Z (ai (cZ O (B0:=13000) Z Z Z Z (sc h1 h2) (al Z) Z Z Z Z Z) (ai (kc Z (V Z)) (ai (kc Z (V Z)) (ai (ai (ck O Z Z Z Z Z Z Z Z) (ck O Z Z Z Z Z Z Z Z)) (ai (kc Z (V Z)) (kc Z (kc Z (kc Z trivial))))))))))))) ?_)))))
 refine jw [5,4,3,2,1,0] Z (jnw ?_)
 refine ac (js Z (jn (ag (ac (ae Z (jn (am (ac (ae Z (jn (ak Z (fun z19=>?_) (fun z19=>?_))))))))))))
 refine ac (ae Z (jf [22,20,18,17,6,5,4,3,2,1,0] Z (ar 1 Z Z Z (fun hx=>ap hx Z (AN.nil)) Z Z ?_)))
 first|refine aa (aj O Z Z Z Z Z) Z ?_|refine aa (ao O Z Z Z Z Z) Z ?_|refine aa (Val.pickB O Z Z Z Z Z) Z ?_
 refine js Z (jf [25,20,18,17,6,5,4,3,2,1,0] Z (ar 4 Z Z Z (fun hx=>ap hx Z (ap hx Z (bg hx (ck O Z Z Z Z Z Z Z Z) Z (ap hx Z (AN.nil))))) Z Z ?_))
 first|refine aa (aj O Z Z Z Z Z) Z ?_|refine aa (ao O Z Z Z Z Z) Z ?_|refine aa (Val.pickB O Z Z Z Z Z) Z ?_
 refine js Z (jf [31,20,18,17,6,5,4,3,2,1,0] Z (ar 3 Z Z Z (fun hx=>ap hx Z (ap hx Z (bO O hx Z Z Z Z (qH h1 h2) (al Z) Z Z Z Z Z Z Z (B0:=35000) Z (AN.nil)))) Z Z ?_))
 first|refine aa (aj O Z Z Z Z Z) Z ?_|refine aa (ao O Z Z Z Z Z) Z ?_|refine aa (Val.pickB O Z Z Z Z Z) Z ?_
 refine jf [35,20,18,17,6,5,4,3,2,1,0] Z (jn (ak Z (fun z35=>?_) (fun z35=>?_)))
 refine ab (js Z (jn (ac (ae Z (jf [2,20,18,17,5,4,3,1,0] Z (jr ?_))))))
 refine az Z ?_
 have hb:ndB n=true:=by rw[sA (bf z19)];have h9:=z35;rw[sH]at h9;exact h9
 rw[ch hb,if_pos (bf z19)]
 refine af (ac (ae Z (jf [2,20,18,17,5,4,3,1,0] Z (jr ?_))))
 refine az Z ?_
 have hb:ndB n=false:=by rw[sA (bf z19)];have h9:=z35;rw[sH]at h9;exact h9
 rw[dE hb]
 refine ac (ae Z (jf [36,20,18,17,6,5,4,3,2,1,0] Z (jn (ak Z (fun z36=>?_) (fun z36=>?_)))))
 refine ac (ae Z (jf [39,20,18,17,6,5,4,3,2,1,0] Z (ar 1 Z Z Z (fun hx=>ap hx Z (AN.nil)) Z Z ?_)))
 first|refine aa (aj O Z Z Z Z Z) Z ?_|refine aa (ao O Z Z Z Z Z) Z ?_|refine aa (Val.pickB O Z Z Z Z Z) Z ?_
 refine js Z (jf [42,20,18,17,6,5,4,3,2,1,0] Z (ar 3 Z Z Z (fun hx=>ap hx Z (ap hx Z (bO O hx Z Z Z Z (py h1 h2) (al Z) Z Z Z Z Z Z Z (B0:=46000) Z (AN.nil)))) Z Z ?_))
 first|refine aa (aj O Z Z Z Z Z) Z ?_|refine aa (ao O Z Z Z Z Z) Z ?_|refine aa (Val.pickB O Z Z Z Z Z) Z ?_
 refine jf [46,20,18,17,6,5,4,3,2,1,0] Z (jn (ak Z (fun z46=>?_) (fun z46=>?_)))
 refine ab (js Z (jn (ac (ae Z (jf [2,20,18,17,5,4,3,1,0] Z (jr ?_))))))
 refine az Z ?_
 have hb:ndB n=true:=by rw[sv (bf z36)];have h9:=z46;rw[sG]at h9;exact h9
 rw[ch hb,if_neg (bB z19),if_pos (bf z36)]
 refine af (ac (ae Z (jf [2,20,18,17,5,4,3,1,0] Z (jr ?_))))
 refine az Z ?_
 have hb:ndB n=false:=by rw[sv (bf z36)];have h9:=z46;rw[sG]at h9;exact h9
 rw[dE hb]
 refine ac (ae Z (jf [47,20,18,17,6,5,4,3,2,1,0] Z (jn (ak Z (fun z47=>?_) (fun z47=>?_)))))
 refine ac (ae Z (jf [50,20,18,17,6,5,4,3,2,1,0] Z (cH Z (n7 h1 h2) 52000 Z (js Z (jf [52,20,18,17,6,5,4,3,2,1,0] Z (ar 1 Z Z Z (fun hx=>ap hx Z (AN.nil)) Z Z ?_))))))
 first|refine aa (aj O Z Z Z Z Z) Z ?_|refine aa (ao O Z Z Z Z Z) Z ?_|refine aa (Val.pickB O Z Z Z Z Z) Z ?_
 refine js Z (jf [55,20,18,17,6,5,4,3,2,1,0] Z (ar 1 Z Z Z (fun hx=>ap hx Z (AN.nil)) Z Z ?_))
 first|refine aa (aj O Z Z Z Z Z) Z ?_|refine aa (ao O Z Z Z Z Z) Z ?_|refine aa (Val.pickB O Z Z Z Z Z) Z ?_
 refine jf [57,20,18,17,6,5,4,3,2,1,0] Z (jn (ak Z (fun z57=>?_) (fun z57=>?_)))
 refine ab (js Z (jn (ac (ae Z (jf [2,20,18,17,5,4,3,1,0] Z (jr ?_))))))
 refine az Z ?_
 have hb:ndB n=true:=by rw[su (bf z47)];have h9:=z57;rw[sF]at h9;exact h9
 rw[ch hb,if_neg (bB z19),if_neg (bB z36)]
 refine af (ac (ae Z (jf [2,20,18,17,5,4,3,1,0] Z (jr ?_))))
 refine az Z ?_
 have hb:ndB n=false:=by rw[su (bf z47)];have h9:=z57;rw[sF]at h9;exact h9
 rw[dE hb]
 refine af (ac (ae Z (jf [2,20,18,17,5,4,3,1,0] Z (jr ?_))))
 refine az Z ?_
 rw[dE (by rw[ndB,if_neg (bB z19),if_neg (bB z36),if_neg (bB z47)])]
variable{p:List Nd}
theorem ri{n k:Nat}(hk:k≤p.length)(hn:p.length<n+1+k)(ih: ∀k',k'≤p.length→p.length<n+k'→MQ h1 h2 87 [dp p,eI k'] [] (Plain (pr (cB n p k')))):MQ h1 h2 87 [dp p,eI k] [] (Plain (pr (cB (n+1) p k))):=by
 refine jB 45 h1 h2 Tryd.func87 Z fun O hF=>?_
 have hl:p.length≤L:=by simpa[As.fact,A.fact,M.fact,D.fact,Ds.fact]using hF.1.1
 refine ac (aP Z (jn (ag (ac (ae Z ?_)))))
 first|refine et Z ?_|refine js Z ?_|refine bv Z Z ?_
 refine js Z (jn (ak Z (fun z15=>?_) (fun z15=>?_)))
 try simp only[bj]at z15
 refine ac (aP Z (jr ?_))
 refine⟨.inl Z,_,dd,_,Z,?_,Z⟩
 rw[show cB (n+1) p k=none from if_pos (by omega)]
 try simp only[bj]at z15
 refine af (ac (ae Z ?_))
 first|refine rL Z Z ?_|refine n3 Z Z ?_|refine bv Z Z ?_
 refine js Z (cH Z (sd (n:=p.getD k default) h1 h2) 21000 Z (js Z (jn (ag (ac (ae Z (jn (ak Z (fun z22=>?_) (fun z22=>?_)))))))))
 try simp only[bj]at z22
 refine ac (aP Z (jr ?_))
 refine⟨.inl Z,_,dd,_,Z,?_,Z⟩
 rw[show cB (n+1) p k=none by unfold cB;rw[if_neg (by omega)];exact if_pos z22]
 try simp only[bj]at z22
 refine af (ac (js Z ?_))
 first|refine ji Z ?_|refine bv Z Z ?_
 refine js Z (bM (js Z (jn (ag (am (ax (X:=Nat×Nat×Int) (fun x=>⟨[(0,dp p),(1,eI x.2.1),(7,eI x.1),(8,eI x.2.2)],[]⟩) (fun x=>x.2.1≤p.length∧k<x.2.1∧de (cB n p) (cL (p.getD k default)).toNat (k+1) 0=de (cB n p) x.1 x.2.1 x.2.2∧x.1≤2∧0≤x.2.2∧x.2.2≤(x.2.1:Int)-(k+1:Nat)) (fun x=>x.1) ((cL (p.getD k default)).toNat,k+1,0) (Ent.to ⟨Z,Z,congrArg (fun z=>some (eI z)) (Int.toNat_of_nonneg z22).symm,Z,aq⟩ Z) ?_ (fun x hi=>?_)))))))
 exact⟨(show k+1≤p.length by omega),Nat.lt_succ_self k,Z,by have:=nI (p.getD k default);show(cL (p.getD k default)).toNat≤2;omega,Int.le_refl 0,by show(0:Int)≤((k+1:Nat):Int)-(k+1:Nat);omega⟩
 refine ag (ac (ae Z (jn (ak Z (fun z26=>?_) (fun z26=>?_)))))
 try simp only[bj]at z26
 refine af (ag (am (ac (ae Z (au O Z Z Z Z (ih x.2.1 hi.1 (by omega)) (al Z) Z Z Z Z (B0:=33000) Z Z (bn Z (aP Z (jn (ag (ac (ae Z (jn (ak Z (fun z37=>?_) (fun z37=>?_))))))))))))))
 try simp only[bj]at z37
 refine ac (aP Z (jr ?_))
 refine⟨.inl Z,_,dd,_,Z,?_,Z⟩
 have e0:=nQ z37
 rw [show cB (n+1) p k=none by
  unfold cB
  rw[if_neg (by omega),if_neg (by omega),hi.2.2.1]
  obtain⟨q,hq⟩: ∃q,x.1=q+1:=⟨x.1-1,by omega⟩
  rw[hq,c5 e0];rfl]
 try simp only[bj]at z37
 refine af (ac ?_)
 obtain⟨k1,d1,hr⟩:=lV z37
 rw[hr]
 refine bn Z (jn (ab (ae Z (jn (ab (js Z ?_))))))
 first|refine ji Z ?_|refine bv Z Z ?_
 refine js Z (jn ?_)
 have hle:=lZ hr
 refine⟨(x.1-1,k1,if d1>x.2.2 then d1 else x.2.2),Ent.to ⟨Z,Z,?_,Z,aq⟩ Z,⟨hle.2.1,by show k<k1;omega,?_,by show x.1-1≤2;omega,by show 0≤(if d1>x.2.2 then d1 else x.2.2);split<;>omega,by show(if d1>x.2.2 then d1 else x.2.2)≤(k1:Int)-(k+1:Nat);split<;>omega⟩,?_⟩
 exact congrArg (fun z=>some (eI z)) (by show(x.1:Int)-1=(x.1-1:Nat);omega)
 rw[hi.2.2.1]
 obtain⟨q,hq⟩: ∃q,x.1=q+1:=⟨x.1-1,by omega⟩
 rw[hq,bL hr];rfl
 show x.1-1<x.1;omega
 try simp only[bj]at z26
 refine aZ (ac (ae Z ?_))
 first|refine ji Z ?_|refine bv Z Z ?_
 refine aP Z (jr ?_)
 refine⟨.inl Z,_,dd,_,Z,?_,Z⟩
 have hx:x.1=0:=by omega
 rw [show cB (n+1) p k=some (x.2.1,x.2.2+1) by
  unfold cB
  rw[if_neg (by omega),if_neg (by omega),hi.2.2.1,hx];rfl]
theorem qD{L:Nat}(h1:4096≤L)(h2:L≤1073741824){p:List Nd}: ∀{n k:Nat},k≤p.length→p.length<n+k→MC Tryd.prog L 87 [dp p,eI k] [] (Plain (pr (cB n p k)))
 | 0,k,hk,hn=>by omega
 | n+1,k,hk,hn=>ri h1 h2 hk hn (fun k' hk' hn'=>qD h1 h2 hk' hn')
theorem qI:MQ h1 h2 58 [dp p] [] (Plain (eB (mH p))):=by
 refine aA ?_ Z
 refine jB 22 h1 h2 Tryd.func58 Z fun O hF=>?_
 have hl:p.length≤L:=by simpa[As.fact,A.fact,M.fact,D.fact,Ds.fact]using hF.1.1
 refine ac (js Z (jn (ag (ac (js Z ?_)))))
 first|refine et Z ?_|refine js Z ?_|refine bv Z Z ?_
 refine js Z (jn (ak Z (fun z8=>?_) (fun z8=>?_)))
 try simp only[bj]at z8
 refine ac (js Z (jr ?_))
 refine az Z ?_
 rw[mH,decide_eq_false (show¬(p.length:Int)≤60 by omega),Bool.false_and]
 try simp only[bj]at z8
 refine af (ac (js Z (bA [(10,_),(2,_),(0,_)] [] ⟨Z,Z,Z,aq⟩ Z (au O Z Z Z Z (qD (p:=p) (n:=p.length+1) (k:=0) h1 h2 (dU _) (by omega)) (al Z) Z Z Z Z (B0:=12000) Z Z (bn Z (aP Z (bM (ae Z (bA [(16,_),(3,_),(2,_),(0,_)] [] ⟨Z,Z,Z,Z,aq⟩ Z (ar 4 Z Z Z (fun hx=>ap hx Z (ap hx Z (bg hx (ck O Z Z Z Z Z Z Z Z) Z (ap hx Z (AN.nil))))) Z Z ?_))))))))))
 first|refine aa (aj O Z Z Z Z Z) Z ?_|refine aa (ao O Z Z Z Z Z) Z ?_|refine aa (Val.pickB O Z Z Z Z Z) Z ?_
 refine js Z (jr ?_)
 refine az Z ?_
 rw[mH,decide_eq_true (show(p.length:Int)≤60 by omega),Bool.true_and,Bool.cond_false_right]
theorem sq{t:Tm}:t.ok=true↔iw t.c=true∧t.xs.all iw=true∧t.xs.length≤10∧(t.xs=[]∨t.xs.getD (t.xs.length-1) default≠0):=by
 unfold Tm.ok
 have hz:((t.xs.length:Int)-1).toNat=t.xs.length-1:=by omega
 rw[hz]
 cases h1:iw t.c<;>cases h2:t.xs.all iw<;>simp
 by_cases h3:t.xs.length≤10
 have h4: ¬(10:Int)<t.xs.length:=by omega
 by_cases h5:t.xs=[]
 simp[h5]
 have h6:0<t.xs.length:=List.length_pos_iff.2 h5
 simp[h3,h5]
 intro _;omega
 have h4:(10:Int)<t.xs.length:=by omega
 simp[h3,h4]
inductive Pf where
  | close (n:Nd)
  | tight (n:Nd) (a:Pf)
  | split (n:Nd) (a b:Pf)
def Pf.size:Pf→Nat
  | .close _=>1
  | .tight _ a=>1+a.size
  | .split _ a b=>1+a.size+b.size
def Pf.At(p:List Nd):Pf→Nat→Prop
  | .close n,k=>p[k]? = some n∧ndB n=true∧n.kind=1
  | .tight n a,k=>p[k]? = some n∧ndB n=true∧n.kind=3∧a.At p (k+1)
  | .split n a b,k=>p[k]? = some n∧ndB n=true∧n.kind=2∧a.At p (k+1)∧b.At p (k+1+a.size)
theorem bC{p:List Nd}{k:Nat}{n:Nd}(h:p[k]? = some n):k<p.length∧p.getD k default=n:=by
 have h1:=(List.getElem?_eq_some_iff.1 h).1
 exact⟨h1,by rw[av h1];exact(List.getElem?_eq_some_iff.1 h).2⟩
theorem ep: ∀{t:Pf},0<t.size
 | .close _=>by simp[Pf.size]
 | .tight _ _=>by simp only[Pf.size];omega
 | .split _ _ _=>by simp only[Pf.size];omega
theorem Pf.At.beh{p:List Nd}: ∀{t:Pf} {k n:Nat},t.At p k→p.length<n+k→∃d,cB n p k=some (k+t.size,d)
 | .close x,k,0,h,hn=>by have:=(bC h.1).1;omega
 | .tight x a,k,0,h,hn=>by have:=(bC h.1).1;omega
 | .split x a b,k,0,h,hn=>by have:=(bC h.1).1;omega
 | .close x,k,n+1,h,hn=>by
  obtain⟨h1,h2⟩:=bC h.1
  have hk:cL x=0:=by rw[ch h.2.1,if_pos h.2.2]
  refine⟨0+1,?_⟩
  unfold cB
  rw[if_neg (by omega),h2,hk,if_neg (by decide)]
  rfl
 | .tight x a,k,n+1,h,hn=>by
  obtain⟨h1,h2⟩:=bC h.1
  have hk:cL x=1:=by rw[ch h.2.1,if_neg (by rw[h.2.2.1];decide),if_neg (by rw[h.2.2.1];decide)]
  obtain⟨d,hd⟩:=h.2.2.2.beh (n:=n) (by omega)
  refine⟨(if d>0 then d else 0)+1,?_⟩
  unfold cB
  rw[if_neg (by omega),h2,hk,if_neg (by decide),show(1:Int).toNat=0+1 from Z,bL hd]
  show some (k+1+a.size,_)=some (k+(1+a.size),_)
  rw[Nat.add_assoc]
 | .split x a b,k,n+1,h,hn=>by
  obtain⟨h1,h2⟩:=bC h.1
  have hk:cL x=2:=by rw[ch h.2.1,if_neg (by rw[h.2.2.1];decide),if_pos h.2.2.1]
  obtain⟨d,hd⟩:=h.2.2.2.1.beh (n:=n) (by omega)
  obtain⟨d',hd'⟩:=h.2.2.2.2.beh (n:=n) (by have:=ep (t:=a);omega)
  refine⟨(if d'>(if d>0 then d else 0)then d' else(if d>0 then d else 0))+1,?_⟩
  unfold cB
  rw[if_neg (by omega),h2,hk,if_neg (by decide),show(2:Int).toNat=1+1 from Z,bL hd,show(1:Nat)=0+1 from Z,bL hd']
  show some (k+1+a.size+b.size,_)=some (k+(1+a.size+b.size),_)
  rw[show k+1+a.size+b.size=k+(1+a.size+b.size) by omega]
theorem kt{n:Nd}(h: ¬cL n<0):ndB n=true:=by
 cases hb:ndB n with
 | true=>rfl
 | false=>rw[dE hb]at h;exact absurd (by decide) h
theorem je{p:List Nd}: ∀{n k k':Nat} {d:Int},cB n p k=some (k',d)→∃t:Pf,t.At p k∧k'=k+t.size
 | 0,_,_,_,h=>by cases h
 | n + 1,k,k',d,h=>by
  unfold cB at h
  split at h
  cases h
  rename_i hl
  split at h
  cases h
  rename_i hk
  have hb:=kt hk
  have hg:p[k]? = some (p.getD k default):=by rw[av (by omega)];exact List.getElem?_eq_getElem (by omega)
  generalize p.getD k default=x at hk hb hg h
  rcases ka hb with h1|h1|h1
  rw[ch hb,if_pos h1]at h
  simp only[Int.toNat_zero,de,Option.map_some,dc,Prod.mk.injEq]at h
  exact⟨.close x,⟨hg,hb,h1⟩,h.1.symm⟩
  rw[ch hb,if_neg (by omega),if_pos h1,show(2:Int).toNat=1+1 from Z]at h
  cases e1:cB n p (k+1)with
  | none=>rw[c5 e1]at h;cases h
  | some r1=>
   obtain⟨k1,d1⟩:=r1
   rw[bL e1,show(1:Nat)=0+1 from Z]at h
   obtain⟨a,ha,rfl⟩:=je e1
   cases e2:cB n p (k+1+a.size)with
   | none=>rw[c5 e2]at h;cases h
   | some r2=>
    obtain⟨k2,d2⟩:=r2
    rw[bL e2]at h
    obtain⟨b,hb2,rfl⟩:=je e2
    simp only[de,Option.map_some,dc,Prod.mk.injEq]at h
    exact⟨.split x a b,⟨hg,hb,h1,ha,hb2⟩,by rw[←h.1];simp only[Pf.size];omega⟩
  rw[ch hb,if_neg (by omega),if_neg (by omega),show(1:Int).toNat=0+1 from Z]at h
  cases e1:cB n p (k+1)with
  | none=>rw[c5 e1]at h;cases h
  | some r1=>
   obtain⟨k1,d1⟩:=r1
   rw[bL e1]at h
   obtain⟨a,ha,rfl⟩:=je e1
   simp only[de,Option.map_some,dc,Prod.mk.injEq]at h
   exact⟨.tight x a,⟨hg,hb,h1,ha⟩,by rw[←h.1];simp only[Pf.size];omega⟩
theorem Pf.At.endK{p:List Nd}: ∀{t:Pf} {k:Nat} {need:Int},t.At p k→0<need→Al.endK (p.drop k) need=(Al.endK (p.drop (k+t.size)) (need-1)).map (· + t.size)
 | .close x,k,need,h,hn=>by
  obtain⟨h1,h2⟩:=bC h.1
  rw[cY hn h1,h2,h.2.2];rfl
 | .tight x a,k,need,h,hn=>by
  obtain⟨h1,h2⟩:=bC h.1
  rw[cY hn h1,h2,h.2.2.1,show need+dl 3=need by show need+0=need;omega,h.2.2.2.endK hn,Option.map_map]
  simp only[Pf.size]
  rw[show k+1+a.size=k+(1+a.size) by omega]
  exact congrArg (fun f=>Option.map f _) (funext fun n=>by show n+a.size+1=n+(1+a.size);omega)
 | .split x a b,k,need,h,hn=>by
  obtain⟨h1,h2⟩:=bC h.1
  rw[cY hn h1,h2,h.2.2.1,show need+dl 2=need+1 from Z,h.2.2.2.1.endK (by omega),show need+1-1=need by omega,h.2.2.2.2.endK hn,Option.map_map,Option.map_map]
  simp only[Pf.size]
  rw[show k+1+a.size+b.size=k+(1+a.size+b.size) by omega]
  exact congrArg (fun f=>Option.map f _) (funext fun n=>by show n+b.size+a.size+1=n+(1+a.size+b.size);omega)
theorem Pf.At.endP{p:List Nd}{t:Pf}{k:Nat}(h:t.At p k):Al.endP p k=k+t.size:=by
 unfold Al.endP
 rw[h.endK (by decide),show(1:Int)-1=0 from Z,kh (Int.le_refl 0)]
 show(k:Int)+(0+t.size:Nat)=_
 omega
theorem Pf.At.valid{p:List Nd}: ∀{t:Pf} {k j:Nat},t.At p k→k≤j→j<k+t.size→ndB (p.getD j default)=true
 | .close x,k,j,h,h1,h2=>by
  simp only[Pf.size]at h2
  obtain rfl:j=k:=by omega
  rw[(bC h.1).2];exact h.2.1
 | .tight x a,k,j,h,h1,h2=>by
  by_cases e:j=k
  subst e;rw[(bC h.1).2];exact h.2.1
  simp only[Pf.size]at h2
  exact h.2.2.2.valid (by omega) (by omega)
 | .split x a b,k,j,h,h1,h2=>by
  by_cases e:j=k
  subst e;rw[(bC h.1).2];exact h.2.1
  simp only[Pf.size]at h2
  by_cases e2:j<k+1+a.size
  exact h.2.2.2.1.valid (by omega) (by omega)
  exact h.2.2.2.2.valid (by omega) (by omega)
theorem gz{p:List Nd}(hv: ∀n∈p,ndB n=true): ∀{m k:Nat} {need:Int} {r:Nat},p.length-k≤m→0<need→endK (p.drop k) need=some r→∃t:Pf,t.At p k
 | 0,k,need,r,hm,hn,h=>by
  rw[List.drop_of_length_le (by omega),gU hn]at h;cases h
 | m+1,k,need,r,hm,hn,h=>by
  by_cases hk:k<p.length
  have hg:p[k]? = some (p.getD k default):=by rw[av hk];exact List.getElem?_eq_getElem hk
  have hb:ndB (p.getD k default)=true:=by rw[av hk];exact hv _ (List.getElem_mem hk)
  rw[cY hn hk]at h
  generalize p.getD k default=x at hb hg h
  rcases ka hb with h1|h1|h1
  exact⟨.close x,hg,hb,h1⟩
  rw[h1,show need+dl 2=need+1 from Z]at h
  simp only[Option.map_eq_some_iff]at h
  obtain⟨r1,h2,_⟩:=h
  obtain⟨a,ha⟩:=gz hv (m:=m) (by omega) (by omega) h2
  rw[ha.endK (by omega),show need+1-1=need by omega]at h2
  simp only[Option.map_eq_some_iff]at h2
  obtain⟨r2,h3,_⟩:=h2
  obtain⟨b,hb2⟩:=gz hv (m:=m) (by have:=ep (t:=a);omega) hn h3
  exact⟨.split x a b,hg,hb,h1,ha,hb2⟩
  rw[h1,show need+dl 3=need by show need+0=need;omega]at h
  simp only[Option.map_eq_some_iff]at h
  obtain⟨r1,h2,_⟩:=h
  obtain⟨a,ha⟩:=gz hv (m:=m) (by omega) hn h2
  exact⟨.tight x a,hg,hb,h1,ha⟩
  rw[List.drop_of_length_le (by omega),gU hn]at h;cases h
theorem nL{p:List Nd}(h:isB p=true): ∃t:Pf,t.At p 0∧t.size=p.length:=by
 obtain⟨h1,h2,h3,h4⟩:=isB_spec h
 have h5: ∃r,endK (p.drop 0) 1=some r:=by
  unfold endP at h4
  cases e:endK (p.drop 0) 1 with
  | some r=>exact⟨r,Z⟩
  | none=>rw[e]at h4;have h4:(-1:Int)=p.length:=h4;omega
 obtain⟨r,hr⟩:=h5
 obtain⟨t,ht⟩:=gz h3 (bD _) (by decide) hr
 refine⟨t,ht,?_⟩
 rw[ht.endP]at h4
 omega
theorem gO{p:List Nd}(h:mH p=true):p.length≤60∧∃t:Pf,t.At p 0∧t.size=p.length:=by
 unfold mH at h
 simp only[bb,decide_eq_true_eq]at h
 obtain⟨k,d,hr⟩:=lV h.2.1
 obtain⟨t,ht,hk⟩:=je hr
 have h3:=h.2.2
 rw[hr]at h3
 have h3:(k:Int)=p.length:=h3
 exact⟨by omega,t,ht,by omega⟩
theorem isI_eq{p:List Nd}:mH p=isB p:=by
 rw[Bool.eq_iff_iff]
 constructor
 intro h
 obtain⟨h1,t,ht,hs⟩:=gO h
 have hp:=ep (t:=t)
 unfold isB
 rw[decide_eq_true (show(1:Int)≤p.length by omega),decide_eq_true (show(p.length:Int)≤60 by omega),ht.endP,decide_eq_true (show((0:Nat):Int)+t.size=p.length by omega)]
 simp only[Bool.and_true,Bool.true_and,List.all_eq_true]
 intro n hn
 obtain⟨j,hj,rfl⟩:=List.mem_iff_getElem.1 hn
 have:=ht.valid (dU j) (by omega)
 rwa[av hj]at this
 intro h
 obtain⟨t,ht,hs⟩:=nL h
 obtain⟨h1,h2,_,_⟩:=isB_spec h
 obtain⟨d,hd⟩:=ht.beh (n:=p.length+1) (by omega)
 unfold mH
 rw[decide_eq_true (show(p.length:Int)≤60 by omega),hd]
 show(true&&decide (((0+t.size:Nat):Int)=p.length))=true
 rw[decide_eq_true (by omega)];rfl
structure Ex where
  es:List (Int×List Tm)
  flaw:Int
def fl(b:Nat→Bool):Nat→Nat→Int→Int
  | _,0,f=>f
  | k,n+1,f=>fl b (k+1) n (if b k=true∧f<0 then(k:Int)else f)
structure Eqs(p:List Nd)(c0:List Tm)(H:Nat→Bool)(A:Nat→List Tm)(R:Nat→Bool):Prop where
  h0:0<p.length→H 0=true∧A 0=c0
  h: ∀j,0<j→j<p.length→H j=R (qi p j j).1.toNat
  a: ∀j,0<j→j<p.length→H j=true→A j=p9 (p.getD (qi p j j).1.toNat default) (A (qi p j j).1.toNat) (qi p j j).2
  r: ∀j,j<p.length→R j=(H j&&nb (p.getD j default) (A j))
theorem mg: ∀{k:Int} {xs:List Int},aJ mI bE k (aJ mI bE k xs)=aJ mI bE k xs
 | _,[]=>rfl
 | k,x::xs=>by
  show k::aJ mI bE (k+1) (aJ mI bE (k+1) xs)=k::aJ mI bE (k+1) xs
  rw[mg]
theorem ie(xs:List Int)(k:Int):(if aJ mI bE k xs=aJ mI bE k (aJ mI bE k xs)then k+((aJ mI bE k xs).length:Int)else -1)=k+xs.length:=by
 rw[if_pos mg.symm,aO]
theorem hY{α:Type}[Inhabited α]{f:Int→α→α}{sz:α→Nat}: ∀{l:List α} {k:Int} {i:Nat},i<l.length→(aJ f sz k l).getD i default=f (k+cnt sz (l.take i)) (l.getD i default)
 | [],_,_,h=>by simp at h
 | a::r,k,0,_=>by simp[aJ,cnt]
 | a::r,k,i+1,h=>by
  have:=hY (f:=f) (sz:=sz) (l:=r) (k:=k+sz a) (i:=i) (by simpa using h)
  simp only[aJ,List.getD_cons_succ,List.take_succ_cons]at this ⊢
  rw[this]
  have e:k+(sz a:Int)+(cnt sz (r.take i):Int)=k+(cnt sz (a::r.take i):Int):=by simp[cnt];omega
  rw[e]
end Go.Al
/- What the laws of the certificates share: the types of their arguments; what came in reads as it did. -/
namespace Go.Proofs.YtlofbdghppgnbaaDoor
open Go.ChangeShapes Go.WideShapes Go.ChangeAt Go.RowKit Go.Al

theorem ownK:ownKnob Tryd.prog.godebug=none:=by kernel_rfl
theorem kidsK:Kids Tryd.prog (· < Tryd.prog.types.size):=kids_rows (by kernel_rfl) (by kernel_rfl)
theorem fullK: ∀t e,t<Tryd.prog.types.size→Tryd.prog.underlying t=some (.slice e)→0<Tryd.prog.cellsOf e:=slices_full_of Tryd.prog (by kernel_rfl)

theorem fits_one{t:Ty}{e:List D}(h:FitsL [t] e): ∃d,e=[d]∧Fits t d:=by
 cases h with
 | cons a h=>cases h;exact⟨_,rfl,a⟩
theorem rdl_rms{L:Nat}{w:World}{ok:Nat→Prop}{m:Nat→Go.Al.Loc}: ∀{ds:List D} {vs:List Value} {F:List Nat},RDL L w ok ds vs F→F=[]→RMs L w ok m (ds.map .d) vs
 | _,_,_,.nil,_=>.nil
 | _,_,_,.cons (F1:=F1) (F2:=F2) h1 h2,hF=>by
  obtain⟨rfl,rfl⟩:=List.append_eq_nil_iff.1 hF
  exact .cons (.d h1) (rdl_rms h2 Z)
section
variable{H:Type}{enc:TypeId×Value→H}{P:Program}{w w':World}
theorem om(hs: ∀b,b<w.heap.size→Same w w' b){p:MemPlace}(hp:p.block<w.heap.size):w.sameAt w' p:=by
 cases p with
 | cell b o=>exact(hs b hp).cell
 | map b=>exact hs b hp
theorem trodAll_same(hs: ∀b,b<w.heap.size→Same w w' b){base:Nat}{sp:Nat→Bool}{held:Bool}: ∀{ts:List TypeId} {vs:List Value} {ds:List (DataW H)} {ps:List MemPlace},(∀p∈ps,p.block<w.heap.size)→DataW.TrodAll enc P w base sp held ts vs ds ps→DataW.TrodAll enc P w' base sp held ts vs ds ps
 | [],[],[],_,_,h=>h
 | _::_,_::_,_::_,_,hl,⟨p,q,⟨n,h1⟩,h2,e⟩=>
  ⟨p,q,⟨n,DataW.trod_carry n _ _ _ h1 (fun x hx=>om hs (hl x (by rw[e];exact List.mem_append_left _ hx)))⟩,trodAll_same hs (fun x hx=>hl x (by rw[e];exact List.mem_append_right _ hx)) h2,e⟩
theorem kY(hf:Go.Al.Frame w w' [])(may:MemPlace→Prop):w.keptBut w' may:=by
 refine⟨hf.os,hf.output,fun i hi=>?_⟩
 have h:=hf.block i hi (by simp)
 unfold Same at h
 rw[h]
 cases hx:w.heap[i]? with
 | none=>trivial
 | some o=>
  cases o with
  | cells c t fr=>exact⟨Z,Z,Z,fun _ _=>rfl⟩
  | map es clock=>exact .inr ⟨Z,Z⟩
  | _=>rfl
theorem kX(hf:Go.Al.Frame w w' []){a:Addr}(ha:a.block<w.heap.size):w'.frozen? a=w.frozen? a:=by
 have h:=hf.block a.block ha (by simp)
 unfold Same at h
 unfold World.frozen?
 rw[h]
theorem post_of_old{f:Func}{s:ChangeSpec}{apart fresh handsOn again:Bool}{args:Array Value}{v:Value}{ds gs:List (DataW H)}{before pa pv:List MemPlace}
    (hW:DataW.Whole enc P f.params.toList s.vars apart w args.toList ds gs before)
    (hres: ∀(b:Nat) (sp:Nat→Bool) (hd:Bool),DataW.TrodAll enc P w' b sp hd f.resultTypes.toList (v.resultList f.resultTypes.size) (s.fn H (ds++gs)).results [])
    (hargs: ∀sp:Nat→Bool,(∀p∈before,sp p.block=true)→DataW.TrodAll enc P w' 0 sp true f.params.toList args.toList (s.fn H (ds++gs)).args pa)
    (hvars: ∀sp:Nat→Bool,(∀p∈before,sp p.block=true)→DataW.TrodVars enc P w' sp s.vars (s.fn H (ds++gs)).vars pv)
    (hps:before=pa++pv) (hf:Go.Al.Frame w w' [])
    (hok: ∀(j:Nat) (t:TypeId) (r:Value),f.resultTypes[j]? = some t→(v.resultList f.resultTypes.size)[j]? = some r→Value.okWide P w' .any 0 t r) :
    s.post enc P f apart fresh handsOn again w args v w':=by
 have hlt:=hW.lt
 have hold: ∀p∈before,(fun b=>decide (b<w.heap.size)) p.block=true:=fun p hp=>by simpa using hlt p hp
 refine⟨ds,gs,before,[],pa,pv,hW,hres _ _ _,hargs _ hold,hvars _ hold,World.keptBut_mono (fun p hp=>⟨hp,?_⟩) (kY hf (· ∈before)),fun _=>?_⟩
 rw[hps,List.mem_append]at hp
 exact Or.inr hp
 obtain⟨_,_,_,_,_,hz,hn⟩:=hW
 refine⟨hok,_,_,([]++pa)++pv,⟨[]++pa,pv,trodAll_append (hargs _ (fun _ _=>rfl)) (hres _ _ _),hvars _ (fun _ _=>rfl),Z,?_,?_⟩,?_⟩
 intro b off hp
 have hp':MemPlace.cell b off∈before:=by rw[hps];simpa using hp
 rw[kX hf (hlt _ hp')]
 exact hz b off hp'
 intro ha
 have:=hn ha
 rw[hps]at this
 simpa using this
 intro p hp _
 rw[hps]
 simpa using hp
end

end Go.Proofs.YtlofbdghppgnbaaDoor
namespace Go.Al
variable{L:Nat}(h1:4096≤L)(h2:L≤1073741824)
structure NdAt(n:Nat)(x:Nd):Prop where
  close:x.kind=1→n+1≤x.mul.length∧x.mul.length≤20
  fact:x.kind=3→0≤x.fact∧x.fact≤19
  kind:x.kind=1∨x.kind=2∨x.kind=3
structure MvOk(cnt to:Int→Int)(x:Nd):Prop where
  kind:x.kind=1∨x.kind=2∨x.kind=3
  fact:x.kind=3→0≤x.fact∧x.fact≤19
  len:x.kind=1→x.mul.length≤20
  cntb:x.kind=1→0≤cnt x.mul.length∧cnt x.mul.length≤1000
  rng:x.kind=1→∀i:Nat,i<x.mul.length→to i<cnt x.mul.length
theorem lD{ts:List Nd}{k:Int}(hk0:0≤k)(hk1:k+cnt nN ts≤1073741824):MQ h1 h2 26 [dp (aJ mN nN k ts),eI k] [] (Plain (eI (k+cnt nN ts))):=by
 refine aA ?_ Z
 refine jB 60 h1 h2 Tryd.func26 Z fun O hF=>?_
 have hlm:=aO (f:=mN) (sz:=nN) (k:=k) (l:=ts)
 have hl:(aJ mN nN k ts).length≤L:=by simpa[As.fact,A.fact,M.fact,D.fact,Ds.fact]using hF.1.1
 refine ac (js Z (jn (ag (ac (js Z (jn (am (ax (X:=Nat) (fun i=>⟨[(0,dp (aJ mN nN k ts)),(1,eI (k+cnt nN (ts.take i))),(5,eI i)],[]⟩) (fun i=>i≤ts.length) (fun i=>ts.length-i) 0 (Ent.env ⟨Z,by simp[bi,ah,cnt],Z,aq⟩) ?_ (fun i hi=>?_)))))))))
 exact dU _
 refine ag (ac (ae Z (et Z (js Z (jf [9,0,1,5] Z (jn (ak Z (fun z9=>?_) (fun z9=>?_))))))))
 refine af (ag (am (ag (ac ?_))))
 have hil:i<ts.length:=by have h9:=bf z9;omega
 have hg:=hY (f:=mN) (sz:=nN) (k:=k) hil
 have hcs:=kj (sz:=nN) hil
 have hcl:=nn (sz:=nN) (l:=ts) (i:=i+1)
 rw[←av hil]at hcs
 obtain⟨t,ht⟩: ∃t,t=ts.getD i default:=⟨_,rfl⟩
 rw[←ht]at hg hcs
 simp only[nN]at hcs
 obtain⟨K,hK⟩: ∃K,K=k+(cnt nN (ts.take i):Int):=⟨_,rfl⟩
 rw[←hK]at hg ⊢
 refine ae Z (aa ((aL O Z Z Z Z Z Z Z Z (dZ (by omega))).cast (v':=ptr (Nd.cells (mN K t))) (by rw[hg])) Z (bn Z (jf [18,9,0,1,5] Z (jn (ak Z (fun z18=>?_) (fun z18=>?_))))))
 exact absurd z18 (by simp)
 refine af (ac (js Z (ji Z (js Z (jf [1,18,9,0,5] Z (jn (ag (ac (ae Z (aa ((aL O Z Z Z Z Z Z Z Z (dZ (by omega))).cast (v':=ptr (Nd.cells (mN K t))) (by rw[hg])) Z (bn Z (jf [27,1,18,9,0,5] Z (jn (ak Z (fun z27=>?_) (fun z27=>?_)))))))))))))))
 exact absurd z27 (by simp)
 refine af (ac (js Z (ji Z (js Z (jf [1,27,18,9,0,5] Z (jn (ag (ac (ae Z (aa ((aL O Z Z Z Z Z Z Z Z (dZ (by omega))).cast (v':=ptr (Nd.cells (mN K t))) (by rw[hg])) Z (bn Z (js Z (jf [37,1,27,18,9,0,5] Z (jn (ak Z (fun z37=>?_) (fun z37=>?_))))))))))))))))
 exact absurd z37 (by simp)
 refine af (ac (js Z (ji Z (js Z (jf [1,37,27,18,9,0,5] Z (bM (ae Z (aa ((aL O Z Z Z Z Z Z Z Z (dZ (by omega))).cast (v':=ptr (Nd.cells (mN K t))) (by rw[hg])) Z (bn Z (jf [46,45,1,37,27,18,9,0,5] Z (cH Z ((sJ (xs:=aJ mI bE (K+1+1+1) t.term.xs) (k:=K+1+1+1) h1 h2 (by omega) (by omega)).plain (congrArg eI (ie t.term.xs (K+1+1+1)))) 48000 Z (js Z (jf [1,37,27,18,9,0,5] Z (jn (ag (ac (ae Z (jn (ak Z (fun z49=>?_) (fun z49=>?_))))))))))))))))))))
 exact absurd (bf z49) (by omega)
 refine af (ac (ae Z (aa ((aL O Z Z Z Z Z Z Z Z (dZ (by omega))).cast (v':=ptr (Nd.cells (mN K t))) (by rw[hg])) Z (aP Z (jf [55,54,49,48,1,37,27,18,9,0,5] Z (cH Z ((sJ (xs:=aJ mI bE (K+1+1+1+t.term.xs.length) t.mul) (k:=K+1+1+1+t.term.xs.length) h1 h2 (by omega) (by omega)).plain (congrArg eI (ie t.mul (K+1+1+1+t.term.xs.length)))) 57000 Z (js Z (jf [1,49,48,37,27,18,9,0,5] Z (bM (ae Z (jn (ak Z (fun z58=>?_) (fun z58=>?_)))))))))))))
 exact absurd (bf z58) (by omega)
 refine af (ab (js Z (ji Z (js Z (jf [5,58,57,1,49,48,37,27,18,9,0] Z (jn ?_))))))
 refine⟨i+1,Ent.env ⟨Z,?_,Z,aq⟩,by omega,by omega⟩
 rw[hcs]
 exact congrArg (fun z=>some (eI z)) (by omega)
 refine aZ (ac (ae Z (jr ?_)))
 refine az Z ?_
 have h9:=bB z9
 obtain rfl:i=ts.length:=by omega
 rw[List.take_length]
structure Rw where
  c:Int
  xs:List Int
  ms:List Int
  deriving Inhabited
structure ROk(n:Nat)(r:Rw):Prop where
  c:iw r.c=true
  xs:r.xs.all iw=true
  l:r.xs.length=10
  ms:r.ms.all co=true
  n:r.ms.length=n
  nW: ∃x∈r.ms,0<x
structure Fs(ts:List Tm):Prop where
  ok: ∀t∈ts,t.ok=true
  len:ts.length≤14
structure Src where
  code:List Int
  at_:Nat
  seed:Int
structure Src.Ok(s:Src):Prop where
  code: ∀n∈s.code,0≤n∧n≤255
structure RIn(ts:List Tm)(r:Rw):Prop where
  ok:ROk ts.length r
  c:r.c=l9 Tm.c ts r.ms
  xs: ∀k,k<10→r.xs.getD k default=l9 (pw k) ts r.ms
structure QOk(ts:List Tm)(ms:List Int):Prop where
  ok: ∀t∈ts,t.ok=true
  c: ∀t∈ts,-6≤t.c∧t.c≤6
  mok: ∀m∈ms,0≤m∧m≤2
  len:ms.length=ts.length
end Go.Al
