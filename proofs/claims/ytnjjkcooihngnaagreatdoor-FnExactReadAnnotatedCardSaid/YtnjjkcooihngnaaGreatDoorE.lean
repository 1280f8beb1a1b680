/- Texts of terms and instructions: plain Lean, the readers of terms and numbers of both sides, walked. -/
import Derived.Lib.ItoaNum
import Derived.Lib.Split
import Derived.Test.YtnjjkcooihngnaaGreatDoorH
import Derived.Test.YtnjjkcooihngnaaGreatDoorC
import Derived.Test.YtnjjkcooihngnaaGreatDoorS
import Derived.Lib.ParseIntBTie
import Derived.WalkKit
import Derived.Deep.QuietTactic
import Derived.BigQuiet
set_option linter.unusedVariables false
set_option linter.unusedSimpArgs false
set_option maxRecDepth 10000
set_option maxHeartbeats 4000000
open Go.Proofs
/- Terms as texts, in plain Lean: what is written, what is read, and that a written term is read back. -/
namespace Go.Al
variable{L:Nat}(h1:4096≤L)(h2:L≤1073741824)
open Go.Lib
abbrev Str:=List UInt8
def fJ(i:Nat):UInt8:=UInt8.ofNat (97+i)
def cZ(out:Str)(n:Int):Str:=if n<0 then[45]else if out=[]then[]else[43]
def tC(out:Str)(i:Nat)(c:Int):Str:=if c=0 then out else out++cZ out c++(if c.natAbs=1 then[]else decDigits c.natAbs)++[fJ i]
def tX:Nat→List Int→Str→Str
  | _,[],out=>out
  | i,c::r,out=>tX (i+1) r (tC out i c)
def tK(out:Str)(c:Int):Str:=if c=0 then out else out++cZ out c++decDigits c.natAbs
def tZ(out:Str):Str:=if out=[]then[48]else out
def so(c:Int)(xs:List Int):Str:=tZ (tK (tX 0 xs []) c)

def gb(b:UInt8):Bool:=decide (48≤b.toNat)&&decide (b.toNat≤57)
def nX(b:UInt8):Bool:=decide (97≤b.toNat)&&decide (b.toNat<107)
def bP:Nat→Int→Str→Int×Str
  | 0,n,l=>(n,l)
  | _+1,n,[]=>(n,[])
  | k+1,n,b::r=>if gb b then bP k (10*n+(b.toNat-48:Int)) r else(n,b::r)
theorem fB{k:Nat}{n:Int}{b:UInt8}{r:Str}(h:gb b=false):bP k n (b::r)=(n,b::r):=by
 cases k with
 | zero=>rfl
 | succ k=>rw[bP,if_neg (by simp[h])]
theorem jt{k:Nat}{n:Int}:bP k n []=(n,[]):=by cases k<;>rfl
theorem bC{d:Nat}(h:d<10):(UInt8.ofNat (48+d)).toNat=48+d:=by
 rw[UInt8.toNat_ofNat'];omega
theorem ju{k:Nat}{n:Int}{d:Nat}(h:d<10){r:Str}:bP (k+1) n (UInt8.ofNat (48+d)::r)=bP k (10*n+d) r:=by
 rw[bP,if_pos (by unfold gb;rw[bC h];simp;omega),bC h]
 congr 1;omega
theorem jv(m:Nat): ∀(k:Nat) (n:Int) (r:Str),nDigits m≤k→bP k n (decDigits m++r)=bP (k-nDigits m) (n*(10^nDigits m:Nat)+m) r:=by
 induction m using Nat.strongRecOn with
 | _ m ih=>
  intro k n r hk
  by_cases h:m<10
  rw[decDigits,dif_pos h,nDigits_small h]at *
  obtain⟨k,rfl⟩: ∃j,k=j+1:=⟨k-1,by omega⟩
  rw[List.singleton_append,ju h,Nat.add_sub_cancel]
  congr 1;simp;omega
  rw[nDigits_big h]at hk ⊢
  rw[decDigits,dif_neg h,cM,List.singleton_append,ih (m/10) (by omega) k n _ (by omega)]
  obtain⟨j,hj⟩: ∃j,k-nDigits (m/10)=j+1:=⟨k-nDigits (m/10)-1,by omega⟩
  rw[hj,ju (Nat.mod_lt _ (by decide)),show k-(nDigits (m/10)+1)=j by omega]
  congr 1
  rw[Nat.pow_succ,Int.natCast_mul]
  have:(m:Int)=10*((m/10:Nat):Int)+((m%10:Nat):Int):=by omega
  generalize (10^nDigits (m/10):Nat)=p at *
  rw[Int.mul_add,Int.add_assoc,←this]
  congr 1
  rw[show((10:Nat):Int)=10 from Z,Int.mul_comm 10 (n*_),Int.mul_assoc]
theorem ed{m k:Nat}(h:m<10^(k+1)):nDigits m≤k+1:=by
 induction k generalizing m with
 | zero=>rw[nDigits_small (by simpa using h)];exact bH _
 | succ k ih=>
  by_cases hm:m<10
  rw[nDigits_small hm];omega
  rw[nDigits_big hm]
  have:=ih (m:=m/10) (by rw[Nat.pow_succ]at h;omega)
  omega
theorem cL(m:Nat):decDigits m≠[]:=by
 rw[decDigits];split<;>simp
theorem dM(m:Nat): ∀b∈decDigits m,gb b=true:=by
 induction m using Nat.strongRecOn with
 | _ m ih=>
  intro b hb
  rw[decDigits]at hb
  split at hb
  rename_i h
  rw[List.mem_singleton.1 hb];unfold gb;rw[bC h];simp;omega
  rename_i h
  rcases List.mem_append.1 hb with hb|hb
  exact ih (m/10) (by omega) b hb
  rw[List.mem_singleton.1 hb];unfold gb;rw[bC (Nat.mod_lt _ (by decide))];simp;omega
theorem kL: ∀(k:Nat) (n:Int) (l:Str),(bP k n l).2.length≤l.length
 | 0,n,l=>bH _
 | k+1,n,[]=>bH _
 | k+1,n,b::r=>by
  rw[bP]
  split
  exact Nat.le_trans (kL k _ r) (Nat.le_succ _)
  exact bH _
def ik:Str→Int×Str
  | []=>(1,[])
  | b::r=>if b=45 then(-1,r)else if b=43 then(1,r)else(1,b::r)
theorem qr(l:Str):(ik l).2.length≤l.length:=by
 cases l with
 | nil=>exact bH _
 | cons b r=>
  rw[ik]
  split
  exact Nat.le_succ _
  split
  exact Nat.le_succ _
  exact bH _
def de(xs:List Int)(i:Nat)(n:Int):List Int:=xs.set i (xs.getD i 0+n)
def mn(l:Str):Option (Str×Option Nat×Int):=
  let a:=ik l
  let d:=bP 8 0 a.2
  match d.2 with
  | b::r=>if nX b then some (r,some (b.toNat-97),a.1*(if d.2.length=a.2.length then 1 else d.1))else if d.2.length=a.2.length then none else some (d.2,none,a.1*d.1)
  | []=>if d.2.length=a.2.length then none else some (d.2,none,a.1*d.1)
theorem lA{l r:Str}{i:Option Nat}{n:Int}(h:mn l=some (r,i,n)):r.length<l.length:=by
 have h1:=qr l
 have h2:=kL 8 0 (ik l).2
 unfold mn at h
 simp only at h
 split at h
 rename_i b r' hd
 split at h
 cases h
 have:(bP 8 0 (ik l).2).2.length=r.length+1:=by rw[hd];rfl
 omega
 split at h
 cases h
 cases h;rename_i hne _;rw[hd]at h2;rw[hd]at *;omega
 rename_i hd
 split at h
 cases h
 cases h;rename_i hne;rw[hd]at h2;rw[hd]at *;omega
def i6(l:Str)(xs:List Int)(c:Int):Option (List Int×Int):=
  if l=[]then some (xs,c)else
  match h:mn l with
  | none=>none
  | some (r,some i,n)=>i6 r (de xs i n) c
  | some (r,none,n)=>i6 r xs (c+n)
termination_by l.length
decreasing_by all_goals exact lA h
theorem eJ{xs:List Int}{c:Int}:i6 [] xs c=some (xs,c):=by rw[i6];simp
theorem mO{l r:Str}{xs:List Int}{c n:Int}{i:Nat}(h:mn l=some (r,some i,n)):i6 l xs c=i6 r (de xs i n) c:=by
 have hl:l≠[]:=fun e=>by have:=lA h;rw[e]at this;exact absurd this (Nat.not_lt_zero _)
 rw[i6,if_neg hl]
 split
 rename_i e;rw[h]at e;cases e
 rename_i e;rw[h]at e;cases e;rfl
 rename_i e;rw[h]at e;cases e
theorem kd{l r:Str}{xs:List Int}{c n:Int}(h:mn l=some (r,none,n)):i6 l xs c=i6 r xs (c+n):=by
 have hl:l≠[]:=fun e=>by have:=lA h;rw[e]at this;exact absurd this (Nat.not_lt_zero _)
 rw[i6,if_neg hl]
 split
 rename_i e;rw[h]at e;cases e
 rename_i e;rw[h]at e;cases e
 rename_i e;rw[h]at e;cases e;rfl
theorem pk{l:Str}{xs:List Int}{c:Int}(hl:l≠[])(h:mn l=none):i6 l xs c=none:=by
 rw[i6,if_neg hl]
 split
 rfl
 rename_i e;rw[h]at e;cases e
 rename_i e;rw[h]at e;cases e
def m8(f:Bool)(n:Int):Str:=if n<0 then[45]else if f then[43]else[]
def mo(n:Int):Str:=if n.natAbs=1 then[]else decDigits n.natAbs
def pX:Bool→Nat→List Int→Str
  | _,_,[]=>[]
  | f,i,c::r=>if c=0 then pX f (i+1) r else m8 f c++mo c++(fJ i::pX true (i+1) r)
def pK(f:Bool)(c:Int):Str:=if c=0 then[]else m8 f c++decDigits c.natAbs
def ne(s:Str):Bool:=!s.isEmpty
theorem oD(out:Str)(n:Int):cZ out n=m8 (ne out) n:=by
 unfold cZ m8 ne;cases out<;>simp
theorem qS: ∀(xs:List Int) (i:Nat) (out:Str),tX i xs out=out++pX (ne out) i xs
 | [],i,out=>by simp[tX,pX]
 | c::r,i,out=>by
  rw[tX,qS r,pX]
  unfold tC
  by_cases h:c=0
  simp[h]
  rw[if_neg h,if_neg h,oD]
  have:ne (out++m8 (ne out) c++(if c.natAbs=1 then[]else decDigits c.natAbs)++[fJ i])=true:=by simp[ne]
  rw[this]
  simp[mo]
theorem tl(out:Str)(c:Int):tK out c=out++pK (ne out) c:=by
 unfold tK pK
 by_cases h:c=0
 simp[h]
 rw[if_neg h,if_neg h,oD];simp
theorem ot(c:Int)(xs:List Int):so c xs=tZ (pX false 0 xs++pK (ne (pX false 0 xs)) c):=by
 unfold so
 rw[tl,qS];simp[ne]
theorem eL{i:Nat}(h:i<10):(fJ i).toNat=97+i:=by
 unfold fJ;rw[UInt8.toNat_ofNat'];omega
theorem hZ{i:Nat}(h:i<10):nX (fJ i)=true:=by unfold nX;rw[eL h];simp;omega
theorem km{i:Nat}(h:i<10):gb (fJ i)=false:=by unfold gb;rw[eL h];simp;omega
theorem pw{b:UInt8}(h:gb b=true∨nX b=true):b≠45∧b≠43:=by
 constructor<;>(rintro rfl;revert h;decide)
theorem kK{f:Bool}{n:Int}{l:Str}(h:n<0∨∃b r,l=b::r∧(gb b=true∨nX b=true))(hl:n<0→True):ik (m8 f n++l)=(if n<0 then -1 else 1,l):=by
 unfold m8
 by_cases hn:n<0
 rw[if_pos hn,if_pos hn];rfl
 rw[if_neg hn,if_neg hn]
 obtain⟨b,r,rfl,hb⟩:=h.resolve_left hn
 have:=pw hb
 cases f with
 | true=>rfl
 | false=>simp only[Bool.false_eq_true,if_false,List.nil_append];rw[ik,if_neg this.1,if_neg this.2]
theorem dV(n:Int):(if n<0 then -1 else 1)*(n.natAbs:Int)=n:=by
 by_cases h:n<0
 rw[if_pos h];omega
 rw[if_neg h];omega
theorem sN{m:Nat}(h:m<100000000):nDigits m≤8:=ed (k:=7) (by simpa using h)
theorem f2(m:Nat)(l:Str): ∃b r,decDigits m++l=b::r∧gb b=true:=by
 cases h:decDigits m with
 | nil=>exact absurd h (cL m)
 | cons b r=>exact⟨b,r++l,Z,dM m b (by rw[h];simp)⟩
theorem m1(m:Nat):0<(decDigits m).length:=List.length_pos_iff.2 (cL m)
theorem lV{m:Nat}(h:m<100000000){b:UInt8}{r:Str}(hb:gb b=false):bP 8 0 (decDigits m++b::r)=((m:Int),b::r):=by
 rw[jv m 8 0 _ (sN h),fB hb];simp
theorem ni{m:Nat}(h:m<100000000):bP 8 0 (decDigits m)=((m:Int),([]:Str)):=by
 have:=jv m 8 0 [] (sN h)
 rw[List.append_nil]at this
 rw[this,jt];simp
theorem qh{f:Bool}{c:Int}{i:Nat}{r:Str}(hi:i<10)(h0:c≠0)(hc:c.natAbs<100000000):mn (m8 f c++mo c++(fJ i::r))=some (r,some i,c):=by
 have hd: ∃b q,mo c++(fJ i::r)=b::q∧(gb b=true∨nX b=true):=by
  unfold mo
  split
  exact⟨_,_,Z,.inr (hZ hi)⟩
  obtain⟨b,q,h1,h2⟩:=f2 c.natAbs (fJ i::r)
  exact⟨b,q,h1,.inl h2⟩
 unfold mn
 rw[cM,kK (.inr hd) (fun _=>trivial)]
 simp only
 have hr:bP 8 0 (mo c++(fJ i::r))=(if c.natAbs=1 then 0 else(c.natAbs:Int),fJ i::r):=by
  unfold mo
  by_cases h:c.natAbs=1
  rw[if_pos h,if_pos h];exact fB (km hi)
  rw[if_neg h,if_neg h];exact lV hc (km hi)
 rw[hr]
 simp only[hZ hi,if_true,eL hi,Nat.add_sub_cancel_left]
 have e:(if c<0 then -1 else 1)*(if(fJ i::r).length=(mo c++fJ i::r).length then 1 else if c.natAbs=1 then 0 else(c.natAbs:Int))=c:=by
  by_cases h:c.natAbs=1
  have:mo c=[]:=by unfold mo;rw[if_pos h]
  rw[this,if_pos (show(fJ i::r).length=(([]:Str)++fJ i::r).length from Z),Int.mul_one]
  have e2:=dV c;rw[h]at e2;simpa only[Int.natCast_one,Int.mul_one]using e2
  have:mo c=decDigits c.natAbs:=by unfold mo;rw[if_neg h]
  rw[this,if_neg h,if_neg (show¬(fJ i::r).length=(decDigits c.natAbs++fJ i::r).length by have:=m1 c.natAbs;rw[bV];omega)]
  exact dV c
 rw[e]
theorem qi{f:Bool}{c:Int}(h0:c≠0)(hc:c.natAbs<100000000):mn (m8 f c++decDigits c.natAbs)=some ([],none,c):=by
 have hd: ∃b q,decDigits c.natAbs=b::q∧(gb b=true∨nX b=true):=by
  obtain⟨b,q,h1,h2⟩:=f2 c.natAbs []
  rw[List.append_nil]at h1
  exact⟨b,q,h1,.inl h2⟩
 unfold mn
 rw[kK (.inr hd) (fun _=>trivial)]
 simp only
 rw[ni hc]
 simp only
 rw[if_neg (show¬([]:Str).length=(decDigits c.natAbs).length by have:=m1 c.natAbs;simp only[List.length_nil];omega),dV]
def gz:Nat→List Int→List Int→List Int
  | _,[],ys=>ys
  | i,c::r,ys=>gz (i+1) r (de ys i c)
theorem l9{ys:List Int}{i:Nat}:de ys i 0=ys:=by
 unfold de
 rw[Int.add_zero]
 apply List.ext_getElem?
 intro j
 rw[List.getElem?_set]
 split
 rename_i h;subst h
 split
 rename_i h;simp[List.getD_eq_getElem?_getD,h]
 rename_i h;rw[List.getElem?_eq_none (by omega)]
 rfl
theorem jU: ∀(xs:List Int) (i:Nat) (f:Bool) (ys:List Int) (c0:Int) (t:Str),i+xs.length≤10→(∀x∈xs,x.natAbs<100000000)→i6 (pX f i xs++t) ys c0=i6 t (gz i xs ys) c0
 | [],i,f,ys,c0,t,_,_=>rfl
 | c::r,i,f,ys,c0,t,hi,hx=>by
  rw[pX,gz]
  simp only[ep]at hi
  by_cases h:c=0
  rw[if_pos h,jU r (i+1) f ys c0 t (by omega) (fun x hx'=>hx x (List.mem_cons_of_mem _ hx')),h,l9]
  rw[if_neg h,cM,List.cons_append,mO (qh (by omega) h (hx c (List.mem_cons_self ..))),jU r (i+1) true _ c0 t (by omega) (fun x hx'=>hx x (List.mem_cons_of_mem _ hx'))]
theorem rW{c:Int}{xs:List Int}(hl:xs.length≤10)(hx: ∀x∈xs,x.natAbs<100000000)(hc:c.natAbs<100000000)(ys:List Int):i6 (so c xs) ys 0=some (gz 0 xs ys,c):=by
 rw[ot]
 unfold tZ
 by_cases h:pX false 0 xs++pK (ne (pX false 0 xs)) c=[]
 rw[if_pos h]
 obtain⟨h1,h2⟩:=List.append_eq_nil_iff.1 h
 have z0:c=0:=by
  unfold pK at h2
  by_cases h0:c=0
  exact h0
  rw[if_neg h0]at h2
  exact absurd (List.append_eq_nil_iff.1 h2).2 (cL _)
 have hp:=jU xs 0 false ys 0 [] (by omega) hx
 rw[h1,List.append_nil,eJ,eJ]at hp
 have:mn [48]=some ([],none,0):=by decide
 rw[kd this,eJ,z0]
 simp only[dN,Prod.mk.injEq]at hp
 rw[←hp.1];simp
 rw[if_neg h,jU xs 0 false ys 0 _ (by omega) hx]
 unfold pK
 by_cases h0:c=0
 rw[if_pos h0,eJ,h0]
 rw[if_neg h0,kd (qi h0 hc),eJ,Int.zero_add]
end Go.Al
/- Terms as texts, in plain Lean: the reference's reader. -/
namespace Go.Al
variable{L:Nat}(h1:4096≤L)(h2:L≤1073741824)
open Go.Lib
def zr(k:Nat):List Int:=List.replicate k 0
theorem mD(k:Nat):zr (k+1)=0::zr k:=rfl
theorem nz(pre:List Int)(k:Nat)(c:Int):de (pre++zr (k+1)) pre.length c=(pre++[c])++zr k:=by
 unfold de
 rw[mD]
 simp[List.getD_eq_getElem?_getD]
theorem jz: ∀(xs pre:List Int) (k:Nat),xs.length≤k→gz pre.length xs (pre++zr k)=(pre++xs)++zr (k-xs.length)
 | [],pre,k,_=>by simp[gz]
 | c::r,pre,k,h=>by
  simp only[ep]at h
  obtain⟨j,rfl⟩: ∃j,k=j+1:=⟨k-1,by omega⟩
  rw[gz,nz,show pre.length+1=(pre++[c]).length by simp,jz r (pre++[c]) j (by omega)]
  simp[Nat.add_sub_add_right]
theorem po{xs:List Int}(h:xs.length≤10):gz 0 xs (zr 10)=xs++zr (10-xs.length):=by
 have:=jz xs [] 10 h
 simpa using this
def df:Str→List Int→Int→Int→Int→Option (List Int×Int)
  | [],xs,c,n,sg=>some (xs,if 0≤n then sg*n else c)
  | b :: r,xs,c,n,sg=>
    if gb b then(if 2000000<n then none else df r xs c (10*max n 0+(b.toNat-48:Int)) sg)
    else if nX b then df r (xs.set (b.toNat-97) (sg*(if n<0 then 1 else n))) c (-1) sg
    else if b=43∨b=45 then df r xs (if 0≤n then sg*n else c) (-1) (if b=45 then -1 else 1)
    else none
theorem mK{d:Nat}(h:d<10){r:Str}{xs:List Int}{c n sg:Int}(hn:n≤2000000):df (UInt8.ofNat (48+d)::r) xs c n sg=df r xs c (10*max n 0+d) sg:=by
 rw[df,if_pos (by unfold gb;rw[bC h];simp;omega),if_neg (by omega),bC h]
 congr 1;omega
theorem mL(m:Nat): ∀(r:Str) (xs:List Int) (c sg:Int),m<20000000→df (decDigits m++r) xs c (-1) sg=df r xs c m sg:=by
 induction m using Nat.strongRecOn with
 | _ m ih=>
  intro r xs c sg hm
  rw[decDigits]
  by_cases h:m<10
  rw[dif_pos h,List.singleton_append,mK h (by decide)]
  congr 1;omega
  rw[dif_neg h,cM,List.singleton_append,ih (m/10) (by omega) _ _ _ _ (by omega),mK (Nat.mod_lt _ (by decide)) (by omega)]
  congr 1;omega
theorem ql{f:Bool}{n:Int}{r:Str}{xs:List Int}{c sg:Int}(h:f=false→sg=1):df (m8 f n++r) xs c (-1) sg=df r xs c (-1) (if n<0 then -1 else 1)∨(f=false∧0≤n∧m8 f n=[]):=by
 unfold m8
 by_cases hn:n<0
 left
 rw[if_pos hn,if_pos hn,List.singleton_append,df,if_neg (by decide),if_neg (by decide),if_pos (by decide),if_neg (by decide),if_pos Z]
 rw[if_neg hn,if_neg hn]
 cases f with
 | false=>right;exact⟨rfl,by omega,rfl⟩
 | true=>
  left
  rw[if_pos Z,List.singleton_append,df,if_neg (by decide),if_neg (by decide),if_pos (by decide),if_neg (by decide),if_neg (by decide)]
theorem oH{f:Bool}{n:Int}{r:Str}{xs:List Int}{c sg:Int}(h:f=false→sg=1):df (m8 f n++r) xs c (-1) sg=df r xs c (-1) (if n<0 then -1 else 1):=by
 rcases ql (n:=n) (r:=r) (xs:=xs) (c:=c) h with e|⟨hf,hn,e⟩
 exact e
 rw[e,List.nil_append,h hf,if_neg (by omega)]
theorem kY{i:Nat}(h:i<10): ¬gb (fJ i)=true:=by rw[km h];decide
theorem qm{n:Int}{i:Nat}(hi:i<10)(hn:n.natAbs<20000000){r:Str}{xs:List Int}{c sg:Int}:df (mo n++fJ i::r) xs c (-1) sg=df r (xs.set i (sg*n.natAbs)) c (-1) sg:=by
 unfold mo
 by_cases h:n.natAbs=1
 rw[if_pos h,List.nil_append,df,if_neg (kY hi),if_pos (hZ hi),eL hi,Nat.add_sub_cancel_left,h];rfl
 rw[if_neg h,mL _ _ _ _ _ hn,df,if_neg (kY hi),if_pos (hZ hi),eL hi,Nat.add_sub_cancel_left,if_neg (by omega)]
theorem lD: ∀(xs:List Int) (f:Bool) (pre:List Int) (k:Nat) (c sg:Int) (t:Str),xs.length≤k→pre.length+k≤10→(∀x∈xs,x.natAbs<20000000)→(f=false→sg=1)→
    ∃sg',((f||ne (pX f pre.length xs))=false→sg'=1)∧df (pX f pre.length xs++t) (pre++zr k) c (-1) sg=df t ((pre++xs)++zr (k-xs.length)) c (-1) sg'
 | [],f,pre,k,c,sg,t,_,_,_,h=>⟨sg,fun hf=>h (by cases f<;>simp_all[pX,ne]),by simp[pX]⟩
 | x::r,f,pre,k,c,sg,t,hk,hp,hx,h=>by
  simp only[ep]at hk
  obtain⟨j,rfl⟩: ∃j,k=j+1:=⟨k-1,by omega⟩
  have hx2: ∀y∈r,y.natAbs<20000000:=fun y hy=>hx y (List.mem_cons_of_mem _ hy)
  rw[pX]
  by_cases h0:x=0
  rw[if_pos h0]
  obtain⟨sg',h1,h2⟩:=lD r f (pre++[0]) j c sg t (by omega) (by simp;omega) hx2 h
  refine⟨sg',?_,?_⟩
  simpa using h1
  rw[h0]
  simp only[bV,pP,cM,List.singleton_append]at h2 ⊢
  rw[show(pre++zr (j+1))=pre++0::zr j from Z,h2]
  simp[Nat.add_sub_add_right]
  rw[if_neg h0,cM,cM,oH h,cM,List.cons_append,qm (by omega) (hx x (List.mem_cons_self ..)),dV]
  have e:(pre++zr (j+1)).set pre.length x=(pre++[x])++zr j:=by rw[mD];simp
  rw[e]
  obtain⟨sg',h1,h2⟩:=lD r true (pre++[x]) j c (if x<0 then -1 else 1) t (by omega) (by simp;omega) hx2 (by simp)
  refine⟨sg',fun hf=>?_,?_⟩
  simp[ne]at hf
  simp only[bV,pP,cM,List.singleton_append]at h2 ⊢
  rw[h2]
  simp[Nat.add_sub_add_right]
theorem rS{c:Int}{xs:List Int}(hl:xs.length≤10)(hx: ∀x∈xs,x.natAbs<20000000)(hc:c.natAbs<20000000):df (so c xs) (zr 10) 0 (-1) 1=some (xs++zr (10-xs.length),c):=by
 rw[ot]
 unfold tZ
 obtain⟨sg',h1,h2⟩:=lD xs false [] 10 0 1 (if pX false 0 xs++pK (ne (pX false 0 xs)) c=[]then[48]else pK (ne (pX false 0 xs)) c) hl (by simp) hx (fun _=>rfl)
 simp only[List.length_nil,List.nil_append]at h2
 by_cases h:pX false 0 xs++pK (ne (pX false 0 xs)) c=[]
 obtain⟨h3,h4⟩:=List.append_eq_nil_iff.1 h
 rw[if_pos h]
 rw[if_pos h,h3,List.nil_append]at h2
 rw[h2]
 have z0:c=0:=by
  unfold pK at h4
  by_cases h0:c=0
  exact h0
  rw[if_neg h0]at h4
  exact absurd (List.append_eq_nil_iff.1 h4).2 (cL _)
 rw[df,if_pos (by decide),if_neg (by decide),df,z0,show(10*max (-1:Int) 0+(((48:UInt8).toNat:Int)-48))=0 from by decide]
 simp
 rw[if_neg h]at h2 ⊢
 rw[h2]
 unfold pK
 by_cases h0:c=0
 rw[if_pos h0,df,h0];simp
 rw[if_neg h0,oH (fun hf=>h1 (by simpa using hf)),←List.append_nil (decDigits _),mL _ _ _ _ _ hc,df,if_pos (by omega),dV]
end Go.Al
/- Sequents as texts, in plain Lean: cutting and splitting; both readers accept just the written sequents. -/
namespace Go.Al
variable{L:Nat}(h1:4096≤L)(h2:L≤1073741824)
open Go.Lib
def bO(c:UInt8):Str→List Str
  | []=>[[]]
  | b::r=>if b=c then[]::bO c r else(b::(bO c r).headD [])::(bO c r).tail
theorem rK(c:UInt8)(s:Str):bO c s≠[]:=by
 cases s with
 | nil=>simp[bO]
 | cons b r=>rw[bO];split<;>simp
theorem eW(c b:UInt8)(l:Str):index (b::l) [c]=if b=c then 0 else if index l [c]= -1 then -1 else index l [c]+1:=by
 rw[index]
 by_cases h:b=c
 subst h;simp
 have h2:([c].isPrefixOf (b::l))=false:=by simp[List.isPrefixOf,Ne.symm h]
 rw[h2,if_neg h];simp
theorem jT(c:UInt8): ∀s:Str,split s [c]=bO c s
 | []=>by
  have:index ([]:Str) [c]= -1:=rfl
  unfold split
  rw[count_miss this];rfl
 | b::l=>by
  have ih:=jT c l
  unfold split at ih ⊢
  have hi:=eW c b l
  by_cases h:b=c
  rw[if_pos h]at hi
  rw[count_hit (i:=0) (by simp) (by rw[hi];rfl),Nat.add_comm 1,splitK,hi,bO,if_pos h]
  simp only[show((0:Int)== -1)=false from Z]
  simp only[Bool.false_eq_true,if_false]
  simp[ih]
  rw[if_neg h]at hi
  rw[bO,if_neg h]
  by_cases h2:index l [c]= -1
  rw[if_pos h2]at hi
  rw[count_miss hi]
  rw[count_miss h2]at ih
  rw[←ih];rfl
  rw[if_neg h2]at hi
  have hge:=index_ge l [c]
  obtain⟨i,hi2⟩: ∃i:Nat,index l [c]=i:=⟨(index l [c]).toNat,by omega⟩
  rw[hi2]at hi
  rw[count_hit (i:=i) (by simp) hi2,Nat.add_comm 1,splitK,hi2]at ih
  rw[count_hit (i:=i+1) (by simp) (by rw[hi];rfl),Nat.add_comm 1,splitK,hi]
  have e1:((i:Int)== -1)=false:=by rw[beq_eq_false_iff_ne];omega
  have e2:(((i:Int)+1)== -1)=false:=by rw[beq_eq_false_iff_ne];omega
  rw[e1]at ih
  rw[e2]
  simp only[Bool.false_eq_true,if_false,Int.toNat_natCast,Nat.add_zero]at ih ⊢
  rw[←ih]
  have e3:((i:Int)+1).toNat=i+1:=by omega
  simp[e3]
theorem fO{c:UInt8}: ∀{p:Str} (r:Str),c ∉ p→bO c (p++c::r)=p::bO c r
 | [],r,_=>by rw[List.nil_append,bO,if_pos Z]
 | b::p,r,h=>by
  rw[List.cons_append,bO,if_neg (fun e=>h (by rw[e];exact List.mem_cons_self ..)),fO r (fun hh=>h (List.mem_cons_of_mem _ hh))]
  rfl
def bb(c:UInt8):List Str→Str
  | []=>[]
  | p::r=>p++c::bb c r
theorem eu(c:UInt8): ∀s:Str,∃ps q,bO c s=ps++[q]∧s=bb c ps++q∧c ∉ q∧∀p∈ps,c ∉ p
 | []=>⟨[],[],rfl,rfl,by simp,by simp⟩
 | b :: r=>by
  obtain⟨ps,q,h1,h2,h3,h4⟩:=eu c r
  rw[bO]
  by_cases h:b=c
  rw[if_pos h,h1]
  exact⟨[]::ps,q,Z,by rw[h2,h];rfl,h3,by simpa using h4⟩
  rw[if_neg h,h1]
  cases ps with
  | nil=>exact⟨[],b::q,Z,by rw[h2];rfl,by simp only[List.mem_cons,not_or];exact⟨Ne.symm h,h3⟩,by simp⟩
  | cons p ps=>
   refine⟨(b::p)::ps,q,Z,by rw[h2];rfl,h3,?_⟩
   intro x hx
   rcases List.mem_cons.1 hx with rfl|hx
   simp only[List.mem_cons,not_or];exact⟨Ne.symm h,h4 p (List.mem_cons_self ..)⟩
   exact h4 x (List.mem_cons_of_mem _ hx)
abbrev bz:Str:=[61,62]
section
variable{T:Type}(tx:T→Str)(ok:T→Bool)(rd:Str→Option T)
variable{tx ok rd}
theorem jJ(c:UInt8): ∀{ps:List Str},ps≠[]→(bb c ps).getLast? = some c
 | [],h=>absurd Z h
 | [p],_=>by simp[bb]
 | p::q::r,_=>by
  have:=jJ c (ps:=q::r) (by simp)
  rw[bb]
  rw[List.getLast?_append,List.getLast?_cons,this];simp
end
end Go.Al
/- Terms and sequents as texts: what both readers accept. -/
namespace Go.Al
variable{L:Nat}(h1:4096≤L)(h2:L≤1073741824)
open Go.Lib
abbrev tS(t:Tm):Str:=so t.c t.xs
theorem j6{xs:List Int}: ∀k,bL (xs++zr k)=bL xs
 | 0=>by simp[zr]
 | k+1=>by
  have:zr (k+1)=zr k++[0]:=List.replicate_succ'
  rw[this,←cM,jk,j6 k]
theorem mF{t:Tm}(h:t.ok=true):bL t.xs=t.xs:=by
 have h1:=(vo.1 h).2.2.2
 have:=gm (xs:=t.xs) (n:=t.xs.length) (bH _) (by
  rcases h1 with h1|h1
  · left;rw[h1];rfl
  · exact .inr h1)
 simpa using this
theorem mV{n:Int}(h:gv n=true):n.natAbs≤1000000:=by
 have:=uk.1 h;omega
theorem ip{t:Tm}(h:t.ok=true):t.c.natAbs≤1000000∧(∀x∈t.xs,x.natAbs≤1000000)∧t.xs.length≤10:=by
 obtain⟨h1,h2,h3,_⟩:=vo.1 h
 exact⟨mV h1,fun x hx=>mV (List.all_eq_true.1 h2 x hx),h3⟩
def e8(s:Str):Option Tm:=match i6 s (zr 10) 0 with
  | none=>none
  | some x=>if(Tm.mk x.2 (bL x.1)).ok=true∧tS ⟨x.2,bL x.1⟩=s then some ⟨x.2,bL x.1⟩else none
theorem mN(s:Str)(t:Tm):e8 s=some t↔t.ok=true∧s=tS t:=by
 unfold e8
 constructor
 intro h
 split at h
 cases h
 split at h
 rename_i hc
 cases h
 exact⟨hc.1,hc.2.symm⟩
 cases h
 rintro⟨h1,rfl⟩
 obtain⟨h2,h3,h4⟩:=ip h1
 rw[rW h4 (fun x hx=>by have:=h3 x hx;omega) (by omega),po h4]
 simp only
 rw[j6,mF h1,if_pos ⟨h1,rfl⟩]
def nR(s:Str):Option Tm:=match df s (zr 10) 0 (-1) 1 with
  | none=>none
  | some x=>if(i7 x.2 x.1).2=true∧tS (i7 x.2 x.1).1=s then some (i7 x.2 x.1).1 else none
theorem mJ(s:Str)(t:Tm):nR s=some t↔t.ok=true∧s=tS t:=by
 unfold nR
 constructor
 intro h
 split at h
 cases h
 split at h
 rename_i hc
 cases h
 exact⟨oQ hc.1,hc.2.symm⟩
 cases h
 rintro⟨h1,rfl⟩
 obtain⟨h2,h3,h4⟩:=ip h1
 rw[rS h4 (fun x hx=>by have:=h3 x hx;omega) (by omega)]
 simp only
 have:i7 t.c (t.xs++zr (10-t.xs.length))=(t,true):=by
  unfold i7
  rw[j6,mF h1,if_pos h1]
 rw[this,if_pos ⟨rfl,rfl⟩]
theorem eN{m:Nat}(h:m≤1000000):(decDigits m).length≤7:=by
 rw[decDigits_eq,bl,List.length_range]
 exact ed (k:=6) (by omega)
theorem rI{out:Str}{i:Nat}{c:Int}(h:c.natAbs≤1000000):(tC out i c).length≤out.length+9:=by
 unfold tC
 split
 omega
 have h1:(cZ out c).length≤1:=by
  unfold cZ
  split
  simp
  split<;>simp
 have h2:(if c.natAbs=1 then[]else decDigits c.natAbs).length≤7:=by
  split
  simp
  exact eN h
 simp only[bV,pP];omega
theorem ow: ∀{xs:List Int} {i:Nat} {out:Str},(∀x∈xs,x.natAbs≤1000000)→(tX i xs out).length≤out.length+9*xs.length
 | [],i,out,_=>by simp[tX]
 | c::r,i,out,h=>by
  rw[tX]
  have h1:=ow (i:=i+1) (out:=tC out i c) (fun x hx=>h x (List.mem_cons_of_mem _ hx))
  have h2:=rI (out:=out) (i:=i) (h c (List.mem_cons_self ..))
  simp only[ep];omega
theorem j7: ∀(xs:List Int) (i:Nat) (c:Int) (out:Str),tX i (xs++[c]) out=tC (tX i xs out) (i+xs.length) c
 | [],i,c,out=>by simp[tX]
 | x::r,i,c,out=>by
  rw[List.cons_append,tX,j7 r,tX,ep,show i+1+r.length=i+(r.length+1) by omega]
theorem rG{out:Str}{c:Int}(h:c.natAbs≤1000000):(tK out c).length≤out.length+8:=by
 unfold tK
 split
 omega
 have h1:(cZ out c).length≤1:=by
  unfold cZ
  split
  simp
  split<;>simp
 have h2:=eN h
 simp only[bV];omega
abbrev aS8(s:Str):A:=.c (.d (sD s))
theorem m2{m:Nat}(h:m<100000000000000000000):(Lib.decDigits m).length≤20:=by
 rw[Lib.decDigits_eq,bl,List.length_range]
 exact ed (k:=19) (by omega)
def gX(m:Int):Str:=if m<0 then Lib.decDigits m.natAbs else[]
theorem ov{m:Int}(h:m<0):m.tdiv 10= -((m.natAbs/10:Nat):Int)∧m.tmod 10= -((m.natAbs%10:Nat):Int):=by
 obtain⟨k,hk⟩: ∃k:Nat,m= -(k:Int):=⟨m.natAbs,by omega⟩
 subst hk
 rw[Int.neg_tdiv,Int.neg_tmod,Int.natAbs_neg,Int.natAbs_natCast]
 exact⟨by rw[show(10:Int)=((10:Nat):Int)from Z,←Int.ofNat_tdiv],by rw[show(10:Int)=((10:Nat):Int)from Z,←Int.ofNat_tmod]⟩
theorem nk{m:Int}(h:m<0):gX m=gX (m.tdiv 10)++[UInt8.ofNat (48-m.tmod 10).toNat]:=by
 have e1:(m.tdiv 10).natAbs=m.natAbs/10:=by rw[Int.natAbs_tdiv];rfl
 have h3:=ov h
 have e2:(48-m.tmod 10).toNat=48+m.natAbs%10:=by omega
 unfold gX
 rw[if_pos h,Lib.decDigits,e1,e2]
 by_cases h2:m.natAbs<10
 rw[dif_pos h2,if_neg (by omega),Nat.mod_eq_of_lt h2];rfl
 rw[dif_neg h2,if_pos (by omega)]
theorem pz{n:Int}(h:0<n):Lib.itoa n=gX (-n):=by
 unfold Lib.itoa gX
 rw[if_neg (by omega),if_pos (by omega)]
 congr 1;omega
theorem nr:Lib.itoa 0=[48]:=by
 unfold Lib.itoa
 rw[if_neg (by decide),Lib.decDigits,dif_pos (by decide)];rfl
theorem pA{n:Int}(h:n<0):Lib.itoa n=45::gX n:=by
 unfold Lib.itoa gX
 rw[if_pos h,if_pos h]
theorem kP{n:Int}(h: -9223372036854775808≤n):(gX n).length≤20:=by
 unfold gX
 split
 exact m2 (by omega)
 simp
theorem mE{n:Int}(h0:0≤n)(h1:n≤255):IntKind.u8.wrap n=n:=dE _ _ h0 h1
theorem rE{n:Int}(h0:0≤n)(h1:n≤255):((UInt8.ofNat n.toNat).toNat:Int)=n:=by
 rw[UInt8.toNat_ofNat'];omega
variable{n:Int}
theorem oq(hn0: -9223372036854775807≤n)(hn1:n≤9223372036854775807):MQ h1 h2 92 [eI n] [] (Plain (aS8 (Lib.itoa n))):=by
 refine am ?_ Z
 refine jB 29 h1 h2 Tryz.func92 Z fun O hF=>?_
 refine af (js Z (jn (ag (af (ac Z (jn (ak Z (fun z6=>?_) (fun z6=>?_))))))))
 refine af (js Z (jr ?_))
 refine aw Z ?_
 have h0:n=0:=bJ z6
 rw[h0,nr];rfl
 refine ae (af (ac Z (jf [3,5,2,0] Z (jn (ag (af (ac Z (jn ?_))))))))
 have hne:n≠0:=ck z6
 obtain⟨N,hN⟩: ∃N:Int,N=if 0<n then -n else n:=⟨_,rfl⟩
 have hN2:N<0∧ -9223372036854775808≤N:=by rw[hN];split<;>omega
 refine bu ⟨[(0,eI n),(3,eI N)],[]⟩ ?_ ?_
 refine ak Z (fun z9=>?_) (fun z9=>?_)
 refine aa (js Z (ji Z (js Z (jf [3,8,5,2,0] Z (jn ?_)))))
 exact⟨Z,Ent.to ⟨Z,congrArg (fun z=>some (eI z)) (show 0-n=N by rw[hN,if_pos (bJ z9)];omega),ao⟩ Z⟩
 refine ae ?_
 exact⟨Z,Ent.to ⟨Z,congrArg (fun z=>some (eI z)) (show n=N by rw[hN,if_neg (ck z9)]),ao⟩ Z⟩
 refine af (js Z (jn (ag (ap (av (X:=Int×Str) (fun z=>⟨[(0,eI n),(3,eI z.1),(4,aS8 z.2)],[]⟩) (fun z=>z.1≤0∧ -9223372036854775808≤z.1∧gX N=gX z.1++z.2) (fun z=>z.1.natAbs) (N,[]) (Ent.to ⟨Z,Z,Z,ao⟩ Z) ?_ (fun z hi=>?_))))))
 exact⟨by show N≤0;omega,hN2.2,by simp⟩
 refine ag (af (ac Z (jn (ak Z (fun z13=>?_) (fun z13=>?_)))))
 refine ae (ap (af (js Z ?_)))
 have hz:z.1<0:=bJ z13
 have h3:=ov hz
 have hr: -9≤z.1.tmod 10∧z.1.tmod 10≤0:=by omega
 have hlen:z.2.length≤20:=by have h:=kP hN2.2;rw[hi.2.2,bV]at h;omega
 refine ab (nD O Z Z Z Z (by decide) (by omega) (by omega)) Z (ab (aB O Z Z (by omega) (by omega)) Z (ab ((Val.conv (b:=true) (dt:=.int .i64) O Z Z Z (by kernel_rfl) (by kernel_rfl)).cast (v':=.c (.d (.int .u8 ((UInt8.ofNat (48-z.1.tmod 10).toNat).toNat:Int)))) (by rw[mE (by omega) (by omega),rE (by omega) (by omega)])) Z (jf [17,13,12,0,3,4] Z (bU (di O Z Z Z Z Z Z Z Z Z Z Z) Z (aI ?_)))))
 refine ab (iT (p:=[UInt8.ofNat (48-z.1.tmod 10).toNat]) O Z Z Z (.whole Z Z (.inl (k5 _))) Z Z (by kernel_rfl) (by kernel_rfl)) Z (js Z (ab (aJ (p:=[UInt8.ofNat (48-z.1.tmod 10).toNat]) (q:=z.2) O Z Z Z Z Z Z (by show 1+z.2.length≤L;omega) (by show L≤_;omega)) Z (js Z (jf [4,13,12,0,3] Z (jn (aa (js Z (ab (nE O Z Z Z Z (by decide) (by omega) (by omega)) Z (js Z (jf [3,4,13,12,0] Z (jn ?_)))))))))))
 refine⟨(z.1.tdiv 10,UInt8.ofNat (48-z.1.tmod 10).toNat::z.2),(aD [] (e':=[(0,_),(3,_),(4,_)]) Z Z ⟨Z,Z,Z,ao⟩ Z),⟨by show z.1.tdiv 10≤0;omega,by show -9223372036854775808≤z.1.tdiv 10;omega,?_⟩,by show(z.1.tdiv 10).natAbs<z.1.natAbs;omega⟩
 rw[hi.2.2,nk hz];simp
 refine aR (ag (af (js Z ?_)))
 have hz0:z.1=0:=by have:=ck z13;omega
 have hp:=hi.2.2
 rw[hz0,show gX 0=[]from Z,List.nil_append]at hp
 have hlen:z.2.length≤20:=by have h:=kP hN2.2;rw[hp]at h;exact h
 refine js Z (jn (ak Z (fun z25=>?_) (fun z25=>?_)))
 refine af (js Z (ab (aJ (p:=[45]) (q:=z.2) O Z Z Z Z Z Z (by show 1+z.2.length≤L;omega) (by show L≤_;omega)) Z (js Z (jf [2,25,24,13,12,0,3,4] Z (jr ?_)))))
 refine aw Z ?_
 have hn:n<0:=bJ z25
 rw[pA hn,show n=N by rw[hN,if_neg (by omega)],hp];rfl
 refine ae (af (ac Z (jr ?_)))
 refine aw Z ?_
 have hn: ¬n<0:=ck z25
 rw[pz (by omega),show -n=N by rw[hN,if_pos (by omega)],hp]
def oI(t:Tm)(i:Nat):Str:=if i≤t.xs.length then tX 0 (t.xs.take i) []else tK (tX 0 t.xs []) t.c
def oS(o:Str)(n:Int)(nm:Str):Str:=if n=0 then o else o++cZ o n++(if n.natAbs=1∧nm≠[]then[]else Lib.decDigits n.natAbs)++nm
theorem r5{t:Tm}{i:Nat}(h:i<t.xs.length):oI t (i+1)=oS (oI t i) (t.xs.getD i default) [fJ i]:=by
 unfold oS
 rw[show oI t (i+1)=tX 0 (t.xs.take (i+1)) []from if_pos (by omega),show oI t i=tX 0 (t.xs.take i) []from if_pos (by omega),List.take_succ_eq_append_getElem h,j7,List.length_take,Nat.min_eq_left (by omega),Nat.zero_add,getD_lt h]
 unfold tC
 simp
theorem r6{t:Tm}:oI t (t.xs.length+1)=oS (oI t t.xs.length) t.c []:=by
 unfold oS
 rw[show oI t (t.xs.length+1)=tK (tX 0 t.xs []) t.c from if_neg (by omega),show oI t t.xs.length=tX 0 (t.xs.take t.xs.length) []from if_pos (bH _),List.take_length]
 unfold tK
 simp
theorem iA{o:Str}{n:Int}:(cZ o n).length≤1:=by
 unfold cZ
 split
 simp
 split<;>simp
theorem dR(a:Nat):Lib.itoa (a:Int)=Lib.decDigits a:=by
 unfold Lib.itoa
 rw[if_neg (by omega),Int.toNat_natCast]
theorem qT{t:Tm}:tS t=tZ (oI t (t.xs.length+1)):=by
 unfold oI;rw[if_neg (by omega)];rfl
theorem rc{t:Tm}(ht:t.ok=true):MQ h1 h2 55 [ptr t.cells] [] (Plain (aS8 (tS t))):=by
 refine am ?_ Z
 refine jB 67 h1 h2 Tryz.func55 Z fun O hF=>?_
 obtain⟨z6,hx6,hl10⟩:=ip ht
 have hl:t.xs.length≤L:=by omega
 refine af (js Z (bq (js Z (jn (ag (af (js Z (jn (ap (av (X:=Nat×Str) (fun z=>⟨[(0,ptr t.cells),(3,aS8 z.2),(4,eI (z.1:Nat))],[]⟩) (fun z=>z.1≤t.xs.length+1∧z.2=oI t z.1∧z.2.length≤9*z.1) (fun z=>t.xs.length+1-z.1) (0,[]) (Ent.to ⟨Z,Z,Z,ao⟩ Z) ?_ (fun z hi=>?_)))))))))))
 exact⟨cN _,by show[]=oI t 0;unfold oI;simp[tX],bH _⟩
 refine ag (af (bn Z (js Z ?_)))
 first|refine db Z ?_|refine js Z ?_|refine be Z Z ?_
 refine js Z (jf [13,0,3,4] Z (jn (ak Z (fun z13=>?_) (fun z13=>?_))))
 refine ae (ag (ap (af (bn Z (js Z (jf [5,13,0,3,4] Z (bq (js Z (jn (ag (af (bn Z (js Z ?_)))))))))))))
 first|refine db Z ?_|refine js Z ?_|refine be Z Z ?_
 refine js Z (jf [26,6,5,13,0,3,4] Z (jn ?_))
 have hz1:z.1≤t.xs.length:=by have:=bJ z13;omega
 obtain⟨n,nm,hn1,hn2⟩: ∃(n:Int) (nm:Str),(z.1<t.xs.length→n=t.xs.getD z.1 default∧nm=[fJ z.1])∧(¬z.1<t.xs.length→n=t.c∧nm=[]):=by
  by_cases h:z.1<t.xs.length
  exact⟨_,_,fun _=>⟨Z,Z⟩,fun h2=>absurd h h2⟩
  exact⟨_,_,fun h2=>absurd h2 h,fun _=>⟨Z,Z⟩⟩
 have hstep:oI t (z.1+1)=oS z.2 n nm:=by
  rw[hi.2.1]
  by_cases h:z.1<t.xs.length
  rw[(hn1 h).1,(hn1 h).2,r5 h]
  rw[(hn2 h).1,(hn2 h).2,show z.1=t.xs.length by omega,r6]
 have hna:n.natAbs≤1000000∧nm.length≤1:=by
  by_cases h:z.1<t.xs.length
  rw[(hn1 h).1,(hn1 h).2,getD_lt h];exact⟨hx6 _ (List.getElem_mem h),by simp⟩
  rw[(hn2 h).1,(hn2 h).2];exact⟨z6,by simp⟩
 refine bu ⟨[(0,ptr t.cells),(3,aS8 z.2),(4,eI (z.1:Nat)),(5,eI n),(6,aS8 nm)],[]⟩ ?_ ?_
 refine ak Z (fun z26=>?_) (fun z26=>?_)
 refine af ?_
 have hc26t:z.1<t.xs.length:=by have:=bJ z26;omega
 refine bn Z (js Z ?_)
 first|refine qQ Z Z ?_|refine kB Z Z ?_|refine be Z Z ?_
 refine ac Z (jf [5,26,6,13,0,3,4] Z (jn (aa (js Z ?_))))
 first|refine ji Z ?_|refine be Z Z ?_
 refine ab ((Val.conv (b:=true) (dt:=.int .i64) O Z Z Z (by kernel_rfl) (by kernel_rfl)).cast (v':=.c (.d (.int .u8 ((fJ z.1).toNat:Int)))) (by rw[mE (by omega) (by omega),eL (by omega)];rfl)) Z (jf [36,5,26,6,13,0,3,4] Z (bU (di O Z Z Z Z Z Z Z Z Z Z Z) Z (aI ?_)))
 refine ab (iT (p:=[fJ z.1]) O Z Z Z (.whole Z Z (.inl (k5 _))) Z Z (by kernel_rfl) (by kernel_rfl)) Z (js Z (jf [6,5,26,13,0,3,4] Z (jn ?_)))
 exact⟨Z,(aD [] (e':=[(0,_),(3,_),(4,_),(5,_),(6,_)]) Z Z ⟨Z,Z,Z,Z,Z,ao⟩ Z).trans (Ent.to ⟨Z,Z,Z,congrArg (fun z=>some (eI z)) ((hn1 hc26t).1.symm),congrArg (fun s=>some (aS8 s)) ((hn1 hc26t).2.symm),ao⟩ Z)⟩
 refine ae ?_
 have hc26t: ¬z.1<t.xs.length:=by have:=ck z26;omega
 exact⟨Z,(aD [] (e':=[(0,_),(3,_),(4,_),(5,_),(6,_)]) Z Z ⟨Z,Z,Z,Z,Z,ao⟩ Z).trans (Ent.to ⟨Z,Z,Z,congrArg (fun z=>some (eI z)) ((hn2 hc26t).1.symm),congrArg (fun s=>some (aS8 s)) ((hn2 hc26t).2.symm),ao⟩ Z)⟩
 refine ag (af (ac Z (jn (ak Z (fun z40=>?_) (fun z40=>?_)))))
 refine aR (aa (js Z ?_))
 first|refine ji Z ?_|refine be Z Z ?_
 refine js Z (jf [4,40,39,0,3,5,6] Z (jn ?_))
 have hst:oI t (z.1+1)=z.2:=by rw[hstep];unfold oS;rw[if_pos (bJ z40)]
 refine⟨(z.1+1,z.2),(aD [] (e':=[(0,_),(3,_),(4,_)]) Z Z ⟨Z,Z,Z,ao⟩ Z),⟨by show z.1+1≤_;omega,hst.symm,by show z.2.length≤9*(z.1+1);omega⟩,by show t.xs.length+1-(z.1+1)<t.xs.length+1-z.1;omega⟩
 refine ae (ag (af (ac Z (jn ?_))))
 obtain⟨o2,ho2⟩: ∃o,o=z.2++cZ z.2 n:=⟨_,rfl⟩
 obtain⟨a,ha⟩: ∃a:Nat,a=n.natAbs:=⟨_,rfl⟩
 have hzl:z.2.length≤99:=by have:=hi.2.2;omega
 have h2l:o2.length≤z.2.length+1:=by have:=iA (o:=z.2) (n:=n);rw[ho2,bV];omega
 refine bu ⟨[(0,ptr t.cells),(3,aS8 o2),(4,eI (z.1:Nat)),(5,eI (a:Nat)),(6,aS8 nm)],[]⟩ ?_ ?_
 refine ak Z (fun z42=>?_) (fun z42=>?_)
 refine af (js Z (ab (aJ (p:=z.2) (q:=[45]) O Z Z Z Z Z Z (by show z.2.length+1≤L;omega) (by show L≤_;omega)) Z (js Z (jf [3,42,41,40,39,0,4,5,6] Z (jn (aa (js Z (ji Z (js Z (jf [5,3,42,41,40,39,0,4,6] Z (jn ?_)))))))))))
 exact⟨Z,(aD [] (e':=[(0,_),(3,_),(4,_),(5,_),(6,_)]) Z Z ⟨Z,Z,Z,Z,Z,ao⟩ Z).trans (Ent.to ⟨Z,congrArg (fun s=>some (aS8 s)) (show z.2++[45]=o2 by rw[ho2];unfold cZ;rw[if_pos (bJ z42)]),Z,congrArg (fun z=>some (eI z)) (show 0-n=(a:Int) by have:=bJ z42;omega),Z,ao⟩ Z)⟩
 refine af (js Z (ab (cH (p:=z.2) (q:=[]) O Z Z Z Z Z Z) Z (jn (ak Z (fun z48=>?_) (fun z48=>?_)))))
 refine aa (js Z (ab (aJ (p:=z.2) (q:=[43]) O Z Z Z Z Z Z (by show z.2.length+1≤L;omega) (by show L≤_;omega)) Z (js Z (jf [3,48,47,42,41,40,39,0,4,5,6] Z (jn ?_)))))
 exact⟨Z,(aD [] (e':=[(0,_),(3,_),(4,_),(5,_),(6,_)]) Z Z ⟨Z,Z,Z,Z,Z,ao⟩ Z).trans (Ent.to ⟨Z,congrArg (fun s=>some (aS8 s)) (show z.2++[43]=o2 by rw[ho2];unfold cZ;rw[if_neg (ck z42),if_neg (by simpa using z48)]),Z,congrArg (fun z=>some (eI z)) (show n=(a:Int) by have:=ck z42;omega),Z,ao⟩ Z)⟩
 refine ae ?_
 exact⟨Z,(aD [] (e':=[(0,_),(3,_),(4,_),(5,_),(6,_)]) Z Z ⟨Z,Z,Z,Z,Z,ao⟩ Z).trans (Ent.to ⟨Z,congrArg (fun s=>some (aS8 s)) (show z.2=o2 by rw[ho2];unfold cZ;rw[if_neg (ck z42),if_pos (by simpa using z48),List.append_nil]),Z,congrArg (fun z=>some (eI z)) (show n=(a:Int) by have:=ck z42;omega),Z,ao⟩ Z)⟩
 refine ag (af (aZ Z (jf [53,0,3,4,5,6] Z (ay 2 Z Z Z (fun hx=>au hx Z (bE hx (Val.seq (p:=nm) (q:=[]) O Z Z Z Z Z Z) Z (AN.nil))) Z Z ?_))))
 first|refine ab (aq O Z Z Z Z Z) Z ?_|refine ab (Val.pickB O Z Z Z Z Z) Z ?_|refine ab (aj O Z Z Z Z Z) Z ?_
 refine jf [56,0,3,4,5,6] Z (jn ?_)
 obtain⟨o3,ho3⟩: ∃o,o=o2++(if a=1∧nm≠[]then[]else Lib.decDigits a):=⟨_,rfl⟩
 have hdl:(Lib.decDigits a).length≤7:=eN (by omega)
 have h3l:o3.length≤o2.length+7:=by rw[ho3,bV];split<;>simp<;>omega
 refine bu ⟨[(0,ptr t.cells),(3,aS8 o3),(4,eI (z.1:Nat)),(5,eI (a:Nat)),(6,aS8 nm)],[]⟩ ?_ ?_
 refine ak Z (fun z56=>?_) (fun z56=>?_)
 refine aa (ac Z (aW Z (oq (n:=(a:Int)) h1 h2 (by omega) (by omega)) 60000 Z (ab (aJ (p:=o2) (q:=Lib.itoa (a:Int)) O Z Z Z Z Z Z (by rw[dR];show o2.length+(Lib.decDigits a).length≤L;omega) (by show L≤_;omega)) Z (js Z (jf [3,56,0,4,5,6] Z (jn ?_))))))
 exact⟨rfl,(aD [] (e':=[(0,_),(3,_),(4,_),(5,_),(6,_)]) rfl rfl ⟨rfl,rfl,rfl,rfl,rfl,ao⟩ rfl).trans (Ent.to ⟨rfl,congrArg (fun s=>some (aS8 s)) (show o2++Lib.itoa (a:Int)=o3 by rw[ho3,dR,if_neg];rintro⟨e1,e2⟩;revert z56;simp[e1,e2]),rfl,rfl,rfl,ao⟩ rfl)⟩
 refine ae ?_
 exact⟨rfl,(aD [] (e':=[(0,_),(3,_),(4,_),(5,_),(6,_)]) rfl rfl ⟨rfl,rfl,rfl,rfl,rfl,ao⟩ rfl).trans (Ent.to ⟨rfl,congrArg (fun s=>some (aS8 s)) (show o2=o3 by rw[ho3,if_pos,List.append_nil];revert z56;cases h:decide ((a:Int)=1)<;>simp_all<;>omega),rfl,rfl,rfl,ao⟩ rfl)⟩
 refine aa (ac Z (ab (aJ (p:=o3) (q:=nm) O Z Z Z Z Z Z (by show o3.length+nm.length≤L;omega) (by show L≤_;omega)) Z (js Z (jf [3,0,4,5,6] Z (jn (aa (js Z ?_)))))))
 first|refine ji Z ?_|refine be Z Z ?_
 refine js Z (jf [4,3,0,5,6] Z (jn ?_))
 refine⟨(z.1+1,o3++nm),(aD [] (e':=[(0,_),(3,_),(4,_)]) Z Z ⟨Z,Z,Z,ao⟩ Z),⟨by show z.1+1≤_;omega,?_,by show(o3++nm).length≤9*(z.1+1);rw[bV];omega⟩,by show t.xs.length+1-(z.1+1)<t.xs.length+1-z.1;omega⟩
 show o3++nm=oI t (z.1+1)
 rw[hstep,ho3,ho2,ha]
 unfold oS
 rw[if_neg (ck z40)]
 refine aR (ag (af ?_))
 have hz1:z.1=t.xs.length+1:=by have:=ck z13;omega
 have ho:=hi.2.1
 rw[hz1]at ho
 refine js Z (ab (Val.seq (p:=z.2) (q:=[]) O Z Z Z Z Z Z) Z (jn (ak Z (fun z65=>?_) (fun z65=>?_))))
 refine af (js Z (jr ?_))
 refine aw Z ?_
 rw[qT,←ho]
 unfold tZ
 rw[if_pos (bJ z65)];rfl
 refine ae (af (ac Z (jr ?_)))
 refine aw Z ?_
 rw[qT,←ho]
 unfold tZ
 rw[if_neg (ck z65)]
end Go.Al
/- What three functions of Go's library answer, as contracts of the abstract logic. -/
namespace Go.Al
variable{L:Nat}(h1:4096≤L)(h2:L≤1073741824)
theorem l4{w:World}{k:Nat}{os:Array Obj}:Frame w (Go.Sort.grow (w.drewN k) os) []:=by
 refine⟨Z,Z,Z,?_,fun b hb _=>?_⟩
 show w.heap.size≤(w.heap++os).size
 rw[Array.size_append];omega
 show(w.heap++os)[b]? = w.heap[b]?
 exact Array.getElem?_append_left hb
theorem iy{P:Program}{L f:Nat}{args:List A}{v:A}(hc:dU P f)
    (h: ∀(w:World) (ok:Nat→Prop) (m:Nat→Loc) (vs:List Value),GOk P w ok→RAs L w ok m args vs→Calls P f vs.toArray w (ij fun x w'=>Frame w w' []∧∀ok' m',(∀b,w.heap.size≤b→ok' b)→RA L w' ok' m' v x)):MC P L f args [] (Plain v):=by
 refine⟨hc,fun w m F ok vs h0 h1 h2 h3 h4 h5=>?_⟩
 cases h1
 refine Calls.mono (h w ok m vs h0 h5) fun e w' he=>?_
 cases e with
 | returned x=>
  obtain⟨hf,hx⟩:=he
  exact⟨v,[],m,[],⟨Z,Z⟩,.nil,List.nodup_nil,(by simp),hx _ _ (fun b hb=>⟨by simp,.inr (.inl hb)⟩),hf,fun _ _ _=>rfl,h4⟩
 | _=>exact he
theorem RA.str_inv{L w ok m}{s:ByteArray}{x:Value}(h:RA L w ok m (.c (.d (.str s))) x):x= .string s∧s.size≤L:=by
 cases h with|c h=>cases h with|d h=>cases h with|str h=>exact⟨rfl,h⟩
theorem gP{L w ok m}{k:IntKind}{n:Int}{x:Value}(h:RA L w ok m (.c (.d (.int k n))) x):x= .int k n:=by
 cases h with|c h=>cases h with|d h=>cases h with|int h1 h2=>rfl
theorem GOk.tab{P:Program}{w:World}{ok:Nat→Prop}(h:GOk P w ok){g:Nat}(hg:P.globalNamed "internal/strconv.uint64pow10" = some g):Lib.TabIs P w "internal/strconv.uint64pow10" .u64 Lib.pow10Tab:=by
 obtain⟨_,cs,h1,h2⟩:=h "internal/strconv.uint64pow10" g (by simp[GN]) hg
 rw[GF.tab h2 Z]at h1
 exact h1
theorem GOk.maxLen{P:Program}{w:World}{ok:Nat→Prop}(h:GOk P w ok){g:Nat}(hg:P.globalNamed "internal/bytealg.MaxLen" = some g): ∃m,w.cell? ⟨g,0,none⟩=some (.int .i64 m):=by
 obtain⟨_,cs,h1,h2⟩:=h "internal/bytealg.MaxLen" g (by simp[GN]) hg
 obtain⟨m,hm⟩:=GF.len h2 rfl
 refine⟨m,?_⟩
 unfold World.var? at h1
 rw[hg,Option.bind_some]at h1
 split at h1
 rename_i cs' _ _ hb
 cases h1
 simp[World.cell?,hb,hm]
 cases h1
variable{n:Int}
theorem tV(hn0: -9223372036854775808≤n)(hn1:n≤9223372036854775807):MQ h1 h2 102 [eI n,eI 10] [] (Plain (aS8 (Lib.itoa n))):=by
 refine iy ⟨_,_,Tryz.func102,by kernel_rfl,Z⟩ fun w ok m vs h0 h5=>?_
 cases h5 with
 | cons a1 a2=>cases a2 with
  | cons a3 a4=>
   cases a4
   rw[gP a1,gP a3]
   refine Calls.mono (Tryz.strconv_FormatInt_10 n hn0 hn1 w (h0.tab (g:=5) (by kernel_rfl))) fun e w' ⟨he,k,os,hw⟩=>?_
   subst he hw
   refine⟨l4,fun ok' m' _=>.c (.d (.str ?_))⟩
   show(bS (Lib.itoa n)).size≤L
   rw[bS_size]
   have hd: ∀m:Nat,m≤9223372036854775808→(Lib.decDigits m).length≤20:=fun m hm=>m2 (by omega)
   unfold Lib.itoa
   split
   ·
    have:=hd n.natAbs (by omega);rw[ep];omega
   ·
    have:=hd n.toNat (by omega);omega
theorem fN(s:Str):(bS s).data.toList=s:=by simp[bS]
theorem ig(s sep:Str):(Lib.cut s sep).1.length≤s.length∧(Lib.cut s sep).2.1.length≤s.length:=by
 unfold Lib.cut
 split
 exact⟨by rw[List.length_take];omega,by rw[List.length_drop];omega⟩
 exact⟨bH _,cN _⟩
theorem rh{s sep:Str}:MQ h1 h2 11 [aS8 s,aS8 sep] [] (Plain (.tup [aS8 (Lib.cut s sep).1,aS8 (Lib.cut s sep).2.1,eB (Lib.cut s sep).2.2])):=by
 refine iy ⟨_,_,Tryz.func11,by kernel_rfl,Z⟩ fun w ok m vs h0 h5=>?_
 cases h5 with
 | cons a1 a2=>cases a2 with
  | cons a3 a4=>
   cases a4
   obtain⟨rfl,l1⟩:=a1.str_inv
   obtain⟨rfl,l2⟩:=a3.str_inv
   obtain⟨k,hk⟩:=h0.maxLen (g:=0) (by kernel_rfl)
   rw[bS_size]at l1
   refine Calls.mono (Tryz.strings_Cut (bS s) (bS sep) k w (by rw[bS_size];omega) hk) fun e w' ⟨he,j,hw⟩=>?_
   subst he hw
   have hl:=ig s sep
   refine⟨⟨Z,Z,Z,bH _,fun _ _ _=>rfl⟩,fun ok' m' _=>?_⟩
   rw[fN,fN]
   refine .tup (.cons (.c (.d (.str ?_))) (.cons (.c (.d (.str ?_))) (.cons (.c (.d .bool)) .nil)))
   ·
    show(bS _).size≤L;rw[bS_size];omega
   ·
    show(bS _).size≤L;rw[bS_size];omega
theorem fz{sep:Str}: ∀{k:Nat} {s:Str},∀p∈Lib.splitK sep 0 k s,p.length≤s.length
 | 0,s,p,hp=>by rw[List.mem_singleton.1 hp];exact bH _
 | k+1,s,p,hp=>by
  rw[Lib.splitK]at hp
  split at hp
  rw[List.mem_singleton.1 hp];exact bH _
  rcases List.mem_cons.1 hp with rfl|hp
  rw[List.length_take];omega
  have:=fz p hp
  rw[List.length_drop]at this;omega
abbrev strs(ss:List Str):D:=.slc 1 (ss.map fun p=>[sD p])
theorem k7{L:Nat}{w:World}{ok:Nat→Prop}{b:Nat}: ∀{ss:List Str} {o:Nat},(∀p∈ss,p.length≤L)→(∀j p,ss[j]? = some p→w.cell? ⟨b,o+j,none⟩=some (.string (bS p)))→RDs L w ok (ss.map fun p=>[sD p]).flatten b o []
 | [],o,_,_=>.nil
 | p::r,o,h1,h2=>by
  simp only[List.map_cons,List.flatten_cons,List.singleton_append]
  refine .cons (F1:=[]) (F2:=[]) (h2 0 p Z) (.str (by rw[bS_size];exact h1 p (List.mem_cons_self ..))) (k7 (fun q hq=>h1 q (List.mem_cons_of_mem _ hq)) fun j q hq=>?_)
  have:=h2 (j+1) q hq
  rwa[show o+1+j=o+(j+1) by omega]
theorem t4{s sep:Str}(hne:sep≠[])(hl:(Lib.split s sep).length≤L):MQ h1 h2 30 [aS8 s,aS8 sep] [] (Plain (.c (.d (strs (Lib.split s sep))))):=by
 refine iy ⟨_,_,Tryz.func30,by kernel_rfl,Z⟩ fun w ok m vs h0 h5=>?_
 cases h5 with
 | cons a1 a2=>cases a2 with
  | cons a3 a4=>
   cases a4
   obtain⟨rfl,l1⟩:=a1.str_inv
   obtain⟨rfl,l2⟩:=a3.str_inv
   obtain⟨k,hk⟩:=h0.maxLen (g:=0) (by kernel_rfl)
   rw[bS_size]at l1
   refine Calls.mono (Tryz.strings_Split (bS s) (bS sep) k w (by rw[bS_size];omega) hk (by rw[bS_size];exact List.length_pos_iff.2 hne)) fun e w' ⟨he,hw⟩=>?_
   subst he hw
   have hd:=Lib.splitB_data (bS sep) 0 (Lib.countB (bS s) (bS sep)) (bS s)
   have hc:Lib.countB (bS s) (bS sep)=Lib.count s sep:=by show Lib.count (bS s).data.toList (bS sep).data.toList=_;rw[fN,fN]
   rw[hc]at hd ⊢
   rw[fN,fN]at hd
   have hd2:Lib.splitB (bS sep) 0 (Lib.count s sep) (bS s)=(Lib.split s sep).map bS:=by
    have:=congrArg (List.map bS) hd
    rw[List.map_map]at this
    rw[show(Lib.split s sep)=Lib.splitK sep 0 (Lib.count s sep) s from Z,←this]
    conv=>lhs;rw[←List.map_id (Lib.splitB (bS sep) 0 (Lib.count s sep) (bS s))]
    exact List.map_congr_left fun x _=>(qN x).symm
   have hall:=Lib.splitB_all (bS sep) (by rw[bS_size];exact List.length_pos_iff.2 hne) 0 _ (bS s) Z
   rw[hc,hd2,bl]at hall
   refine⟨⟨Z,Z,Z,by show w.heap.size≤(w.heap.push _).size;rw[Array.size_push];omega,fun b hb _=>by show(w.heap.push _)[b]? = _;rw[Array.getElem?_push,if_neg (by omega)]⟩,fun ok' m' hok=>.c (.d ?_)⟩
   rw[hd2,←hall]
   rw[show(Lib.split s sep).length=((Lib.split s sep).map fun p=>[sD p]).length by rw[bl]]
   refine .slc (by rw[bl];exact hl) (bH _) (by intro e he;obtain⟨p,_,rfl⟩:=List.mem_map.1 he;rfl) (hok _ (bH _)) (by show w.heap.size<(w.heap.push _).size;rw[Array.size_push];omega) (k7 (fun p hp=>Nat.le_trans (fz p hp) l1) fun j p hj=>?_)
   rw[Nat.zero_add]
   have hb:(w.alloc (.cells (((Lib.split s sep).map bS).map Value.string).toArray 9)).heap[w.heap.size]? = some (.cells (((Lib.split s sep).map bS).map Value.string).toArray 9):=by
    show(w.heap.push _)[w.heap.size]? = _
    rw[Array.getElem?_push_size]
   rw[cell_of_row _ _ _ _ _ _ hb]
   simp[hj]
theorem mz(hn0: -9223372036854775808≤n)(hn1:n≤9223372036854775807):MQ h1 h2 72 [eI n] [] (Plain (aS8 (Lib.itoa n))):=by
 refine am ?_ Z
 refine jB 5 h1 h2 Tryz.func72 Z fun O hF=>?_
 refine af (js Z (bq (js Z (jf [3,2] Z (aW Z (tV (n:=n) h1 h2 hn0 hn1) 5000 Z (js Z (jf [2] Z (jr ?_))))))))
 refine aw Z ?_
 rfl
theorem rf{o:Str}(ho:o.length≤1000):MQ h1 h2 70 [eI n,.c (.pt 0 0 0)] [(0,.box [.d (sD o)])] (fM (.tup []) [(0,.box [.d (sD (o++cZ o n))])]):=by
 refine jH 11 [0] h1 h2 Tryz.func70 Z fun O hF=>?_
 refine af (ac Z (jf [4,1] Z (jn (ak Z (fun z4=>?_) (fun z4=>?_)))))
 refine aa (js Z (ab (aJ (p:=o) (q:=[45]) O Z Z Z Z Z Z (by show o.length+1≤L;omega) (by show L≤_;omega)) Z (jf [6,1] Z (jo Z (aI ?_)))))
 refine jn ?_
 show _∧_
 refine⟨.inr Z,_,el,_,Z,Z,?_⟩
 rw[show cZ o n=[45] by unfold cZ;rw[if_pos (bJ z4)]]
 refine af (js Z (ab (cH (p:=o) (q:=[]) O Z Z Z Z Z Z) Z (jf [8,1] Z (jn (ak Z (fun z8=>?_) (fun z8=>?_))))))
 refine aa (js Z (ab (aJ (p:=o) (q:=[43]) O Z Z Z Z Z Z (by show o.length+1≤L;omega) (by show L≤_;omega)) Z (jf [10,1] Z (jo Z (aI ?_)))))
 refine jn ?_
 show _∧_
 refine⟨.inr Z,_,el,_,Z,Z,?_⟩
 rw[show cZ o n=[43] by unfold cZ;rw[if_neg (ck z4),if_neg (by simpa using z8)]]
 refine ae ?_
 show _∧_
 refine⟨.inr Z,_,el,_,Z,Z,?_⟩
 rw[show cZ o n=[] by unfold cZ;rw[if_neg (ck z4),if_pos (by simpa using z8)],List.append_nil]
theorem qf{o:Str}{i:Nat}{c:Int}(h:c=0):tC o i c=o:=by unfold tC;rw[if_pos h]
theorem rH{o:Str}{i:Nat}{c:Int}(h: ¬c=0):tC o i c=(o++cZ o c++(if c.natAbs=1 then[]else Lib.decDigits c.natAbs))++[fJ i]:=by unfold tC;rw[if_neg h]
theorem ri{t:Tm}(ht:t.ok=true):MQ h1 h2 34 [lz t] [] (Plain (aS8 (tS t))):=by
 refine am ?_ Z
 refine jB 52 h1 h2 Tryz.func34 Z fun O hF=>?_
 obtain⟨z6,hx6,hl10⟩:=ip ht
 have hl:t.xs.length≤L:=by omega
 refine af (jx Z (aI ?_))
 refine js Z (bq (jl Z (aI ?_)))
 refine jo Z (aI ?_)
 refine bq (ac Z (jn (ag (af (ac Z ?_)))))
 first|refine db Z ?_|refine js Z ?_|refine be Z Z ?_
 refine js Z (jn (ap (av (X:=Nat×Str) (fun z=>⟨[(1,.c (.pt 1 0 0)),(3,.c (.pt 3 0 0)),(4,.c (.fn 70 [.pt 3 0 0])),(9,cr t.xs),(10,eI t.xs.length),(11,eI (z.1:Nat))],[(1,.box [.d (.int .i64 t.c),.d (il t.xs)]),(3,.box [.d (sD z.2)])]⟩) (fun z=>z.1≤t.xs.length∧z.2=tX 0 (t.xs.take z.1) []∧z.2.length≤9*z.1) (fun z=>t.xs.length-z.1) (0,[]) (Ent.to ⟨Z,Z,Z,Z,Z,Z,ao⟩ Z) ?_ (fun z hi=>?_))))
 exact⟨cN _,by show[]=tX 0 (t.xs.take 0) [];simp[tX],bH _⟩
 refine af (js Z (jn (ag (ak Z (fun z12=>?_) (fun z12=>?_)))))
 refine ae (ag (ap (af (js Z ?_))))
 first|refine qQ Z Z ?_|refine kB Z Z ?_|refine be Z Z ?_
 refine aZ Z (jf [6,5,12,1,3,4,9,10,11] Z (jn (ag (af ?_))))
 have hz1:z.1<t.xs.length:=by have:=bJ z12;omega
 obtain⟨n,hn⟩: ∃n,n=(t.xs.getD z.1 default):=⟨_,rfl⟩
 rw[←hn]
 have hna:n.natAbs≤1000000:=by rw[hn,getD_lt hz1];exact hx6 _ (List.getElem_mem hz1)
 have hstep:tX 0 (t.xs.take (z.1+1)) []=tC z.2 z.1 n:=by rw[List.take_succ_eq_append_getElem hz1,j7,List.length_take,Nat.min_eq_left (by omega),Nat.zero_add,hi.2.1,hn,getD_lt hz1]
 have hzl:z.2.length≤90:=by have:=hi.2.2;omega
 refine ac Z (jn (ak Z (fun z17=>?_) (fun z17=>?_)))
 refine aR (aa ?_)
 first|refine ji Z ?_|refine be Z Z ?_
 refine js Z (jn ?_)
 refine⟨(z.1+1,z.2),Ent.to ⟨Z,Z,Z,Z,Z,Z,ao⟩ Z,⟨by show z.1+1≤_;omega,?_,by show z.2.length≤9*(z.1+1);omega⟩,by show t.xs.length-(z.1+1)<t.xs.length-z.1;omega⟩
 show z.2=_
 rw[hstep,qf (bJ z17)]
 refine ae (af (ac Z (ca O [3] (bin:=[.box [.d (sD z.2)]]) Z Z Z Z (rf (n:=n) (o:=z.2) h1 h2 (by omega)) Z Z Z Z Z Z (B0:=21000) Z Z (aI ?_))))
 obtain⟨o2,ho2⟩: ∃o,o=z.2++cZ z.2 n:=⟨_,rfl⟩
 rw[←ho2]
 have h2l:o2.length≤z.2.length+1:=by have:=iA (o:=z.2) (n:=n);rw[ho2,bV];omega
 refine jf [17,16,6,5,12,1,3,4,9,10,11] Z (jn (ag (af (js Z (aW Z (ry (x:=n) h1 h2 (by omega)) 23000 Z (js Z (jf [23,17,16,6,5,12,1,3,4,9,10,11] Z (jn ?_))))))))
 obtain⟨o3,ho3⟩: ∃o,o=o2++(if n.natAbs=1 then[]else Lib.decDigits n.natAbs):=⟨_,rfl⟩
 have hdl:(Lib.decDigits n.natAbs).length≤7:=eN hna
 have h3l:o3.length≤o2.length+7:=by rw[ho3,bV];split<;>simp<;>omega
 refine bu ⟨[(1,.c (.pt 1 0 0)),(3,.c (.pt 3 0 0)),(4,.c (.fn 70 [.pt 3 0 0])),(9,cr t.xs),(10,eI t.xs.length),(11,eI (z.1:Nat)),(5,eI (z.1:Nat)),(6,eI n)],[(1,.box [.d (.int .i64 t.c),.d (il t.xs)]),(3,.box [.d (sD o3)])]⟩ ?_ ?_
 refine ak Z (fun z23=>?_) (fun z23=>?_)
 refine mq [_,_,_,_,_,_] [pn [] 0 2,bv,pe [1] 0,pe [1,2] 1,pn (rg 0 4) 2 2,pe (rg 0 5) 2] [2,3,5] [_,_,_,_] (ai (kc Z (kc Z (V Z))) (kc Z (ai (aE O (B0:=27000) Z Z Z Z (ry (x:=n) h1 h2 (by omega)) (al Z) Z Z Z Z Z) (ai (aE O (B0:=28000) Z Z Z Z (mz (n:=(n.natAbs:Int)) h1 h2 (by omega) (by omega)) (al Z) Z Z Z Z Z) (ai (aJ (p:=o2) (q:=Lib.itoa (n.natAbs:Int)) O Z Z Z Z Z Z (by rw[dR];have:=eN hna;show o2.length+(Lib.decDigits n.natAbs).length≤L;omega) (by show L≤_;omega)) (ai (eS Z Z Z) trivial)))))) ?_
 refine vv ?_
 exact⟨Z,Ent.to ⟨Z,Z,Z,Z,Z,Z,Z,Z,ao⟩ (by rw[ho3,if_neg (by have:=z23;simp at this;omega),dR])⟩
 refine ae ?_
 exact⟨Z,el.trans (Ent.to ⟨Z,Z,Z,Z,Z,Z,Z,Z,ao⟩ (by rw[ho3,if_pos (by have:=z23;simp at this;omega),List.append_nil];rfl))⟩
 refine aa (ac Z ?_)
 first|refine ji Z ?_|refine be Z Z ?_
 refine ab ((Val.conv (b:=true) (dt:=.int .i64) O Z Z Z (by kernel_rfl) (by kernel_rfl)).cast (v':=.c (.d (.int .i32 (97+z.1:Int)))) (by rw[dE .i32 _ (by show(-2147483648:Int)≤_;omega) (by show _≤(2147483647:Int);omega)])) Z (ab ((nC (dt:=.int .i32) O Z Z Z (by kernel_rfl) (by kernel_rfl) (by omega) (by omega)).cast (v':=aS8 [fJ z.1]) (by rw[show(97+(z.1:Int)).toNat=97+z.1 by omega];rfl)) Z (ab (aJ (p:=o3) (q:=[fJ z.1]) O Z Z Z Z Z Z (by show o3.length+1≤L;omega) (by show L≤_;omega)) Z (jf [34,1,3,4,9,10,11,6] Z (jo Z (aI ?_)))))
 refine jn (aa ?_)
 first|refine ji Z ?_|refine be Z Z ?_
 refine js Z (jn ?_)
 refine⟨(z.1+1,o3++[fJ z.1]),Ent.to ⟨Z,Z,Z,Z,Z,Z,ao⟩ Z,⟨by show z.1+1≤_;omega,?_,by show(o3++[fJ z.1]).length≤9*(z.1+1);rw[bV,pP];omega⟩,by show t.xs.length-(z.1+1)<t.xs.length-z.1;omega⟩
 show o3++[fJ z.1]=_
 rw[hstep,rH (ck z17),ho3,ho2]
 refine aR (ag (af ?_))
 obtain hz1:z.1=t.xs.length:=by have:=ck z12;omega
 have hzl:z.2.length≤90:=by have:=hi.2.2;omega
 have ho:=hi.2.1
 rw[hz1,List.take_length]at ho
 refine aZ Z (jf [38,12,1,3,4,9,10,11] Z (jn ?_))
 obtain⟨o5,ho5⟩: ∃o,o=tK z.2 t.c:=⟨_,rfl⟩
 refine bu ⟨[(1,.c (.pt 1 0 0)),(3,.c (.pt 3 0 0))],[(1,.box [.d (.int .i64 t.c),.d (il t.xs)]),(3,.box [.d (sD o5)])]⟩ ?_ ?_
 refine ak Z (fun z38=>?_) (fun z38=>?_)
 refine af (aZ Z (jf [41,39,38,12,1,3,4,9,10,11] Z (ca O [3] (bin:=[.box [.d (sD z.2)]]) Z Z Z Z (rf (n:=t.c) (o:=z.2) h1 h2 (by omega)) Z Z Z Z Z Z (B0:=43000) Z Z (aI ?_))))
 refine jf [38,12,1,3,4,9,10,11] Z (jn (mq [_,_,_,_,_,_,_] [pn [] 0 2,bv,aU [1],pe [1,2] 0,pe [1,2,3] 1,pn (rg 0 5) 2 2,pe (rg 0 6) 2] [3,4,6] [_,_,_,_] (ai (kc Z (kc Z (V Z))) (kc Z (kc Z (ai (aE O (B0:=47000) Z Z Z Z (ry (x:=t.c) h1 h2 (by omega)) (al Z) Z Z Z Z Z) (ai (aE O (B0:=48000) Z Z Z Z (mz (n:=(t.c.natAbs:Int)) h1 h2 (by omega) (by omega)) (al Z) Z Z Z Z Z) (ai (aJ (p:=(z.2++cZ z.2 t.c)) (q:=Lib.itoa (t.c.natAbs:Int)) O Z Z Z Z Z Z (by rw[dR];have:=eN z6;have h7:=iA (o:=z.2) (n:=t.c);show(z.2++cZ z.2 t.c).length+(Lib.decDigits t.c.natAbs).length≤L;rw[bV];omega) (by show L≤_;omega)) (ai (eS Z Z Z) trivial))))))) ?_))
 refine vv ?_
 exact⟨Z,Ent.to ⟨Z,Z,ao⟩ (by rw[ho5,dR];unfold tK;rw[if_neg (by simpa using z38)])⟩
 refine ae ?_
 exact⟨Z,el.trans (Ent.to ⟨Z,Z,ao⟩ (by rw[ho5];unfold tK;rw[if_pos (by simpa using z38)]))⟩
 refine ag (af (js Z (ab (Val.seq (p:=o5) (q:=[]) O Z Z Z Z Z Z) Z (jn (ak Z (fun z50=>?_) (fun z50=>?_))))))
 refine af (js Z (jr ?_))
 refine aw Z ?_
 rw[show tS t=tZ o5 by rw[ho5,ho];rfl]
 unfold tZ
 rw[if_pos (bJ z50)];rfl
 refine ae (af (ac Z (jr ?_)))
 refine aw Z ?_
 rw[show tS t=tZ o5 by rw[ho5,ho];rfl]
 unfold tZ
 rw[if_neg (ck z50)]
end Go.Al
/- Lemmas for the walk of the program's reader of terms. -/
namespace Go.Al
variable{L:Nat}(h1:4096≤L)(h2:L≤1073741824)
open Go.Lib
theorem bW{s:Str}{i:Nat}(h:i<s.length):s[((i:Nat):Int).toNat]? = some (s.getD i 0):=by
 rw[Int.toNat_natCast,List.getElem?_eq_getElem h];simp[h]
theorem cG{s:Str}{i:Nat}(h:i<s.length):s.drop i=s.getD i 0::s.drop (i+1):=by
 rw[List.drop_eq_getElem_cons h];simp[h]
theorem em{b:UInt8}{n:Nat}(hn:n<256):((b.toNat:Int)=n)↔b=UInt8.ofNat n:=by
 constructor
 intro h
 apply UInt8.toNat_inj.1
 rw[UInt8.toNat_ofNat'];omega
 rintro rfl
 rw[UInt8.toNat_ofNat'];omega
abbrev bt(s:Str)(i:Nat):Int:=((s.getD i 0).toNat:Int)
theorem mA(s:Str)(i:Nat):0≤bt s i∧bt s i≤255:=by
 have:=(s.getD i 0).toNat_lt
 unfold bt;omega
theorem qt{s:Str}{i:Nat}(h:i<s.length):ik (s.drop i)=if bt s i=45 then(-1,s.drop (i+1))else if bt s i=43 then(1,s.drop (i+1))else(1,s.drop i):=by
 rw[cG h,ik]
 have h1:bt s i=45↔s.getD i 0=45:=em (b:=s.getD i 0) (n:=45) (by decide)
 have h2:bt s i=43↔s.getD i 0=43:=em (b:=s.getD i 0) (n:=43) (by decide)
 by_cases e1:bt s i=45
 rw[if_pos e1,if_pos (h1.1 e1)]
 rw[if_neg e1,if_neg (fun e=>e1 (h1.2 e))]
 by_cases e2:bt s i=43
 rw[if_pos e2,if_pos (h2.1 e2)]
 rw[if_neg e2,if_neg (fun e=>e2 (h2.2 e)),←cG h]
theorem qs{s:Str}{i:Nat}(h:i<s.length): ∃(sg:Int) (i1:Nat),ik (s.drop i)=(sg,s.drop i1)∧(i≤i1∧i1≤i+1∧i1≤s.length)∧(sg=1∨sg= -1)∧(if bt s i=45 then sg= -1∧i1=i+1 else if bt s i=43 then sg=1∧i1=i+1 else sg=1∧i1=i):=by
 rw[qt h]
 split
 exact⟨-1,i+1,Z,⟨by omega,by omega,by omega⟩,.inr Z,Z,Z⟩
 split
 exact⟨1,i+1,Z,⟨by omega,by omega,by omega⟩,.inl Z,Z,Z⟩
 exact⟨1,i,Z,⟨by omega,by omega,by omega⟩,.inl Z,Z,Z⟩
theorem iv{s:Str}{i:Nat}:gb (s.getD i 0)=(decide (48≤bt s i)&&decide (bt s i≤57)):=by
 unfold gb bt
 congr 1<;>(apply Bool.eq_iff_iff.2;simp;omega)
theorem lI{s:Str}{i:Nat}:nX (s.getD i 0)=(decide (97≤bt s i)&&decide (bt s i<107)):=by
 unfold nX bt
 congr 1<;>(apply Bool.eq_iff_iff.2;simp;omega)
theorem pj{s:Str}{i k:Nat}{n:Int}(h:i<s.length)(h1:48≤bt s i)(h2:bt s i≤57):bP (k+1) n (s.drop i)=bP k (10*n+(bt s i-48)) (s.drop (i+1)):=by
 rw[cG h,bP,if_pos (by rw[iv];simp[h1,h2])]
theorem lU{s:Str}{i i1:Nat}{n:Int}(h: ¬(i<s.length∧48≤bt s i∧bt s i≤57∧i<i1+8))(h0:i1≤i)(h8:i≤i1+8)(hl:i≤s.length):bP (8-(i-i1)) n (s.drop i)=(n,s.drop i):=by
 by_cases h1:i<s.length
 by_cases h2:i<i1+8
 rw[cG h1,fB]
 rw[iv]
 by_cases h3:48≤bt s i
 by_cases h4:bt s i≤57
 exact absurd ⟨h1,h3,h4,h2⟩ h
 simp[h4]
 simp[h3]
 rw[show 8-(i-i1)=0 by omega,bP]
 rw[List.drop_eq_nil_of_le (by omega),jt]
theorem rJ{s:Str}{i i1 i2:Nat}{sg n:Int}(hs:ik (s.drop i)=(sg,s.drop i1))(hn:bP 8 0 (s.drop i1)=(n,s.drop i2))(h1:i1≤i2)(h2:i2≤s.length) :
    mn (s.drop i)=if i2<s.length∧97≤bt s i2∧bt s i2<107 then some (s.drop (i2+1),some ((s.getD i2 0).toNat-97),sg*(if i2=i1 then 1 else n))else if i2=i1 then none else some (s.drop i2,none,sg*n):=by
 unfold mn
 simp only[hs,hn]
 have hl:((s.drop i2).length=(s.drop i1).length)↔i2=i1:=by rw[List.length_drop,List.length_drop];omega
 by_cases h:i2<s.length
 rw[cG h]at hl ⊢
 simp only[hl,lI]
 by_cases h3:97≤bt s i2
 by_cases h4:bt s i2<107
 simp[h,h3,h4]
 simp[h4]
 simp[h3]
 have he:s.drop i2=[]:=List.drop_eq_nil_of_le (by omega)
 rw[if_neg (show¬(i2<s.length∧97≤bt s i2∧bt s i2<107)from fun e=>h e.1)]
 rw[he]at hl ⊢
 simp only[hl]
theorem pp{k:Nat}{n d:Int}(h:n<10^k)(hd:d≤9):10*n+d<10^(k+1):=by
 rw[Int.pow_succ];omega
theorem qX{k:Nat}(h:k≤8):(10:Int)^k≤100000000:=by
 have:10^k≤10^8:=Nat.pow_le_pow_right (by decide) h
 have e:((10^k:Nat):Int)=(10:Int)^k:=by rw[Int.natCast_pow];rfl
 rw[←e];omega
theorem nA{xs:List Int}{i:Nat}{n:Int}:(de xs i n).length=xs.length:=by unfold de;rw[List.length_set]
theorem pL{xs:List Int}{i:Nat}{n B M:Int}(hB:0≤B)(h: ∀y∈xs,-B≤y∧y≤B)(h1: -M≤n)(h2:n≤M): ∀y∈de xs i n,-(B+M)≤y∧y≤B+M:=by
 intro y hy
 unfold de at hy
 rcases List.mem_or_eq_of_mem_set hy with hy|rfl
 have:=h y hy;omega
 by_cases hi:i<xs.length
 have:=h _ (List.getElem_mem hi)
 rw[show xs.getD i 0=xs[i] by simp[hi]];omega
 rw[show xs.getD i 0=0 by simp[Nat.not_lt.1 hi]];omega
theorem sd{xs:List Int}{i:Nat}{B:Int}(hB:0≤B)(h: ∀y∈xs,-B≤y∧y≤B): -B≤xs.getD i 0∧xs.getD i 0≤B:=by
 by_cases hi:i<xs.length
 rw[show xs.getD i 0=xs[i] by simp[hi]];exact h _ (List.getElem_mem hi)
 rw[show xs.getD i 0=0 by simp[Nat.not_lt.1 hi]];omega
theorem c4t{a b c d:Prop}[Decidable a][Decidable b][Decidable c][Decidable d]:(bif (bif (bif decide a then decide b else false)then decide c else false)then decide d else false)=true↔a∧b∧c∧d:=by
 by_cases a<;>by_cases b<;>by_cases c<;>by_cases d<;>simp_all
theorem ut{a b c:Prop}[Decidable a][Decidable b][Decidable c]:(bif (bif decide a then decide b else false)then decide c else false)=true↔a∧b∧c:=by
 by_cases a<;>by_cases b<;>by_cases c<;>simp_all
theorem ft{x:Bool}{p:Prop}(h:x=false)(hx:x=true↔p): ¬p:=fun hp=>by rw[hx.2 hp]at h;cases h
theorem su{a:Prop}[Decidable a](h:(decide a==true)=true):a:=by simpa using h
theorem uc{a:Prop}[Decidable a]{b:Bool}(h:((bif decide a then b else false)==true)=true):a:=by
 by_cases a<;>simp_all
def dd(r:Option Tm):Tm×Bool:=match r with
  | none=>(⟨0,[]⟩,false)
  | some t=>(t,true)
theorem oL{s:Str}{ys:List Int}{c:Int}(h:i6 s (zr 10) 0=some (ys,c)):e8 s=if(Tm.mk c (bL ys)).ok=true∧tS ⟨c,bL ys⟩=s then some ⟨c,bL ys⟩else none:=by
 unfold e8;rw[h]
theorem rV{s:Str}(h:i6 s (zr 10) 0=none):e8 s=none:=by
 unfold e8;rw[h]
end Go.Al
/- Lemmas for the walk of the reference's reader of terms. -/
namespace Go.Al
variable{L:Nat}(h1:4096≤L)(h2:L≤1073741824)
open Go.Lib
theorem oJ{s:Str}{i:Nat}{ys:List Int}{c n sg:Int}(h:i<s.length)(h1:48≤bt s i)(h2:bt s i≤57):df (s.drop i) ys c n sg=if 2000000<n then none else df (s.drop (i+1)) ys c (10*max n 0+(bt s i-48)) sg:=by
 rw[cG h,df,if_pos (by rw[iv];simp[h1,h2])]
theorem jZ{s:Str}{i:Nat}(h: ¬(48≤bt s i∧bt s i≤57)): ¬gb (s.getD i 0)=true:=by
 rw[iv];simpa using h
theorem rU{s:Str}{i:Nat}{ys:List Int}{c n sg:Int}(h:i<s.length)(h0: ¬(48≤bt s i∧bt s i≤57))(h1:97≤bt s i)(h2:bt s i≤106):df (s.drop i) ys c n sg=df (s.drop (i+1)) (ys.set ((s.getD i 0).toNat-97) (sg*(if n<0 then 1 else n))) c (-1) sg:=by
 rw[cG h,df,if_neg (jZ h0),if_pos (by rw[lI];simp only[bh,decide_eq_true_eq];omega)]
theorem oR{s:Str}{i:Nat}(h: ¬(97≤bt s i∧bt s i≤106)): ¬nX (s.getD i 0)=true:=by
 rw[lI];simp only[bh,decide_eq_true_eq];omega
theorem rT{s:Str}{i:Nat}{ys:List Int}{c n sg:Int}(h:i<s.length)(h0: ¬(48≤bt s i∧bt s i≤57))(h1: ¬(97≤bt s i∧bt s i≤106))(h2:bt s i=43∨bt s i=45):df (s.drop i) ys c n sg=df (s.drop (i+1)) ys (if 0≤n then sg*n else c) (-1) (if bt s i=45 then -1 else 1):=by
 have e1:bt s i=43↔s.getD i 0=43:=em (n:=43) (by decide)
 have e2:bt s i=45↔s.getD i 0=45:=em (n:=45) (by decide)
 rw[cG h,df,if_neg (jZ h0),if_neg (oR h1),if_pos (by rw[←e1,←e2];exact h2)]
 by_cases h3:bt s i=45
 rw[if_pos h3,if_pos (e2.1 h3)]
 rw[if_neg h3,if_neg (fun e=>h3 (e2.2 e))]
theorem qo{s:Str}{i:Nat}{ys:List Int}{c n sg:Int}(h:i<s.length)(h0: ¬(48≤bt s i∧bt s i≤57))(h1: ¬(97≤bt s i∧bt s i≤106))(h2: ¬(bt s i=43∨bt s i=45)):df (s.drop i) ys c n sg=none:=by
 have e1:bt s i=43↔s.getD i 0=43:=em (n:=43) (by decide)
 have e2:bt s i=45↔s.getD i 0=45:=em (n:=45) (by decide)
 rw[cG h,df,if_neg (jZ h0),if_neg (oR h1),if_neg (by rw[←e1,←e2];exact h2)]
theorem qn{s:Str}{ys:List Int}{c n sg:Int}:df (s.drop s.length) ys c n sg=some (ys,if 0≤n then sg*n else c):=by
 rw[List.drop_length,df]
theorem rO{xs:List Int}{i:Nat}{n B:Int}(h: ∀y∈xs,-B≤y∧y≤B)(h1: -B≤n)(h2:n≤B): ∀y∈xs.set i n,-B≤y∧y≤B:=by
 intro y hy
 rcases List.mem_or_eq_of_mem_set hy with hy|rfl
 exact h y hy
 exact⟨h1,h2⟩
theorem c3o{a b c:Prop}[Decidable a][Decidable b][Decidable c]:(bif (bif decide a then true else decide b)then true else decide c)=true↔a∨b∨c:=by
 by_cases a<;>by_cases b<;>by_cases c<;>simp_all
theorem uv{a b:Prop}[Decidable a][Decidable b]:(bif decide a then decide b else false)=true↔a∧b:=by
 by_cases a<;>by_cases b<;>simp_all
theorem uS{a:Prop}[Decidable a](h:(decide a==false)=true): ¬a:=by simpa using h
theorem uR{a:Prop}[Decidable a]{b:Bool}(h:((bif decide a then true else b)==false)=true): ¬a:=by
 by_cases a<;>simp_all
theorem rN{a b:Prop}[Decidable a][Decidable b](h: ¬(a∧b)):(if a then(if b then(-1:Int)else 1)else 1)=1:=by
 by_cases a<;>by_cases b<;>simp_all
theorem jW{sg n B:Int}(h:sg=1∨sg= -1)(h0:0≤n)(hB:n≤B): -B≤sg*n∧sg*n≤B:=by
 rcases h with e|e<;>rw[e]<;>omega
theorem oF{s:Str}{ys:List Int}{c:Int}(h:df s (zr 10) 0 (-1) 1=some (ys,c)):nR s=if(i7 c ys).2=true∧tS (i7 c ys).1=s then some (i7 c ys).1 else none:=by
 unfold nR;rw[h]
theorem oG{s:Str}(h:df s (zr 10) 0 (-1) 1=none):nR s=none:=by
 unfold nR;rw[h]
end Go.Al
/- Lemmas for the walks of both readers of sequents. -/
namespace Go.Al
variable{L:Nat}(h1:4096≤L)(h2:L≤1073741824)
open Go.Lib
theorem j9(c:UInt8): ∀s:Str,(bO c s).length≤s.length+1
 | []=>bH _
 | b::r=>by
  have ih:=j9 c r
  rw[bO]
  split
  simp only[ep];omega
  simp only[ep,List.length_tail];omega
theorem rL{c:UInt8}{s:Str}: ∀p∈bO c s,p.length≤s.length:=by
 intro p hp
 rw[←jT]at hp
 exact fz p hp
theorem uQ{f:Str}(h:f≠[]):f[((f.length:Int)-1).toNat]? = some (f.getD (f.length-1) 0):=by
 have hl:=List.length_pos_iff.2 h
 rw[show((f.length:Int)-1).toNat=f.length-1 by omega,List.getElem?_eq_getElem (by omega)]
 simp[show f.length-1<f.length by omega]
theorem sQ{f:Str}(h:((!decide (f=[]))==true)=true):f≠[]:=by simpa using h
theorem r7{f:Str}(h:((!decide (f=[]))==true)=true):(0:Int)≤(f.length:Int)-1:=by
 have:=List.length_pos_iff.2 (sQ h);omega
end Go.Al
/- Numbers read from their decimal texts; nodes and proofs read from their texts: plain Lean. -/
namespace Go.Al
variable{L:Nat}(h1:4096≤L)(h2:L≤1073741824)
open Go.Lib
theorem qx(m:Nat): ∀(acc:Nat) (r:Str),acc*10^nDigits m+m≤1000000000000000000→parseUintM 18446744073709551615 acc (decDigits m++r)=parseUintM 18446744073709551615 (acc*10^nDigits m+m) r:=by
 induction m using Nat.strongRecOn with
 | _ m ih=>
  intro acc r h
  by_cases hm:m<10
  rw[nDigits_small hm]at h ⊢
  rw[decDigits,dif_pos hm,List.singleton_append,parseUintM,bC hm,if_pos (by omega),if_neg (by omega),if_neg (by omega)]
  congr 1;omega
  rw[nDigits_big hm,Nat.pow_succ,←Nat.mul_assoc]at h ⊢
  have hd:m%10<10:=Nat.mod_lt _ (by decide)
  rw[decDigits,dif_neg hm,cM,List.singleton_append,ih (m/10) (by omega) acc _ (by omega),parseUintM,bC hd,if_pos (by omega),if_neg (by omega),if_neg (by omega)]
  congr 1;omega
theorem mR{m:Nat}(h:m≤1000000000):parseUintB 64 (decDigits m)= .ok m:=by
 have h1:=qx m 0 [] (by omega)
 rw[List.append_nil,Nat.zero_mul,Nat.zero_add]at h1
 unfold parseUintB
 rw[if_neg (cL m),show 2^64-1=18446744073709551615 from Z,h1];rfl
theorem pr{n:Int}(h: -1000000000≤n∧n≤1000000000):parseIntB 64 (itoa n)= .ok n:=by
 unfold itoa
 by_cases hn:n<0
 rw[if_pos hn,parseIntB_minus,mR (by omega)]
 unfold signedC
 simp only
 rw[if_neg (by simp;omega)]
 congr 1;omega
 rw[if_neg hn]
 obtain⟨b,r,hb,hd⟩:=f2 n.toNat []
 rw[List.append_nil]at hb
 have hd':48≤b.toNat∧b.toNat≤57:=by unfold gb at hd;simpa using hd
 have hp:=mR (m:=n.toNat) (by omega)
 rw[hb]at hp
 rw[hb,parseIntB_plain _ _ _ (by omega) (by omega),hp]
 unfold signlessC
 simp only
 rw[if_neg (by simp;omega)]
 congr 1;omega
def jb(s:Str):Option Int:=match parseIntB 64 s with
  | .ok v=>if(-1000000000≤v∧v≤1000000000)∧itoa v=s then some v else none
  | _=>none
theorem gZ(s:Str)(n:Int):jb s=some n↔(-1000000000≤n∧n≤1000000000)∧s=itoa n:=by
 constructor
 intro h
 unfold jb at h
 split at h
 split at h
 rename_i h2;cases h;exact⟨h2.1,h2.2.symm⟩
 cases h
 cases h
 rintro⟨h,rfl⟩
 unfold jb
 rw[pr h]
 exact if_pos ⟨h,Z⟩
def ga:Int→Str→Int
  | n,[]=>n
  | n,b::r=>ga (if gb b then 10*n+(b.toNat-48:Int)else n) r
theorem kl: ∀(p r:Str) (n:Int),ga n (p++r)=ga (ga n p) r
 | [],_,_=>rfl
 | b::p,r,n=>by rw[List.cons_append,ga,kl p r,ga]
theorem mZ(m:Nat): ∀(n:Int),ga n (decDigits m)=n*(10^nDigits m:Nat)+m:=by
 induction m using Nat.strongRecOn with
 | _ m ih=>
  intro n
  by_cases h:m<10
  rw[decDigits,dif_pos h,nDigits_small h,ga,ga,if_pos (by unfold gb;rw[bC h];simp;omega),bC h]
  simp;omega
  have hd:m%10<10:=Nat.mod_lt _ (by decide)
  rw[nDigits_big h,decDigits,dif_neg h,kl,ih (m/10) (by omega),ga,ga,if_pos (by unfold gb;rw[bC hd];simp;omega),bC hd,Nat.pow_succ,Int.natCast_mul]
  have:(m:Int)=10*((m/10:Nat):Int)+((m%10:Nat):Int):=by omega
  generalize (10^nDigits (m/10):Nat)=p at *
  have e:10*(n*(p:Int))=n*((p:Int)*((10:Nat):Int)):=by
   rw[show((10:Nat):Int)=10 from Z,Int.mul_comm 10 (n*_),Int.mul_assoc]
  rw[Int.mul_add,e]
  omega
def pQ(s:Str):Int:=if s.head? = some 45 then -(ga 0 s)else ga 0 s
def lv(s:Str):Option Int:=if 11<s.length then none else if(-1000000000≤pQ s∧pQ s≤1000000000)∧itoa (pQ s)=s then some (pQ s)else none
theorem ic{n:Int}(h: -1000000000≤n∧n≤1000000000):(itoa n).length≤11:=by
 have key: ∀m:Nat,m≤1000000000→(decDigits m).length≤10:=fun m hm=>by
  rw[decDigits_eq,bl,List.length_range]
  exact ed (k:=9) (by omega)
 unfold itoa
 split
 have:=key n.natAbs (by omega);rw[ep];omega
 have:=key n.toNat (by omega);omega
theorem pg{n:Int}:pQ (itoa n)=n:=by
 unfold itoa pQ
 by_cases hn:n<0
 rw[if_pos hn,List.head?_cons,if_pos Z,ga,if_neg (by decide),mZ];omega
 rw[if_neg hn]
 obtain⟨b,r,hb,hd⟩:=f2 n.toNat []
 rw[List.append_nil]at hb
 have hd':48≤b.toNat∧b.toNat≤57:=by unfold gb at hd;simpa using hd
 rw[if_neg,mZ]
 omega
 rw[hb,List.head?_cons]
 intro h
 have:=Option.some.inj h
 subst this
 revert hd';decide
theorem mH(s:Str)(n:Int):lv s=some n↔(-1000000000≤n∧n≤1000000000)∧s=itoa n:=by
 constructor
 intro h
 unfold lv at h
 split at h
 cases h
 split at h
 rename_i h2;cases h;exact⟨h2.1,h2.2.symm⟩
 cases h
 rintro⟨h,rfl⟩
 unfold lv
 have:=ic h
 rw[if_neg (by omega),pg,if_pos ⟨h,rfl⟩]
theorem tn(s:Str):jb s=lv s:=by
 cases h:jb s with
 | some n=>exact((mH s n).2 ((gZ s n).1 h)).symm
 | none=>
  cases h2:lv s with
  | none=>rfl
  | some n=>rw[(gZ s n).2 ((mH s n).1 h2)]at h;cases h
theorem lJ: ∀(p:Str) (n:Int),0≤n→0≤ga n p∧ga n p<(n+1)*10^p.length
 | [],n,h=>by simp only[ga,List.length_nil];omega
 | b::r,n,h=>by
  rw[ga,ep,Int.pow_succ]
  by_cases hb:gb b=true
  rw[if_pos hb]
  have hd':48≤b.toNat∧b.toNat≤57:=by unfold gb at hb;simpa using hb
  have:=lJ r (10*n+(b.toNat-48:Int)) (by omega)
  refine⟨this.1,Int.lt_of_lt_of_le this.2 ?_⟩
  rw[Int.mul_comm (10^r.length) 10,←Int.mul_assoc]
  exact Int.mul_le_mul_of_nonneg_right (by omega) (Int.pow_nonneg (by decide))
  rw[if_neg hb]
  have:=lJ r n h
  refine⟨this.1,Int.lt_of_lt_of_le this.2 ?_⟩
  rw[Int.mul_comm (10^r.length) 10,←Int.mul_assoc]
  exact Int.mul_le_mul_of_nonneg_right (by omega) (Int.pow_nonneg (by decide))
theorem oV{p:Str}(h:p.length≤11):0≤ga 0 p∧ga 0 p<100000000000:=by
 have h1:=lJ p 0 (by omega)
 refine⟨h1.1,Int.lt_of_lt_of_le h1.2 ?_⟩
 rw[Int.zero_add,Int.one_mul]
 have h2:(10:Nat)^p.length≤10^11:=Nat.pow_le_pow_right (by decide) h
 have h3:((10:Int))^p.length=((10^p.length:Nat):Int):=by rw[Int.natCast_pow];rfl
 rw[h3]
 omega
end Go.Al
/- Nodes and proofs read from their texts: plain Lean. -/
namespace Go.Al
variable{L:Nat}(h1:4096≤L)(h2:L≤1073741824)
open Go.Lib
def fL:Option Int→Int×Bool
  | none=>(0,false)
  | some n=>(n,true)
structure NdR(x:Nd):Prop where
  kind:x.kind=1∨x.kind=2∨x.kind=3
  fact: -1000000000≤x.fact∧x.fact≤1000000000
  term:x.term.ok=true
  mul: ∀m∈x.mul,-1000000000≤m∧m≤1000000000
abbrev p0(r:Option Int):A:=.tup [eI (fL r).1,eB (fL r).2]
theorem qJ{s:Str}{i:Nat}(h:i<s.length):ga 0 (s.take (i+1))=if 48≤bt s i∧bt s i≤57 then 10*ga 0 (s.take i)+(bt s i-48)else ga 0 (s.take i):=by
 have e:s[i]=s.getD i 0:=by simp[h]
 rw[List.take_succ_eq_append_getElem h,kl,e,ga,ga]
 by_cases h2:48≤bt s i∧bt s i≤57
 rw[if_pos h2,if_pos (by rw[iv];simp[h2.1,h2.2])]
 rw[if_neg h2,if_neg (jZ h2)]
theorem um{s:Str}:s.head? = some 45↔0<s.length∧bt s 0=45:=by
 cases s with
 | nil=>simp
 | cons b r=>
  have h:bt (b::r) 0=45↔b=45:=em (b:=b) (n:=45) (by decide)
  rw[h];simp
theorem rR{s:Str}{n:Int}{k:Bool}(h:(bif !k then true else !decide (Lib.itoa n=s))=true)(hk:k=(decide (-1000000000≤n)&&decide (n≤1000000000))): ¬((-1000000000≤n∧n≤1000000000)∧Lib.itoa n=s):=by
 rintro⟨⟨h1,h2⟩,h3⟩
 rw[hk]at h
 simp[h1,h2,h3]at h
theorem rQ{s:Str}{n:Int}{k:Bool}(h: ¬(bif !k then true else !decide (Lib.itoa n=s))=true)(hk:k=(decide (-1000000000≤n)&&decide (n≤1000000000))):(-1000000000≤n∧n≤1000000000)∧Lib.itoa n=s:=by
 subst hk
 by_cases h1: -1000000000≤n<;>by_cases h2:n≤1000000000<;>by_cases h3:Lib.itoa n=s<;>simp_all
theorem tY{s:Str}:MQ h1 h2 58 [aS8 s] [] (Plain (p0 (lv s))):=by
 refine MC.data (jB 53 h1 h2 Tryz.func58 Z fun O hF=>?_)
 refine af (ac Z (jn (ag (af (js Z (ab (bd (p:=s) O Z Z Z Z Z Z Z Z Z) Z (js Z (jf [8,3,2,0] Z (jn (ak Z (fun z8=>?_) (fun z8=>?_)))))))))))
 refine af (ac Z (jr ?_))
 refine aw Z ?_
 rw[show lv s=none from if_pos (by have:=bJ z8;omega)]
 exact .tup (.cons (.c .d) (.cons (.c .d) .nil))
 refine ae (af ?_)
 have hs11:s.length≤11:=by have:=ck z8;omega
 refine js Z (jn (ag (af (js Z (jn (ap (av (X:=Nat×Int) (fun z=>⟨[(0,aS8 s),(4,eI z.2),(5,eI (z.1:Nat))],[]⟩) (fun z=>z.1≤s.length∧z.2=ga 0 (s.take z.1)) (fun z=>s.length-z.1) (0,0) (Ent.to ⟨Z,Z,Z,ao⟩ Z) ?_ (fun z hi=>?_))))))))
 exact⟨cN _,Z⟩
 refine ag (af (ac Z (ab (bd (p:=s) O Z Z Z Z Z Z Z Z Z) Z (js Z (jf [12,0,4,5] Z (jn (ak Z (fun z12=>?_) (fun z12=>?_))))))))
 refine ae (ag (ap (af (ac Z ?_))))
 have hz0:z.1<s.length:=by have:=bJ z12;omega
 have hzb:=oV (p:=s.take z.1) (by rw[List.length_take];omega)
 rw[←hi.2]at hzb
 have hby:0≤((s.getD z.1 0).toNat:Int)∧((s.getD z.1 0).toNat:Int)≤255:=mA s z.1
 refine ab (aO (p:=s) (b:=s.getD z.1 0) O Z Z Z Z Z Z Z (by omega) (bW hz0)) Z (ac Z (jf [19,12,0,4,5] Z (ay 4 Z Z Z (fun hx=>au hx Z (au hx Z (bE hx (aO (p:=s) (b:=s.getD z.1 0) O Z Z Z Z Z Z Z (by omega) (bW hz0)) Z (au hx Z (AN.nil))))) Z Z ?_)))
 first|refine ab (aj O Z Z Z Z Z) Z ?_|refine ab (aq O Z Z Z Z Z) Z ?_|refine ab (Val.pickB O Z Z Z Z Z) Z ?_
 refine jf [24,12,0,4,5] Z (jn ?_)
 obtain⟨n1,hn1⟩: ∃n1:Int,n1=if 48≤((s.getD z.1 0).toNat:Int)∧((s.getD z.1 0).toNat:Int)≤57 then 10*z.2+(((s.getD z.1 0).toNat:Int)-48)else z.2:=⟨_,rfl⟩
 refine bu ⟨[(0,aS8 s),(4,eI n1),(5,eI (z.1:Nat))],[]⟩ ?_ ?_
 refine ak Z (fun z24=>?_) (fun z24=>?_)
 refine aa (js Z (ab (aB O Z Z (by omega) (by omega)) Z (ac Z ?_)))
 have h2:=uv.1 z24
 refine ab (aO (p:=s) (b:=s.getD z.1 0) O Z Z Z Z Z Z Z (by omega) (bW hz0)) Z (ab (dv (k:=.u8) (n:=((s.getD z.1 0).toNat:Int)-48) O Z Z (by show(0:Int)≤_;omega) (by show _≤(255:Int);omega)) Z (ab ((Val.conv (b:=true) (dt:=.int .u8) O Z Z Z (by kernel_rfl) (by kernel_rfl)).cast (v':=eI (((s.getD z.1 0).toNat:Int)-48)) (by rw[dE .i64 _ (by show(-9223372036854775808:Int)≤_;omega) (by show _≤(9223372036854775807:Int);omega)])) Z (ab (aB O Z Z (by omega) (by omega)) Z (js Z (jf [4,24,12,0,5] Z (jn ?_))))))
 have h2:=uv.1 z24
 exact⟨Z,Ent.to ⟨Z,congrArg (fun z=>some (eI z)) (show 10*z.2+(((s.getD z.1 0).toNat:Int)-48)=n1 by rw[hn1,if_pos h2]),Z,ao⟩ Z⟩
 refine ae ?_
 have h2:=ft z24 uv
 exact⟨Z,Ent.to ⟨Z,congrArg (fun z=>some (eI z)) (show z.2=n1 by rw[hn1,if_neg h2]),Z,ao⟩ Z⟩
 refine aa (js Z ?_)
 first|refine ji Z ?_|refine be Z Z ?_
 refine js Z (jf [5,0,4] Z (jn ?_))
 refine⟨(z.1+1,n1),Ent.to ⟨Z,Z,Z,ao⟩ Z,⟨by show z.1+1≤_;omega,by show n1=ga 0 (s.take (z.1+1));rw[qJ hz0,←hi.2];exact hn1⟩,by show s.length-(z.1+1)<s.length-z.1;omega⟩
 refine aR (ag (af (js Z ?_)))
 have hz1:z.1=s.length:=by have:=ck z12;omega
 have hz2:=hi.2
 rw[hz1,List.take_length]at hz2
 have hzb:=oV (p:=s) hs11
 refine ab (bd (p:=s) O Z Z Z Z Z Z Z Z Z) Z (ac Z (jf [36,12,0,4,5] Z (ay 3 Z Z Z (fun hx=>au hx Z (bE hx (aO (p:=s) (b:=s.getD 0 0) O Z Z Z Z Z Z Z (by omega) (bW (i:=0) (by have:=su hx;omega))) Z (au hx Z (AN.nil)))) Z Z ?_)))
 first|refine ab (aj O Z Z Z Z Z) Z ?_|refine ab (aq O Z Z Z Z Z) Z ?_|refine ab (Val.pickB O Z Z Z Z Z) Z ?_
 refine jf [40,12,0,4,5] Z (jn ?_)
 obtain⟨n2,hn2⟩: ∃n2:Int,n2=pQ s:=⟨_,rfl⟩
 have hn2b: -100000000000<n2∧n2<100000000000:=by rw[hn2,pQ];split<;>omega
 refine bu ⟨[(0,aS8 s),(4,eI n2)],[]⟩ ?_ ?_
 refine ak Z (fun z40=>?_) (fun z40=>?_)
 refine aa (js Z (ab (aB O Z Z (by omega) (by omega)) Z (js Z (jf [4,40,12,0,5] Z (jn ?_)))))
 have h2:=uv.1 z40
 exact⟨Z,Ent.to ⟨Z,congrArg (fun z=>some (eI z)) (show 0-z.2=n2 by rw[hn2,pQ,if_pos (um.2 ⟨by omega,h2.2⟩),←hz2];omega),ao⟩ Z⟩
 refine ae ?_
 have h2:=ft z40 uv
 exact⟨Z,Ent.to ⟨Z,congrArg (fun z=>some (eI z)) (show z.2=n2 by rw[hn2,pQ,if_neg (fun e=>h2 ⟨by have:=(um.1 e).1;omega,(um.1 e).2⟩),←hz2]),ao⟩ Z⟩
 refine ag (af (js Z (aW Z (nV (x:=n2) (lo:= -1000000000) (hi:=1000000000) h1 h2) 45000 Z (ac Z (jf [46,0,4] Z (ay 4 Z Z Z (fun hx=>au hx Z (bD O hx Z Z Z Z (oq (n:=n2) h1 h2 (by omega) (by omega)) (al Z) Z Z Z Z Z Z Z (B0:=49000) Z (au hx Z (bE hx (cH (p:=Lib.itoa n2) (q:=s) O Z Z Z Z Z Z) Z (AN.nil))))) Z Z ?_))))))
 first|refine ab (aq O Z Z Z Z Z) Z ?_|refine ab (Val.pickB O Z Z Z Z Z) Z ?_|refine ab (aj O Z Z Z Z Z) Z ?_
 refine jf [51,0,4] Z (jn (ak Z (fun z51=>?_) (fun z51=>?_)))
 refine af (ac Z (jr ?_))
 refine aw Z ?_
 have h9:=rR z51 Z
 rw[hn2]at h9
 rw[show lv s=none by unfold lv;rw[if_neg (by omega),if_neg h9]]
 exact .tup (.cons (.c .d) (.cons (.c .d) .nil))
 refine ae (af (aZ Z (jr ?_)))
 refine aw Z ?_
 have h9:=rQ (by rw[z51];simp) Z
 rw[show lv s=some n2 by rw[hn2]at h9 ⊢;unfold lv;rw[if_neg (by omega),if_pos h9]]
 exact .tup (.cons (.c .d) (.cons (.c .d) .nil))
theorem oC{c:UInt8}: ∀{p:Str},c ∉ p→bO c p=[p]
 | [],_=>rfl
 | b::r,h=>by
  rw[bO,if_neg (fun e=>h (by rw[e];exact List.mem_cons_self ..)),oC (fun hh=>h (List.mem_cons_of_mem _ hh))];rfl
theorem rM{c:UInt8}{s:Str}{f i:Nat}(hf:f≤i)(hi:i<s.length)(hn:c ∉ (s.drop f).take (i-f))(hc:s.getD i 0=c):bO c (s.drop f)=(s.drop f).take (i-f)::bO c (s.drop (i+1)):=by
 have e:s.drop f=(s.drop f).take (i-f)++c::s.drop (i+1):=by
  conv=>lhs;rw[←List.take_append_drop (i-f) (s.drop f)]
  rw[List.drop_drop,show f+(i-f)=i by omega,cG hi,hc]
 conv=>lhs;rw[e]
 rw[fO _ hn]
theorem qz{c:UInt8}{s:Str}{f i:Nat}(hf:f≤i)(hi:i<s.length)(hn:c ∉ (s.drop f).take (i-f))(hc: ¬s.getD i 0=c):c ∉ (s.drop f).take (i+1-f):=by
 have e:(s.drop f).take (i+1-f)=(s.drop f).take (i-f)++[s.getD i 0]:=by
  rw[show i+1-f=(i-f)+1 by omega,List.take_succ_eq_append_getElem (by rw[List.length_drop];omega),List.getElem_drop]
  simp[show f+(i-f)=i by omega,hi]
 rw[e]
 simp only[List.mem_append,List.mem_singleton,not_or]
 exact⟨hn,fun h=>hc h.symm⟩
theorem vm{a b:UInt8}:((a.toNat:Int)=(b.toNat:Int))↔a=b:=by
 rw[Int.natCast_inj,UInt8.toNat_inj]
theorem t0{s:Str}{m:UInt8}(hs:s.length<L)(hs2:s.length≤1100000):MQ h1 h2 56 [aS8 s,.c (.d (.int .u8 (m.toNat:Int)))] [] (Plain (.c (.d (strs (bO m s))))):=by
 refine MC.data (jB 35 h1 h2 Tryz.func56 Z fun O hF=>?_)
 refine af (js Z (bq (bU (HS.lit O Z Z Z) Z (aI ?_))))
 refine js Z (bq (js Z (jn (ag (af (js Z (jn (ap (av (X:=Nat×Nat×List Str) (fun z=>⟨[(0,aS8 s),(1,.c (.d (.int .u8 (m.toNat:Int)))),(5,.c (.rs 900 0 z.2.2.length)),(6,eI (z.2.1:Nat)),(7,eI (z.1:Nat))],[(900,.row false 1 (z.2.2.map (fun p=>[sD p])))]⟩) (fun z=>z.2.1≤z.1∧z.1≤s.length∧m ∉ ((s.drop z.2.1).take (z.1-z.2.1))∧bO m s=z.2.2++bO m (s.drop z.2.1)∧z.2.2.length≤z.1) (fun z=>s.length-z.1) (0,0,[]) ((nG 8 Z).trans ((bw 8 900 Z Z).trans (Ent.to ⟨Z,Z,Z,Z,Z,ao⟩ Z))) ?_ (fun z hi=>?_))))))))))
 exact⟨bH _,cN _,by show m ∉ ((s.drop 0).take (0-0));simp,Z,bH _⟩
 refine ag (af (ac Z (ab (bd (p:=s) O Z Z Z Z Z Z Z Z Z) Z (js Z (jf [12,0,1,5,6,7] Z (jn (ak Z (fun z12=>?_) (fun z12=>?_))))))))
 refine ae (ag (ap (af (ac Z ?_))))
 have hz0:z.1<s.length:=by have:=bJ z12;omega
 have hol:z.2.2.length≤z.1:=hi.2.2.2.2
 refine ab (aO (p:=s) (b:=s.getD z.1 0) O Z Z Z Z Z Z Z (by omega) (bW hz0)) Z (ac Z (jf [19,12,0,1,5,6,7] Z (jn (ak Z (fun z19=>?_) (fun z19=>?_)))))
 refine af (bn Z (ab (dw (p:=s) (a:=z.2.1) (b:=z.1) O Z Z Z Z Z Z Z Z Z Z hi.1 hi.2.1) Z (jf [24,20,19,12,0,1,5,6,7] Z (bU (di O Z Z Z Z Z Z Z Z Z Z Z) Z (aI ?_)))))
 refine jf [25,20,19,12,0,1,5,6,7] Z (bU (kF (own:=false) (xs:=z.2.2.map (fun p=>[sD p])) (ys:=[[sD ((s.drop z.2.1).take (z.1-z.2.1))]]) (zs:=(z.2.2++[((s.drop z.2.1).take (z.1-z.2.1))]).map (fun p=>[sD p])) (n:=(z.2.2++[((s.drop z.2.1).take (z.1-z.2.1))]).length) O Z (.row Z (bl _).symm) (.whole Z Z (.inr ⟨Z,Z⟩)) (by simp) Z (by simp;omega) (by simp;omega) (by simp) (by simp)) Z (aI ?_))
 refine aI ?_
 refine js Z (jf [5,19,12,0,1,6,7] Z (jn (aa (js Z ?_))))
 first|refine ji Z ?_|refine be Z Z ?_
 refine js Z (jf [6,5,19,12,0,1,7] Z (jn (aa (js Z ?_))))
 first|refine ji Z ?_|refine be Z Z ?_
 refine js Z (jf [7,6,5,19,12,0,1] Z (jn ?_))
 refine⟨(z.1+1,z.1+1,z.2.2++[((s.drop z.2.1).take (z.1-z.2.1))]),((aD [26] (e':=[(0,_),(1,_),(5,_),(6,_),(7,_)]) Z Z ⟨Z,Z,Z,Z,Z,ao⟩ Z).trans (bw 26 900 Z Z)).trans (Ent.to ⟨Z,Z,Z,Z,Z,ao⟩ Z),⟨bH _,by show z.1+1≤_;omega,?_,?_,by show(z.2.2++[((s.drop z.2.1).take (z.1-z.2.1))]).length≤z.1+1;rw[bV];have:=hi.2.2.2.2;exact Nat.succ_le_succ this⟩,by show s.length-(z.1+1)<s.length-z.1;omega⟩
 show m ∉ ((s.drop (z.1+1)).take (z.1+1-(z.1+1)));simp
 show bO m s=(z.2.2++[((s.drop z.2.1).take (z.1-z.2.1))])++bO m (s.drop (z.1+1))
 rw[hi.2.2.2.1,rM hi.1 hz0 hi.2.2.1 (vm.1 (bJ z19))];simp
 refine ae (aa (js Z ?_))
 first|refine ji Z ?_|refine be Z Z ?_
 refine js Z (jf [7,19,12,0,1,5,6] Z (jn ?_))
 refine⟨(z.1+1,z.2.1,z.2.2),Ent.to ⟨Z,Z,Z,Z,Z,ao⟩ Z,⟨by show z.2.1≤z.1+1;have:=hi.1;omega,by show z.1+1≤_;omega,qz hi.1 hz0 hi.2.2.1 (fun e=>ck z19 (vm.2 e)),hi.2.2.2.1,by show z.2.2.length≤z.1+1;have:=hi.2.2.2.2;omega⟩,by show s.length-(z.1+1)<s.length-z.1;omega⟩
 refine aR (af (aZ Z ?_))
 have hz1:z.1=s.length:=by have:=ck z12;have:=hi.2.1;omega
 have hol:z.2.2.length≤z.1:=hi.2.2.2.2
 have hff:z.2.1≤s.length:=by have:=hi.1;omega
 refine ab ((dw (p:=s) (a:=z.2.1) (b:=s.length) O Z Z Z Z Z Z Z Z Z Z (by omega) (bH _)).cast (v':=aS8 (s.drop z.2.1)) (by rw[List.take_of_length_le (by rw[List.length_drop];omega)])) Z (jf [32,29,12,0,1,5,6,7] Z (bU (di O Z Z Z Z Z Z Z Z Z Z Z) Z (aI ?_)))
 refine jf [33,29,12,0,1,5,6,7] Z (bU (kF (own:=false) (xs:=z.2.2.map (fun p=>[sD p])) (ys:=[[sD (s.drop z.2.1)]]) (zs:=(z.2.2++[(s.drop z.2.1)]).map (fun p=>[sD p])) (n:=(z.2.2++[(s.drop z.2.1)]).length) O Z (.row Z (bl _).symm) (.whole Z Z (.inr ⟨Z,Z⟩)) (by simp) Z (by simp;omega) (by simp;omega) (by simp) (by simp)) Z (aI ?_))
 refine aI ?_
 refine js Z (jf [4,12,0,1,5,6,7] Z (jr ?_))
 refine aw Z ?_
 have hno:=hi.2.2.1
 rw[hz1,List.take_of_length_le (by rw[List.length_drop];omega)]at hno
 rw[hi.2.2.2.1,oC hno]
 exact .v (.c (.whole Z (bl _).symm))
end Go.Al
/- What the program's ReadDecimal answers: strconv.ParseInt, a bound, and the decimal text compared. -/
namespace Go.Al
variable{L:Nat}(h1:4096≤L)(h2:L≤1073741824)
open Go.Proofs Go.RowKit
theorem Frame.below{w w':World}(h:Frame w w' []):Below w.heap.size w w':=⟨h.os,h.tape,h.output,h.size,fun k hk=>h.block k hk (by simp)⟩
theorem Frame.of_below{w w':World}(h:Below w.heap.size w w'):Frame w w' []:=⟨h.os,h.tape,h.output,h.size,fun k hk _=>h.block k hk⟩
theorem GOk.below{P:Program}{w w':World}{ok:Nat→Prop}(h:GOk P w ok)(hb:Below w.heap.size w w'):GOk P w' ok:=h.mono fun b h1 h2=>⟨h2,hb.block b h1⟩
theorem MC.calls{P:Program}{L f:Nat}{args:List A}{v:A}(h:MC P L f args [] (Plain v)){w:World}{ok:Nat→Prop}{vs:List Value}(hg:GOk P w ok)(ha:RAs L w ok (fun _=>.nil) args vs) :
    Calls P f vs.toArray w (ij fun x w'=>Below w.heap.size w w'∧∃ok' m',RA L w' ok' m' v x):=by
 refine Calls.mono (h.2 w (fun _=>.nil) [] ok vs hg .nil List.nodup_nil (fun b hb=>by cases hb) (fun _ _ _ _ h=>by cases h) ha) fun e w' he=>?_
 cases e with
 | returned x=>
  obtain⟨res,H',m',F',⟨rfl,rfl⟩,_,_,_,hres,hf,_,_⟩:=he
  exact⟨hf.below,_,_,hres⟩
 | _=>exact he.elim
theorem gL{L:Nat}(h1:4096≤L)(h2:L≤1073741824){v:Int}{w:World}{ok:Nat→Prop}(hg:GOk Tryz.prog w ok)(hv: -9223372036854775808≤v∧v≤9223372036854775807) :
    Calls Tryz.prog 76 #[.int .i64 v,.int .i64 (-1000000000),.int .i64 1000000000] w fun e w'=>e= .returned (.bool (da (-1000000000) 1000000000 v))∧Below w.heap.size w w':=by
 refine Calls.mono ((kE (x:=v) (lo:= -1000000000) (hi:=1000000000) h1 h2).calls hg (vs:=[.int .i64 v,.int .i64 (-1000000000),.int .i64 1000000000]) (.cons (.c (.d (.int hv.1 hv.2))) (.cons (.c (.d (.int (by decide) (by decide)))) (.cons (.c (.d (.int (by decide) (by decide)))) .nil)))) fun e w' he=>?_
 cases e with
 | returned x=>
  obtain⟨hB,_,_,hr⟩:=he
  exact⟨by rw[hr.bool_inv],hB⟩
 | _=>exact he.elim
theorem kr{L:Nat}(h1:4096≤L)(h2:L≤1073741824){v:Int}{w:World}{ok:Nat→Prop}(hg:GOk Tryz.prog w ok)(hv: -9223372036854775808≤v∧v≤9223372036854775807) :
    Calls Tryz.prog 72 #[.int .i64 v] w fun e w'=>e= .returned (.string (bS (Lib.itoa v)))∧Below w.heap.size w w':=by
 refine Calls.mono ((mz (n:=v) h1 h2 hv.1 hv.2).calls hg (vs:=[.int .i64 v]) (.cons (.c (.d (.int hv.1 hv.2))) .nil)) fun e w' he=>?_
 cases e with
 | returned x=>
  obtain⟨hB,_,_,hr⟩:=he
  exact⟨by rw[hr.str_inv.1],hB⟩
 | _=>exact he.elim
theorem kJ{s:ByteArray}{w:World}{v:Int}{tp:TypeId}(hP:Calls Tryz.prog 75 #[.string s,.int .i64 10,.int .i64 64] w fun e w'=> ∃p,e= .returned (.tuple #[.int .i64 v,.iface tp p])∧Below w.heap.size w w') :
    Calls Tryz.prog 39 #[.string s] w fun e w'=>e= .returned (.tuple #[.int .i64 0,.bool false])∧Below w.heap.size w w':=by
 go_enter Tryz.func39,Tryz.ntmps39
 go_wp2_with fail
 refine hP.mono fun e W1 ⟨p,he,hB⟩=>?_
 subst he
 go_wp2_with fail
 go_ret2
 exact⟨Z,hB⟩
theorem pi{s:ByteArray}{w:World}{v:Int}(hP:Calls Tryz.prog 75 #[.string s,.int .i64 10,.int .i64 64] w fun e w'=>e= .returned (.tuple #[.int .i64 v,.nilIface])∧Below w.heap.size w w')
    (hI: ∀W1,Below w.heap.size w W1→Calls Tryz.prog 76 #[.int .i64 v,.int .i64 (-1000000000),.int .i64 1000000000] W1 fun e w'=>e= .returned (.bool false)∧Below W1.heap.size W1 w') :
    Calls Tryz.prog 39 #[.string s] w fun e w'=>e= .returned (.tuple #[.int .i64 0,.bool false])∧Below w.heap.size w w':=by
 go_enter Tryz.func39,Tryz.ntmps39
 go_wp2_with fail
 refine hP.mono fun e W1 ⟨he,hB⟩=>?_
 subst he
 go_wp2_with fail
 refine(hI W1 hB).mono fun e W2 ⟨he,hB2⟩=>?_
 subst he
 go_wp2_with fail
 go_ret2
 exact⟨Z,hB.trans (hB2.mono hB.size)⟩
theorem qq{w:World}{v:Int}{s d:ByteArray}(hs:d=s)(hP:Calls Tryz.prog 75 #[.string s,.int .i64 10,.int .i64 64] w fun e w'=>e= .returned (.tuple #[.int .i64 v,.nilIface])∧Below w.heap.size w w')
    (hI: ∀W1,Below w.heap.size w W1→Calls Tryz.prog 76 #[.int .i64 v,.int .i64 (-1000000000),.int .i64 1000000000] W1 fun e w'=>e= .returned (.bool true)∧Below W1.heap.size W1 w')
    (hD: ∀W1,Below w.heap.size w W1→Calls Tryz.prog 72 #[.int .i64 v] W1 fun e w'=>e= .returned (.string d)∧Below W1.heap.size W1 w') :
    Calls Tryz.prog 39 #[.string s] w fun e w'=>e= .returned (.tuple #[.int .i64 v,.bool true])∧Below w.heap.size w w':=by
 subst hs
 go_enter Tryz.func39,Tryz.ntmps39
 go_wp2_with fail
 refine hP.mono fun e W1 ⟨he,hB⟩=>?_
 subst he
 go_wp2_with fail
 refine(hI W1 hB).mono fun e W2 ⟨he,hB2⟩=>?_
 subst he
 have hB3:=hB.trans (hB2.mono hB.size)
 go_wp2_with fail
 refine(hD W2 hB3).mono fun e W3 ⟨he,hB4⟩=>?_
 subst he
 have hB5:=hB3.trans (hB4.mono hB3.size)
 go_wp2_with fail
 go_ret2
 exact⟨Z,hB5⟩
theorem qp{w:World}{v:Int}{s d:ByteArray}(hs:(!d.toList==s.toList)=true)(hP:Calls Tryz.prog 75 #[.string s,.int .i64 10,.int .i64 64] w fun e w'=>e= .returned (.tuple #[.int .i64 v,.nilIface])∧Below w.heap.size w w')
    (hI: ∀W1,Below w.heap.size w W1→Calls Tryz.prog 76 #[.int .i64 v,.int .i64 (-1000000000),.int .i64 1000000000] W1 fun e w'=>e= .returned (.bool true)∧Below W1.heap.size W1 w')
    (hD: ∀W1,Below w.heap.size w W1→Calls Tryz.prog 72 #[.int .i64 v] W1 fun e w'=>e= .returned (.string d)∧Below W1.heap.size W1 w') :
    Calls Tryz.prog 39 #[.string s] w fun e w'=>e= .returned (.tuple #[.int .i64 0,.bool false])∧Below w.heap.size w w':=by
 go_enter Tryz.func39,Tryz.ntmps39
 go_wp2_with fail
 refine hP.mono fun e W1 ⟨he,hB⟩=>?_
 subst he
 go_wp2_with fail
 refine(hI W1 hB).mono fun e W2 ⟨he,hB2⟩=>?_
 subst he
 have hB3:=hB.trans (hB2.mono hB.size)
 go_wp2_with fail
 refine(hD W2 hB3).mono fun e W3 ⟨he,hB4⟩=>?_
 subst he
 have hB5:=hB3.trans (hB4.mono hB3.size)
 go_wp2_with fail
 go_ret2
 exact⟨Z,hB5⟩
theorem tW{s:Str}(hs:s.length≤1100000):MQ h1 h2 39 [aS8 s] [] (Plain (p0 (jb s))):=by
 refine iy ⟨_,_,Tryz.func39,by kernel_rfl,Z⟩ fun w ok m vs h0 h5=>?_
 cases h5 with
 | cons a1 a2=>
  cases a2
  obtain⟨rfl,hsL⟩:=RA.str_inv a1
  have hsz:(bS s).size≤1100000:=by rw[bS_size];exact hs
  have hdl:(bS s).data.toList=s:=fN s
  have fin: ∀{n:Int} {b:Bool} {e w'},(-9223372036854775808≤n∧n≤9223372036854775807)→e=Ending.returned (.tuple #[.int .i64 n,.bool b])∧Below w.heap.size w w'→p0 (jb s)= .tup [eI n,eB b]→ij (fun x w'=>Frame w w' []∧∀ok' m',(∀b,w.heap.size≤b→ok' b)→RA L w' ok' m' (p0 (jb s)) x) e w':=by
   rintro n b e w' hn ⟨rfl,hB⟩ hv
   rw[hv]
   exact⟨.of_below hB,fun ok' m' _=>.tup (.cons (.c (.d (.int hn.1 hn.2))) (.cons (.c (.d .bool)) .nil))⟩
  cases hp:Lib.parseIntB 64 s
  case ok v=>
   have hb:=Lib.parseIntB_bounds hp
   have hb2: -9223372036854775808≤v∧v≤9223372036854775807:=by simp at hb;omega
   have hP:=(Tryz.strconv_ParseInt_10_at64_ok (bS s) (by omega) v (by rw[hdl];exact hp) w).mono (R':=fun e w'=>e= .returned (.tuple #[.int .i64 v,.nilIface])∧Below w.heap.size w w') fun e w' ⟨a,hw⟩=>⟨a,by
    rcases hw with rfl|⟨t,rfl⟩
    ·
     exact Below.refl _ _
    ·
     exact Lib.bytesWorld_below _ _ _⟩
   by_cases hr: -1000000000≤v∧v≤1000000000
   ·
    have hin:da (-1000000000) 1000000000 v=true:=by unfold da;simp[hr.1,hr.2]
    have hW:=fun(W1:World) (hB:Below w.heap.size w W1)=>show Calls Tryz.prog 76 #[.int .i64 v,.int .i64 (-1000000000),.int .i64 1000000000] W1 fun e w'=>e= .returned (.bool true)∧Below W1.heap.size W1 w' by have h:=gL h1 h2 (h0.below hB) hb2;rw[hin]at h;exact h
    have hD:=fun(W1:World) (hB:Below w.heap.size w W1)=>kr h1 h2 (h0.below hB) hb2
    have hd:(bS (Lib.itoa v)=bS s)↔Lib.itoa v=s:=⟨fun h=>by have:=congrArg (fun b=>b.data.toList) h;simpa[fN]using this,fun h=>by rw[h]⟩
    by_cases h9:Lib.itoa v=s
    ·
     refine Calls.mono (qq (hd.2 h9) hP hW hD) fun e w' he=>fin (by omega) he ?_
     unfold jb
     rw[hp]
     simp only[h9,hr,and_self,if_true];rfl
    ·
     refine Calls.mono (qp (by rw[fS,fS];simp[h9]) hP hW hD) fun e w' he=>fin (by decide) he ?_
     unfold jb
     rw[hp]
     simp only[h9,hr,and_false,if_false];rfl
   ·
    have hin:da (-1000000000) 1000000000 v=false:=by unfold da;simp;omega
    refine Calls.mono (pi hP (fun W1 hB=>by have h:=gL h1 h2 (h0.below hB) hb2;rw[hin]at h;exact h)) fun e w' he=>fin (by decide) he ?_
    unfold jb
    rw[hp]
    simp only[hr,false_and,if_false];rfl
  case range=>
   obtain⟨_,cs,hv,hc⟩:=h0 "strconv.ErrRange" 2 (by simp[GN]) (by kernel_rfl)
   obtain⟨ev,he,hev⟩:=o0 hc (.inr rfl)
   have hcell:=World.var?_cell (show Tryz.prog.globalNamed "strconv.ErrRange" = some 2 by kernel_rfl) hv 0
   rw[he]at hcell
   refine Calls.mono (kJ ((Tryz.strconv_ParseInt_10_at64_range (bS s) (by omega) (by rw[hdl];exact hp) ev w hcell hev).mono fun e w' ⟨N,a,_,_,hB⟩=>⟨_,a,hB⟩)) fun e w' he=>fin (by decide) he (by unfold jb;rw[hp];rfl)
  ·
   obtain⟨_,cs,hv,hc⟩:=h0 "strconv.ErrSyntax" 1 (by simp[GN]) (by kernel_rfl)
   obtain⟨ev,he,hev⟩:=o0 hc (.inl rfl)
   have hcell:=World.var?_cell (show Tryz.prog.globalNamed "strconv.ErrSyntax" = some 1 by kernel_rfl) hv 0
   rw[he]at hcell
   refine Calls.mono (kJ ((Tryz.strconv_ParseInt_10_at64_syntax (bS s) (by omega) (by rw[hdl];exact hp) ev w hcell hev).mono fun e w' ⟨N,a,_,_,hB⟩=>⟨_,a,hB⟩)) fun e w' he=>fin (by decide) he (by unfold jb;rw[hp];rfl)
end Go.Al
/- Instructions as texts, in plain Lean: what is written, what both readers read. -/
namespace Go.Al
variable{L:Nat}(h1:4096≤L)(h2:L≤1073741824)
open Go.Lib
def rq:List Str:=[[112,117,115,104],[108,111,97,100],[115,116,111,114,101],[97,100,100],[115,99,97,108,101],[106,117,109,112],[116,101,115,116],[103,101,116],[112,117,116],[101,109,105,116],[99,104,101,99,107],[104,97,108,116]]
def gu(op:Int):Str:=rq.getD op.toNat []
def ge(op:Int):Bool:=[(0:Int),1,2,4,5,6,9].contains op
def er(x:In):Str:=if ge x.op then gu x.op++[32]++itoa x.a else gu x.op
def dm(w:Str):Int:=match rq.findIdx? (fun v=>decide (v=w))with
  | some i=>(i:Int)
  | none=> -1
def sv(s:Str):In:=⟨dm (cut s [32]).1,if ge (dm (cut s [32]).1)then(fL (jb (cut s [32]).2.1)).1 else 0⟩
def jO(s:Str):Option In:=if aC (sv s)=true∧er (sv s)=s then some (sv s)else none
def rk(s:Str):In:=⟨dm ((bO 32 s).getD 0 []),if(bO 32 s).length=2 then(fL (jb ((bO 32 s).getD 1 []))).1 else 0⟩
def sB(s:Str):Bool:=if(bO 32 s).length=2 then(fL (jb ((bO 32 s).getD 1 []))).2 else true
def jQ(s:Str):Option In:=if sB s=true∧aC (rk s)=true∧er (rk s)=s then some (rk s)else none
theorem eC{x:In}(h:aC x=true):(0≤x.op∧x.op≤11)∧(-1000000000≤x.a∧x.a≤1000000000)∧(ge x.op=false→x.a=0):=by
 have hn: ∀{z:Int},gv z=true→ -1000000000≤z∧z≤1000000000:=fun{z} hz=>by have:=uk.1 hz;omega
 have hb: ∀{u v z:Int},da u v z=true→u≤z∧z≤v:=fun{u v z} hz=>by unfold da at hz;simpa using hz
 unfold aC at h
 split at h
 rename_i h1
 refine⟨by omega,hn h,fun h2=>?_⟩
 rcases h1 with h1|h1<;>(rw[h1]at h2;exact absurd h2 (by decide))
 split at h
 rename_i h1
 have:=hb h
 refine⟨by omega,by omega,fun h2=>?_⟩
 rcases h1 with h1|h1<;>(rw[h1]at h2;exact absurd h2 (by decide))
 split at h
 rename_i h1
 have:=hb h
 refine⟨by omega,by omega,fun h2=>?_⟩
 rcases h1 with h1|h1<;>(rw[h1]at h2;exact absurd h2 (by decide))
 split at h
 rename_i h1
 have:=hb h
 refine⟨by omega,by omega,fun h2=>?_⟩
 rw[h1]at h2;exact absurd h2 (by decide)
 split at h
 rename_i h1
 have:=bJ h
 exact⟨by omega,by omega,fun _=>this⟩
 cases h
theorem kS{c:UInt8}: ∀{p:Str},c ∉ p→index p [c]= -1
 | [],_=>rfl
 | b::p,h=>by
  rw[eW,if_neg (fun e=>h (by rw[e];exact List.mem_cons_self ..)),if_pos (kS (fun hh=>h (List.mem_cons_of_mem _ hh)))]
theorem kT{c:UInt8}(r:Str): ∀{p:Str},c ∉ p→index (p++c::r) [c]=p.length
 | [],_=>by rw[List.nil_append,eW,if_pos Z];rfl
 | b::p,h=>by
  have ih:=kT r (fun hh=>h (List.mem_cons_of_mem _ hh)) (p:=p)
  rw[List.cons_append,eW,if_neg (fun e=>h (by rw[e];exact List.mem_cons_self ..)),ih,if_neg (by omega),ep]
  omega
theorem lK{c:UInt8}{p:Str}(h:c ∉ p):cut p [c]=(p,[],false):=by
 unfold cut
 rw[kS h,if_neg (by omega)]
theorem oW{c:UInt8}{p:Str}(r:Str)(h:c ∉ p):cut (p++c::r) [c]=(p,r,true):=by
 unfold cut
 rw[kT r h,if_pos (by omega)]
 simp
theorem fW{c:UInt8}: ∀{p:Str},c ∉ p→bO c p=[p]
 | [],_=>rfl
 | b::r,h=>by
  rw[bO,if_neg (fun e=>h (by rw[e];exact List.mem_cons_self ..)),fW (fun hh=>h (List.mem_cons_of_mem _ hh))];rfl
theorem iB{P:Int→Prop}(h: ∀k:Fin 12,P (k.val:Int)){o:Int}(h0:0≤o)(h1:o≤11):P o:=by
 have:=h ⟨o.toNat,by omega⟩
 rwa[show((⟨o.toNat,by omega⟩:Fin 12).val:Int)=o by simp;omega]at this
theorem jV{o:Int}(h0:0≤o)(h1:o≤11):(32:UInt8) ∉ gu o:=iB (P:=fun o=>(32:UInt8) ∉ gu o) (by decide) h0 h1
theorem iu{o:Int}(h0:0≤o)(h1:o≤11):dm (gu o)=o:=iB (P:=fun o=>dm (gu o)=o) (by decide) h0 h1
theorem qE{n:Int}:(32:UInt8) ∉ itoa n:=by
 intro h
 unfold itoa at h
 split at h
 rcases List.mem_cons.1 h with h|h
 exact absurd h (by decide)
 have:=dM _ _ h;revert this;decide
 have:=dM _ _ h;revert this;decide
theorem rP{x:In}(h:aC x=true):sv (er x)=x:=by
 obtain⟨⟨h0,h1⟩,h2,h3⟩:=eC h
 unfold sv er
 cases ha:ge x.op with
 | true=>
  rw[if_pos Z,cM,List.singleton_append,oW _ (jV h0 h1)]
  simp only[iu h0 h1,ha,if_true]
  rw[(gZ (itoa x.a) x.a).2 ⟨h2,rfl⟩];rfl
 | false=>
  rw[if_neg (by decide),lK (jV h0 h1)]
  simp only[iu h0 h1,ha]
  have:=h3 ha
  cases x;simp_all
theorem oE{x:In}(h:aC x=true):rk (er x)=x∧sB (er x)=true:=by
 obtain⟨⟨h0,h1⟩,h2,h3⟩:=eC h
 unfold rk sB er
 cases ha:ge x.op with
 | true=>
  rw[if_pos Z,cM,List.singleton_append,fO _ (jV h0 h1),fW qE]
  have hv:=(gZ (itoa x.a) x.a).2 ⟨h2,rfl⟩
  simp[iu h0 h1,hv,fL]
 | false=>
  rw[if_neg (by decide),fW (jV h0 h1)]
  have:=h3 ha
  simp[iu h0 h1]
  cases x;simp_all
theorem mQ(s:Str)(x:In):jO s=some x↔aC x=true∧s=er x:=by
 unfold jO
 constructor
 intro h
 split at h
 rename_i h2;cases h;exact⟨h2.1,h2.2.symm⟩
 cases h
 rintro⟨h,rfl⟩
 rw[rP h,if_pos ⟨h,rfl⟩]
theorem kM(s:Str)(x:In):jQ s=some x↔aC x=true∧s=er x:=by
 unfold jQ
 constructor
 intro h
 split at h
 rename_i h2;cases h;exact⟨h2.2.1,h2.2.2.symm⟩
 cases h
 rintro⟨h,rfl⟩
 rw[(oE h).1,(oE h).2,if_pos ⟨rfl,h,rfl⟩]
theorem r3(s:Str):jO s=jQ s:=by
 cases h:jO s with
 | some x=>exact((kM s x).2 ((mQ s x).1 h)).symm
 | none=>
  cases h2:jQ s with
  | none=>rfl
  | some x=>rw[(mQ s x).2 ((kM s x).1 h2)]at h;cases h
end Go.Al
/- Annotated code as text, in plain Lean: what is written, what is read. -/
namespace Go.Al
variable{L:Nat}(h1:4096≤L)(h2:L≤1073741824)
open Go.Lib
def bK:Str:=[112,114,101]
def bj:Str:=[112,111,115,116]
def gt:Str:=[97,116]
def bm:Str:=[112,111,105,110,116]
def bA(w:Str)(fs:List Tm):List Str:=fs.map fun t=>w++[32]++tS t
def nZ(a:An)(i:Nat):List Str:=(match a.pts.findIdx? (fun p=>decide (p.k=(i:Int)))with
  | none=>[]
  | some k=>bm::bA gt (a.pts.getD k default).fs)++[er (a.code.getD i default)]
def cz(a:An):Nat→List Str
  | 0=>[]
  | i+1=>cz a i++nZ a i
def et(a:An):List Str:=bA bK a.pre++bA bj a.post++cz a a.code.length
def dO(a:An):Str:=bb 10 (et a)
theorem bM(c:UInt8): ∀(p q:List Str),bb c (p++q)=bb c p++bb c q
 | [],q=>rfl
 | x::p,q=>by rw[List.cons_append,bb,bM c p q,bb];simp
def f9(a:An)(l:Str):Option An:=
  if(cut l [32]).1=bK∧(dd (e8 (cut l [32]).2.1)).2=true then some ⟨a.pre++[(dd (e8 (cut l [32]).2.1)).1],a.post,a.code,a.pts⟩
  else if(cut l [32]).1=bj∧(dd (e8 (cut l [32]).2.1)).2=true then some ⟨a.pre,a.post++[(dd (e8 (cut l [32]).2.1)).1],a.code,a.pts⟩
  else if l=bm then some ⟨a.pre,a.post,a.code,a.pts++[⟨(a.code.length:Int),[]⟩]⟩
  else if(cut l [32]).1=gt∧(dd (e8 (cut l [32]).2.1)).2=true∧0<a.pts.length then
    some ⟨a.pre,a.post,a.code,a.pts.set (a.pts.length-1) ⟨(a.pts.getD (a.pts.length-1) default).k,(a.pts.getD (a.pts.length-1) default).fs++[(dd (e8 (cut l [32]).2.1)).1]⟩⟩
  else match jO l with
    | none=>none
    | some x=>some ⟨a.pre,a.post,a.code++[x],a.pts⟩
def bI:List Str→An→Option An
  | [],a=>some a
  | l :: r,a=>match f9 a l with
    | none=>none
    | some b=>bI r b
theorem fE: ∀{ls:List Str} {l:Str} {a:An},bI (ls++[l]) a=match bI ls a with
    | none=>none
    | some b=>f9 b l
  | [],l,a=>by
    rw[List.nil_append,bI,bI]
    simp only
    cases f9 a l with
    | none=>rfl
    | some b=>rfl
  | x :: r,l,a=>by
    rw[List.cons_append,bI,bI]
    cases f9 a x with
    | none=>rfl
    | some b=>exact fE
theorem gq: ∀{ls r:List Str} {l:Str} {a b:An},bI ls a=some b→f9 b l=none→bI (ls++l::r) a=none
 | [],r,l,a,b,h,hl=>by rw[bI]at h;cases h;rw[List.nil_append,bI,hl]
 | x::ls,r,l,a,b,h,hl=>by
  rw[bI]at h
  rw[List.cons_append,bI]
  cases hx:f9 a x with
  | none=>rfl
  | some c=>rw[hx]at h;exact gq h hl
abbrev an0:An:=⟨[],[],[],[]⟩
def rdA(t:Str):Option An:=match bI (bO 10 t).dropLast an0 with
  | none=>none
  | some a=>if(bO 10 t).getLast? = some []∧annB a=true∧dO a=t then some a else none
theorem jI{c:UInt8}{B:Nat}: ∀{ls:List Str},(∀l∈ls,l.length≤B)→(bb c ls).length≤(B+1)*ls.length
 | [],_=>by simp[bb]
 | l::r,h=>by
  have h1:=jI (c:=c) (ls:=r) fun x hx=>h x (List.mem_cons_of_mem _ hx)
  have h2:=h l (List.mem_cons_self ..)
  rw[bb,bV,ep,ep,Nat.mul_add]
  omega
theorem j8{t:Tm}(h:t.term=true):(tS t).length≤45:=by
 unfold Tm.term at h
 simp only[bh,decide_eq_true_eq]at h
 obtain⟨h1,h2,h3⟩:=ip h.1
 have h4:=ow (i:=0) (out:=[]) h2
 have h5:=rG (out:=tX 0 t.xs []) h1
 have h6:=h.2
 unfold tS so tZ
 split
 decide
 simp only[List.length_nil]at h4;omega
theorem terms_sp{ts:List Tm}{n:Nat}(h:terms ts n=true):(∀t∈ts,t.term=true)∧ts.length≤n:=by
 unfold terms at h
 simp only[bh,decide_eq_true_eq,List.all_eq_true]at h
 exact⟨h.1,by omega⟩
theorem dJ{w:Str}{fs:List Tm}(hw:w.length≤4)(h:terms fs 6=true):(bb 10 (bA w fs)).length≤306:=by
 obtain⟨h1,h2⟩:=terms_sp (n:=6) h
 have h3:=jI (c:=10) (B:=50) (ls:=bA w fs) fun l hl=>by
  unfold bA at hl
  obtain⟨t,ht,rfl⟩:=List.mem_map.1 hl
  have:=j8 (h1 t ht)
  simp only[bV,pP];omega
 unfold bA at h3
 rw[bl]at h3
 unfold bA
 omega
theorem kf{o:Int}(h0:0≤o)(h1:o≤11):(gu o).length≤5:=iB (P:=fun o=>(gu o).length≤5) (by decide) h0 h1
theorem kh{x:In}(h:aC x=true):(er x).length≤17:=by
 obtain⟨⟨h0,h1⟩,h2,_⟩:=eC h
 have h3:=kf h0 h1
 have h4:=ic h2
 unfold er
 split
 simp only[bV,pP];omega
 omega
theorem annB_sp{a:An}(h:annB a=true):(∀i,i<a.code.length→aC (a.code.getD i default)=true)∧a.code.length≤80∧1≤a.code.length∧terms a.pre 6=true∧terms a.post 6=true∧a.pts.length≤8∧∀k,k<a.pts.length→terms (a.pts.getD k default).fs 6=true:=by
 unfold annB dD at h
 simp only[bh,decide_eq_true_eq,List.all_eq_true]at h
 obtain⟨⟨h1,h2⟩,h3,h4,h5,h6⟩:=h
 unfold da at h2
 simp only[bh,decide_eq_true_eq]at h2
 refine⟨fun i hi=>by rw[getD_lt hi];exact h1 _ (List.getElem_mem hi),by omega,by omega,h3,h4,h5,fun k hk=>?_⟩
 unfold nb at h6
 have:=List.all_eq_true.1 h6 k (List.mem_range.2 hk)
 unfold nS at this
 simp only[bh]at this
 exact this.1.2
theorem m3{a:An}(h:annB a=true){i:Nat}(hi:i<a.code.length):(bb 10 (nZ a i)).length≤330:=by
 obtain⟨h1,_,_,_,_,_,h7⟩:=annB_sp h
 have h2:=kh (h1 i hi)
 unfold nZ
 rw[bM,bV]
 have h8:(bb 10 [er (a.code.getD i default)]).length≤18:=by
  simp only[bb,bV,ep,List.length_nil];omega
 cases hk:a.pts.findIdx? (fun p=>decide (p.k=(i:Int)))with
 | none=>show 0+_≤330;omega
 | some k=>
  have hkl:k<a.pts.length:=by
   have:=List.findIdx?_eq_some_iff_findIdx_eq.1 hk
   omega
  have h9:=dJ (w:=gt) (by decide) (h7 k hkl)
  show(bm++10::bb 10 (bA gt (a.pts.getD k default).fs)).length+_≤330
  rw[bV,ep]
  have:bm.length=5:=rfl
  omega
theorem iH{a:An}(h:annB a=true): ∀{n:Nat},n≤a.code.length→(bb 10 (cz a n)).length≤330*n
 | 0,_=>by simp[cz,bb]
 | n+1,hn=>by
  have h1:=iH h (n:=n) (by omega)
  have h2:=m3 h (i:=n) (by omega)
  rw[cz,bM,bV]
  omega
theorem jp{a:An}(h:annB a=true):(dO a).length≤30000:=by
 obtain⟨_,h1,_,h3,h4,_,_⟩:=annB_sp h
 have q1:=dJ (w:=bK) (by decide) h3
 have q2:=dJ (w:=bj) (by decide) h4
 have q3:=iH h (n:=a.code.length) (bH _)
 unfold dO et
 rw[bM,bM,bV,bV]
 omega
theorem pm{t:Str}(h:40000<t.length):rdA t=none:=by
 unfold rdA
 split
 rfl
 rw[if_neg]
 rintro⟨_,h2,h3⟩
 have:=jp h2
 rw[h3]at this
 omega
def kA(s:Str):Prop:=40000<s.length∨(s≠[]∧s.getLast? ≠some 10)
instance(s:Str):Decidable (kA s):=by unfold kA;infer_instance
abbrev sI(s:Str):A:=if kA s then .tup [.c (.d (strs [])),eB false]else .tup [.c (.d (strs (bO 10 s).dropLast)),eB true]
theorem mX{f:Str}(h:f≠[]):f.getLast? = some 10↔((f.getD (f.length-1) 0).toNat:Int)=10:=by
 have hl:=List.length_pos_iff.2 h
 rw[List.getLast?_eq_getElem?,List.getElem?_eq_getElem (by omega),show((f.getD (f.length-1) 0).toNat:Int)=10↔f.getD (f.length-1) 0=10 from em (n:=10) (by decide)]
 simp[show f.length-1<f.length by omega]
theorem sR{f:Str}{b:Prop}[Decidable b](hb:f≠[]→(f.getLast? = some 10↔b)):(bif decide ((40000:Int)<(f.length:Int))then true else(bif !decide (f=[])then !decide b else false))=true↔kA f:=by
 unfold kA
 by_cases h0:(40000:Int)<(f.length:Int)
 simp[h0,show 40000<f.length by omega]
 by_cases h:f=[]
 simp[h]
 have:=hb h
 by_cases h2:b<;>simp_all<;>omega
theorem t3{s:Str}(hL:1048576<L)(hs:s.length≤1048576):MQ h1 h2 10 [aS8 s] [] (Plain (sI s)):=by
 refine MC.data (jB 27 h1 h2 Tryz.func10 Z fun O hF=>?_)
 refine af (ac Z (jn (ag (af (js Z (ab (bd (p:=s) O Z Z Z Z Z Z Z Z Z) Z (ac Z (jf [8,3,2,0] Z (ay 10 Z Z Z (fun hx=>au hx Z (bE hx (cH (p:=s) (q:=[]) O Z Z Z Z Z Z) Z (au hx Z (lQ 6 Z Z Z Z (fun hx'=>au hx' Z (au hx' Z (bE hx' (bd (p:=s) O Z Z Z Z Z Z Z Z Z) Z (bE hx' (vF Z) Z (bE hx' (aO (p:=s) (b:=s.getD (s.length-1) 0) O Z Z Z Z Z Z Z (r7 hx') (uQ (sQ hx'))) Z (au hx' Z (AN.nil))))))) Z Z (bE hx (aj O Z Z Z Z Z) Z (AN.nil)))))) Z Z ?_)))))))))
 first|refine ab (aq O Z Z Z Z Z) Z ?_|refine ab (Val.pickB O Z Z Z Z Z) Z ?_|refine ab (aj O Z Z Z Z Z) Z ?_
 refine jf [19,3,2,0] Z (jn (ak Z (fun z19=>?_) (fun z19=>?_)))
 refine af (ac Z (jr ?_))
 refine aw Z ?_
 have hyes:kA s:=(sR fun h=>mX h).1 z19
 rw[show sI s=_ from if_pos hyes]
 exact .tup (.cons (.c .nils) (.cons (.c .d) .nil))
 refine ae (af ?_)
 have hno: ¬kA s:=ft z19 (sR fun h=>mX h)
 have hQ0:=j9 10 s
 obtain⟨Q,q0,hQ,_,_,_⟩:=eu 10 s
 refine js Z (jf [20,3,2,0] Z (aY O Z Z Z Z ((t4 (s:=s) (sep:=[10]) h1 h2 (by simp) (by rw[jT];omega)).plain (v:=_) (u:=.c (.d (strs (bO 10 s)))) (by rw[jT])) (al Z) Z Z Z Z (B0:=22000) Z Z (js Z (jf [4,3,2,0] Z (bq ?_)))))
 rw[hQ]
 have hQl:(Q++[q0]).length=Q.length+1:=by simp
 rw[hQ]at hQ0
 refine ac Z (ab ((bN O Z Z Z Z Z Z Z Z).cast (v':=eI (Q.length+1:Nat)) (by rw[hQl])) Z (ab ((aB O Z Z (by omega) (by omega)).cast (v':=eI (Q.length:Nat)) (congrArg eI (by omega))) Z (ab (mf (a:=0) (b:=Q.length) (ys:=Q.map fun p=>[sD p]) O Z Z Z Z Z Z Z Z Z Z (by simp[nat?]) ⟨cN _,by simp⟩ (by simp)) Z (ac Z (jf [3,2,0] Z (jr ?_))))))
 refine aw Z ?_
 rw[show sI s=_ from if_neg hno,hQ,List.dropLast_concat]
 exact .tup (.cons (.c .d) (.cons (.c .d) .nil))
end Go.Al
/- Annotated code as text: what a text that is no list of lines comes to. -/
namespace Go.Al
variable{L:Nat}(h1:4096≤L)(h2:L≤1073741824)
open Go.Lib
theorem qI{t:Str}(h: ¬(t≠[]∧t.getLast? ≠some 10)):(bO 10 t).getLast? = some []:=by
 obtain⟨ps,q,h1,h2,h3,h4⟩:=eu 10 t
 rw[h1,List.getLast?_concat]
 by_cases hq:q=[]
 rw[hq]
 exfalso
 apply h
 refine⟨fun e=>?_,fun e=>?_⟩
 rw[e]at h2
 exact hq (List.append_eq_nil_iff.1 h2.symm).2
 rw[h2,List.getLast?_append]at e
 cases hl:q.getLast? with
 | none=>exact hq (List.getLast?_eq_none_iff.1 hl)
 | some b=>
  rw[hl]at e
  have hb:b=10:=by simpa using e
  exact h3 (by rw[←hb];exact List.mem_of_getLast? hl)
theorem pH{t:Str}(h:t≠[]∧t.getLast? ≠some 10):(bO 10 t).getLast? ≠some []:=by
 obtain⟨ps,q,h1,h2,h3,h4⟩:=eu 10 t
 rw[h1,List.getLast?_concat]
 intro e
 have hq:q=[]:=Option.some.inj e
 rw[hq,List.append_nil]at h2
 by_cases hp:ps=[]
 rw[hp]at h2;exact h.1 h2
 exact h.2 (by rw[h2];exact jJ 10 hp)
theorem qu{t:Str}(h:kA t):rdA t=none:=by
 rcases h with h|h
 exact pm h
 unfold rdA
 split
 rfl
 rw[if_neg]
 rintro⟨h2,_⟩
 exact pH h h2
theorem oM{t:Str}(h: ¬kA t):rdA t=match bI (bO 10 t).dropLast an0 with
 | none=>none
 | some a=>if annB a=true∧dO a=t then some a else none:=by
 have h1:=qI (t:=t) fun h2=>h (.inr h2)
 unfold rdA
 cases bI (bO 10 t).dropLast an0 with
 | none=>rfl
 | some a=>simp only[h1,true_and]
end Go.Al
