/- Texts of oE and of sequents: plain Lean, the writers and the readers, walked; what the package-level variables hold. -/
import Derived.Lib.ItoaNum
import Derived.Lib.Split
import Derived.Test.YtlofbdghppgnbaaDoorH
import Derived.Test.YtlofbdghppgnbaaDoorC
import Derived.Test.YtlofbdghppgnbaaDoorS
import Derived.Test.YtlofbdghppgnbaaDoorTie
import Derived.Test.YtlofbdghppgnbaaDoorCards
import Derived.ProofKit
import Derived.OpenShut
import Derived.LaidMore
import Derived.LaidLaws
import Derived.Lay
import Derived.SevenTiedAt
import Derived.Shelf.Vars
import Derived.Stop.Joined
set_option linter.unusedVariables false
set_option linter.unusedSimpArgs false
set_option maxRecDepth 10000
set_option maxHeartbeats 4000000
open Go.Proofs
/- Terms as texts, in plain Lean: what is written, what is read, and that a written term is read back. -/
namespace Go.Al
variable{L:Nat}(h1:4096≤L)(h2:L≤1073741824)
open Go.Lib
abbrev Str:=List UInt8
def eo(i:Nat):UInt8:=UInt8.ofNat (97+i)
def cz(out:Str)(n:Int):Str:=if n<0 then[45]else if out=[]then[]else[43]
def tC(out:Str)(i:Nat)(c:Int):Str:=if c=0 then out else out++cz out c++(if c.natAbs=1 then[]else decDigits c.natAbs)++[eo i]
def tX:Nat→List Int→Str→Str
  | _,[],out=>out
  | i,c::r,out=>tX (i+1) r (tC out i c)
def tK(out:Str)(c:Int):Str:=if c=0 then out else out++cz out c++decDigits c.natAbs
def tZ(out:Str):Str:=if out=[]then[48]else out
def nO(c:Int)(xs:List Int):Str:=tZ (tK (tX 0 xs []) c)

def go(b:UInt8):Bool:=decide (48≤b.toNat)&&decide (b.toNat≤57)
def lA(b:UInt8):Bool:=decide (97≤b.toNat)&&decide (b.toNat<107)
def aV:Nat→Int→Str→Int×Str
  | 0,n,l=>(n,l)
  | _+1,n,[]=>(n,[])
  | k+1,n,b::r=>if go b then aV k (10*n+(b.toNat-48:Int)) r else(n,b::r)
theorem eb{k:Nat}{n:Int}{b:UInt8}{r:Str}(h:go b=false):aV k n (b::r)=(n,b::r):=by
 cases k with
 | zero=>rfl
 | succ k=>rw[aV,if_neg (by simp[h])]
theorem gJ{k:Nat}{n:Int}:aV k n []=(n,[]):=by cases k<;>rfl
theorem cj{d:Nat}(h:d<10):(UInt8.ofNat (48+d)).toNat=48+d:=by
 rw[UInt8.toNat_ofNat'];omega
theorem gK{k:Nat}{n:Int}{d:Nat}(h:d<10){r:Str}:aV (k+1) n (UInt8.ofNat (48+d)::r)=aV k (10*n+d) r:=by
 rw[aV,if_pos (by unfold go;rw[cj h];simp;omega),cj h]
 congr 1;omega
theorem gL(m:Nat): ∀(k:Nat) (n:Int) (r:Str),nDigits m≤k→aV k n (decDigits m++r)=aV (k-nDigits m) (n*(10^nDigits m:Nat)+m) r:=by
 induction m using Nat.strongRecOn with
 | _ m ih=>
  intro k n r hk
  by_cases h:m<10
  rw[decDigits,dif_pos h,nDigits_small h]at *
  obtain⟨k,rfl⟩: ∃j,k=j+1:=⟨k-1,by omega⟩
  rw[List.singleton_append,gK h,Nat.add_sub_cancel]
  congr 1;simp;omega
  rw[nDigits_big h]at hk ⊢
  rw[decDigits,dif_neg h,ca,List.singleton_append,ih (m/10) (by omega) k n _ (by omega)]
  obtain⟨j,hj⟩: ∃j,k-nDigits (m/10)=j+1:=⟨k-nDigits (m/10)-1,by omega⟩
  rw[hj,gK (Nat.mod_lt _ (by decide)),show k-(nDigits (m/10)+1)=j by omega]
  congr 1
  rw[Nat.pow_succ,Int.natCast_mul]
  have:(m:Int)=10*((m/10:Nat):Int)+((m%10:Nat):Int):=by omega
  generalize (10^nDigits (m/10):Nat)=p at *
  rw[Int.mul_add,Int.add_assoc,←this]
  congr 1
  rw[show((10:Nat):Int)=10 from Z,Int.mul_comm 10 (n*_),Int.mul_assoc]
theorem ee{m k:Nat}(h:m<10^(k+1)):nDigits m≤k+1:=by
 induction k generalizing m with
 | zero=>rw[nDigits_small (by simpa using h)];exact bp _
 | succ k ih=>
  by_cases hm:m<10
  rw[nDigits_small hm];omega
  rw[nDigits_big hm]
  have:=ih (m:=m/10) (by rw[Nat.pow_succ]at h;omega)
  omega
theorem ch(m:Nat):decDigits m≠[]:=by
 rw[decDigits];split<;>simp
theorem cK(m:Nat): ∀b∈decDigits m,go b=true:=by
 induction m using Nat.strongRecOn with
 | _ m ih=>
  intro b hb
  rw[decDigits]at hb
  split at hb
  rename_i h
  rw[List.mem_singleton.1 hb];unfold go;rw[cj h];simp;omega
  rename_i h
  rcases List.mem_append.1 hb with hb|hb
  exact ih (m/10) (by omega) b hb
  rw[List.mem_singleton.1 hb];unfold go;rw[cj (Nat.mod_lt _ (by decide))];simp;omega
theorem iW: ∀(k:Nat) (n:Int) (l:Str),(aV k n l).2.length≤l.length
 | 0,n,l=>bp _
 | k+1,n,[]=>bp _
 | k+1,n,b::r=>by
  rw[aV]
  split
  exact Nat.le_trans (iW k _ r) (Nat.le_succ _)
  exact bp _
def fK:Str→Int×Str
  | []=>(1,[])
  | b::r=>if b=45 then(-1,r)else if b=43 then(1,r)else(1,b::r)
theorem mQ(l:Str):(fK l).2.length≤l.length:=by
 cases l with
 | nil=>exact bp _
 | cons b r=>
  rw[fK]
  split
  exact Nat.le_succ _
  split
  exact Nat.le_succ _
  exact bp _
def bn(xs:List Int)(i:Nat)(n:Int):List Int:=xs.set i (xs.getD i 0+n)
def jE(l:Str):Option (Str×Option Nat×Int):=
  let a:=fK l
  let d:=aV 8 0 a.2
  match d.2 with
  | b::r=>if lA b then some (r,some (b.toNat-97),a.1*(if d.2.length=a.2.length then 1 else d.1))else if d.2.length=a.2.length then none else some (d.2,none,a.1*d.1)
  | []=>if d.2.length=a.2.length then none else some (d.2,none,a.1*d.1)
theorem jL{l r:Str}{i:Option Nat}{n:Int}(h:jE l=some (r,i,n)):r.length<l.length:=by
 have h1:=mQ l
 have h2:=iW 8 0 (fK l).2
 unfold jE at h
 simp only at h
 split at h
 rename_i b r' hd
 split at h
 cases h
 have:(aV 8 0 (fK l).2).2.length=r.length+1:=by rw[hd];rfl
 omega
 split at h
 cases h
 cases h;rename_i hne _;rw[hd]at h2;rw[hd]at *;omega
 rename_i hd
 split at h
 cases h
 cases h;rename_i hne;rw[hd]at h2;rw[hd]at *;omega
def e5(l:Str)(xs:List Int)(c:Int):Option (List Int×Int):=
  if l=[]then some (xs,c)else
  match h:jE l with
  | none=>none
  | some (r,some i,n)=>e5 r (bn xs i n) c
  | some (r,none,n)=>e5 r xs (c+n)
termination_by l.length
decreasing_by all_goals exact jL h
theorem cZ{xs:List Int}{c:Int}:e5 [] xs c=some (xs,c):=by rw[e5];simp
theorem ir{l r:Str}{xs:List Int}{c n:Int}{i:Nat}(h:jE l=some (r,some i,n)):e5 l xs c=e5 r (bn xs i n) c:=by
 have hl:l≠[]:=fun e=>by have:=jL h;rw[e]at this;exact absurd this (Nat.not_lt_zero _)
 rw[e5,if_neg hl]
 split
 rename_i e;rw[h]at e;cases e
 rename_i e;rw[h]at e;cases e;rfl
 rename_i e;rw[h]at e;cases e
theorem fD{l r:Str}{xs:List Int}{c n:Int}(h:jE l=some (r,none,n)):e5 l xs c=e5 r xs (c+n):=by
 have hl:l≠[]:=fun e=>by have:=jL h;rw[e]at this;exact absurd this (Nat.not_lt_zero _)
 rw[e5,if_neg hl]
 split
 rename_i e;rw[h]at e;cases e
 rename_i e;rw[h]at e;cases e
 rename_i e;rw[h]at e;cases e;rfl
theorem iY{l:Str}{xs:List Int}{c:Int}(hl:l≠[])(h:jE l=none):e5 l xs c=none:=by
 rw[e5,if_neg hl]
 split
 rfl
 rename_i e;rw[h]at e;cases e
 rename_i e;rw[h]at e;cases e
def jF(f:Bool)(n:Int):Str:=if n<0 then[45]else if f then[43]else[]
def jG(n:Int):Str:=if n.natAbs=1 then[]else decDigits n.natAbs
def pX:Bool→Nat→List Int→Str
  | _,_,[]=>[]
  | f,i,c::r=>if c=0 then pX f (i+1) r else jF f c++jG c++(eo i::pX true (i+1) r)
def pK(f:Bool)(c:Int):Str:=if c=0 then[]else jF f c++decDigits c.natAbs
def ne(s:Str):Bool:=!s.isEmpty
theorem lR(out:Str)(n:Int):cz out n=jF (ne out) n:=by
 unfold cz jF ne;cases out<;>simp
theorem mY: ∀(xs:List Int) (i:Nat) (out:Str),tX i xs out=out++pX (ne out) i xs
 | [],i,out=>by simp[tX,pX]
 | c::r,i,out=>by
  rw[tX,mY r,pX]
  unfold tC
  by_cases h:c=0
  simp[h]
  rw[if_neg h,if_neg h,lR]
  have:ne (out++jF (ne out) c++(if c.natAbs=1 then[]else decDigits c.natAbs)++[eo i])=true:=by simp[ne]
  rw[this]
  simp[jG]
theorem oF(out:Str)(c:Int):tK out c=out++pK (ne out) c:=by
 unfold tK pK
 by_cases h:c=0
 simp[h]
 rw[if_neg h,if_neg h,lR];simp
theorem jK(c:Int)(xs:List Int):nO c xs=tZ (pX false 0 xs++pK (ne (pX false 0 xs)) c):=by
 unfold nO
 rw[oF,mY];simp[ne]
theorem dC{i:Nat}(h:i<10):(eo i).toNat=97+i:=by
 unfold eo;rw[UInt8.toNat_ofNat'];omega
theorem eA{i:Nat}(h:i<10):lA (eo i)=true:=by unfold lA;rw[dC h];simp;omega
theorem iz{i:Nat}(h:i<10):go (eo i)=false:=by unfold go;rw[dC h];simp;omega
theorem me{b:UInt8}(h:go b=true∨lA b=true):b≠45∧b≠43:=by
 constructor<;>(rintro rfl;revert h;decide)
theorem iV{f:Bool}{n:Int}{l:Str}(h:n<0∨∃b r,l=b::r∧(go b=true∨lA b=true))(hl:n<0→True):fK (jF f n++l)=(if n<0 then -1 else 1,l):=by
 unfold jF
 by_cases hn:n<0
 rw[if_pos hn,if_pos hn];rfl
 rw[if_neg hn,if_neg hn]
 obtain⟨b,r,rfl,hb⟩:=h.resolve_left hn
 have:=me hb
 cases f with
 | true=>rfl
 | false=>simp only[Bool.false_eq_true,if_false,List.nil_append];rw[fK,if_neg this.1,if_neg this.2]
theorem cS(n:Int):(if n<0 then -1 else 1)*(n.natAbs:Int)=n:=by
 by_cases h:n<0
 rw[if_pos h];omega
 rw[if_neg h];omega
theorem nX{m:Nat}(h:m<100000000):nDigits m≤8:=ee (k:=7) (by simpa using h)
theorem jd(m:Nat)(l:Str): ∃b r,decDigits m++l=b::r∧go b=true:=by
 cases h:decDigits m with
 | nil=>exact absurd h (ch m)
 | cons b r=>exact⟨b,r++l,Z,cK m b (by rw[h];simp)⟩
theorem kQ(m:Nat):0<(decDigits m).length:=List.length_pos_iff.2 (ch m)
theorem jZ{m:Nat}(h:m<100000000){b:UInt8}{r:Str}(hb:go b=false):aV 8 0 (decDigits m++b::r)=((m:Int),b::r):=by
 rw[gL m 8 0 _ (nX h),eb hb];simp
theorem k5{m:Nat}(h:m<100000000):aV 8 0 (decDigits m)=((m:Int),([]:Str)):=by
 have:=gL m 8 0 [] (nX h)
 rw[List.append_nil]at this
 rw[this,gJ];simp
theorem mJ{f:Bool}{c:Int}{i:Nat}{r:Str}(hi:i<10)(h0:c≠0)(hc:c.natAbs<100000000):jE (jF f c++jG c++(eo i::r))=some (r,some i,c):=by
 have hd: ∃b q,jG c++(eo i::r)=b::q∧(go b=true∨lA b=true):=by
  unfold jG
  split
  exact⟨_,_,Z,.inr (eA hi)⟩
  obtain⟨b,q,h1,h2⟩:=jd c.natAbs (eo i::r)
  exact⟨b,q,h1,.inl h2⟩
 unfold jE
 rw[ca,iV (.inr hd) (fun _=>trivial)]
 simp only
 have hr:aV 8 0 (jG c++(eo i::r))=(if c.natAbs=1 then 0 else(c.natAbs:Int),eo i::r):=by
  unfold jG
  by_cases h:c.natAbs=1
  rw[if_pos h,if_pos h];exact eb (iz hi)
  rw[if_neg h,if_neg h];exact jZ hc (iz hi)
 rw[hr]
 simp only[eA hi,if_true,dC hi,Nat.add_sub_cancel_left]
 have e:(if c<0 then -1 else 1)*(if(eo i::r).length=(jG c++eo i::r).length then 1 else if c.natAbs=1 then 0 else(c.natAbs:Int))=c:=by
  by_cases h:c.natAbs=1
  have:jG c=[]:=by unfold jG;rw[if_pos h]
  rw[this,if_pos (show(eo i::r).length=(([]:Str)++eo i::r).length from Z),Int.mul_one]
  have e2:=cS c;rw[h]at e2;simpa only[Int.natCast_one,Int.mul_one]using e2
  have:jG c=decDigits c.natAbs:=by unfold jG;rw[if_neg h]
  rw[this,if_neg h,if_neg (show¬(eo i::r).length=(decDigits c.natAbs++eo i::r).length by have:=kQ c.natAbs;rw[dh];omega)]
  exact cS c
 rw[e]
theorem mK{f:Bool}{c:Int}(h0:c≠0)(hc:c.natAbs<100000000):jE (jF f c++decDigits c.natAbs)=some ([],none,c):=by
 have hd: ∃b q,decDigits c.natAbs=b::q∧(go b=true∨lA b=true):=by
  obtain⟨b,q,h1,h2⟩:=jd c.natAbs []
  rw[List.append_nil]at h1
  exact⟨b,q,h1,.inl h2⟩
 unfold jE
 rw[iV (.inr hd) (fun _=>trivial)]
 simp only
 rw[k5 hc]
 simp only
 rw[if_neg (show¬([]:Str).length=(decDigits c.natAbs).length by have:=kQ c.natAbs;simp only[List.length_nil];omega),cS]
def e9:Nat→List Int→List Int→List Int
  | _,[],ys=>ys
  | i,c::r,ys=>e9 (i+1) r (bn ys i c)
theorem kd{ys:List Int}{i:Nat}:bn ys i 0=ys:=by
 unfold bn
 rw[Int.add_zero]
 apply List.ext_getElem?
 intro j
 rw[List.getElem?_set]
 split
 rename_i h;subst h
 split
 rename_i h;simp[List.getD_eq_getElem?_getD,h]
 rename_i h;rw[List.getElem?_eq_none (by omega)]
 rfl
theorem ie: ∀(xs:List Int) (i:Nat) (f:Bool) (ys:List Int) (c0:Int) (t:Str),i+xs.length≤10→(∀x∈xs,x.natAbs<100000000)→e5 (pX f i xs++t) ys c0=e5 t (e9 i xs ys) c0
 | [],i,f,ys,c0,t,_,_=>rfl
 | c::r,i,f,ys,c0,t,hi,hx=>by
  rw[pX,e9]
  simp only[gj]at hi
  by_cases h:c=0
  rw[if_pos h,ie r (i+1) f ys c0 t (by omega) (fun x hx'=>hx x (List.mem_cons_of_mem _ hx')),h,kd]
  rw[if_neg h,ca,List.cons_append,ir (mJ (by omega) h (hx c (List.mem_cons_self ..))),ie r (i+1) true _ c0 t (by omega) (fun x hx'=>hx x (List.mem_cons_of_mem _ hx'))]
theorem nA{c:Int}{xs:List Int}(hl:xs.length≤10)(hx: ∀x∈xs,x.natAbs<100000000)(hc:c.natAbs<100000000)(ys:List Int):e5 (nO c xs) ys 0=some (e9 0 xs ys,c):=by
 rw[jK]
 unfold tZ
 by_cases h:pX false 0 xs++pK (ne (pX false 0 xs)) c=[]
 rw[if_pos h]
 obtain⟨h1,h2⟩:=List.append_eq_nil_iff.1 h
 have z0:c=0:=by
  unfold pK at h2
  by_cases h0:c=0
  exact h0
  rw[if_neg h0]at h2
  exact absurd (List.append_eq_nil_iff.1 h2).2 (ch _)
 have hp:=ie xs 0 false ys 0 [] (by omega) hx
 rw[h1,List.append_nil,cZ,cZ]at hp
 have:jE [48]=some ([],none,0):=by decide
 rw[fD this,cZ,z0]
 simp only[dd,Prod.mk.injEq]at hp
 rw[←hp.1];simp
 rw[if_neg h,ie xs 0 false ys 0 _ (by omega) hx]
 unfold pK
 by_cases h0:c=0
 rw[if_pos h0,cZ,h0]
 rw[if_neg h0,fD (mK h0 hc),cZ,Int.zero_add]
end Go.Al
/- Terms as texts, in plain Lean: the reference's reader. -/
namespace Go.Al
variable{L:Nat}(h1:4096≤L)(h2:L≤1073741824)
open Go.Lib
def zr(k:Nat):List Int:=List.replicate k 0
theorem kB(k:Nat):zr (k+1)=0::zr k:=rfl
theorem lh(pre:List Int)(k:Nat)(c:Int):bn (pre++zr (k+1)) pre.length c=(pre++[c])++zr k:=by
 unfold bn
 rw[kB]
 simp[List.getD_eq_getElem?_getD]
theorem gM: ∀(xs pre:List Int) (k:Nat),xs.length≤k→e9 pre.length xs (pre++zr k)=(pre++xs)++zr (k-xs.length)
 | [],pre,k,_=>by simp[e9]
 | c::r,pre,k,h=>by
  simp only[gj]at h
  obtain⟨j,rfl⟩: ∃j,k=j+1:=⟨k-1,by omega⟩
  rw[e9,lh,show pre.length+1=(pre++[c]).length by simp,gM r (pre++[c]) j (by omega)]
  simp[Nat.add_sub_add_right]
theorem mb{xs:List Int}(h:xs.length≤10):e9 0 xs (zr 10)=xs++zr (10-xs.length):=by
 have:=gM xs [] 10 h
 simpa using this
def cd:Str→List Int→Int→Int→Int→Option (List Int×Int)
  | [],xs,c,n,sg=>some (xs,if 0≤n then sg*n else c)
  | b :: r,xs,c,n,sg=>
    if go b then(if 2000000<n then none else cd r xs c (10*max n 0+(b.toNat-48:Int)) sg)
    else if lA b then cd r (xs.set (b.toNat-97) (sg*(if n<0 then 1 else n))) c (-1) sg
    else if b=43∨b=45 then cd r xs (if 0≤n then sg*n else c) (-1) (if b=45 then -1 else 1)
    else none
theorem kI{d:Nat}(h:d<10){r:Str}{xs:List Int}{c n sg:Int}(hn:n≤2000000):cd (UInt8.ofNat (48+d)::r) xs c n sg=cd r xs c (10*max n 0+d) sg:=by
 rw[cd,if_pos (by unfold go;rw[cj h];simp;omega),if_neg (by omega),cj h]
 congr 1;omega
theorem kJ(m:Nat): ∀(r:Str) (xs:List Int) (c sg:Int),m<20000000→cd (decDigits m++r) xs c (-1) sg=cd r xs c m sg:=by
 induction m using Nat.strongRecOn with
 | _ m ih=>
  intro r xs c sg hm
  rw[decDigits]
  by_cases h:m<10
  rw[dif_pos h,List.singleton_append,kI h (by decide)]
  congr 1;omega
  rw[dif_neg h,ca,List.singleton_append,ih (m/10) (by omega) _ _ _ _ (by omega),kI (Nat.mod_lt _ (by decide)) (by omega)]
  congr 1;omega
theorem mM{f:Bool}{n:Int}{r:Str}{xs:List Int}{c sg:Int}(h:f=false→sg=1):cd (jF f n++r) xs c (-1) sg=cd r xs c (-1) (if n<0 then -1 else 1)∨(f=false∧0≤n∧jF f n=[]):=by
 unfold jF
 by_cases hn:n<0
 left
 rw[if_pos hn,if_pos hn,List.singleton_append,cd,if_neg (by decide),if_neg (by decide),if_pos (by decide),if_neg (by decide),if_pos Z]
 rw[if_neg hn,if_neg hn]
 cases f with
 | false=>right;exact⟨rfl,by omega,rfl⟩
 | true=>
  left
  rw[if_pos Z,List.singleton_append,cd,if_neg (by decide),if_neg (by decide),if_pos (by decide),if_neg (by decide),if_neg (by decide)]
theorem lU{f:Bool}{n:Int}{r:Str}{xs:List Int}{c sg:Int}(h:f=false→sg=1):cd (jF f n++r) xs c (-1) sg=cd r xs c (-1) (if n<0 then -1 else 1):=by
 rcases mM (n:=n) (r:=r) (xs:=xs) (c:=c) h with e|⟨hf,hn,e⟩
 exact e
 rw[e,List.nil_append,h hf,if_neg (by omega)]
theorem jc{i:Nat}(h:i<10): ¬go (eo i)=true:=by rw[iz h];decide
theorem mN{n:Int}{i:Nat}(hi:i<10)(hn:n.natAbs<20000000){r:Str}{xs:List Int}{c sg:Int}:cd (jG n++eo i::r) xs c (-1) sg=cd r (xs.set i (sg*n.natAbs)) c (-1) sg:=by
 unfold jG
 by_cases h:n.natAbs=1
 rw[if_pos h,List.nil_append,cd,if_neg (jc hi),if_pos (eA hi),dC hi,Nat.add_sub_cancel_left,h];rfl
 rw[if_neg h,kJ _ _ _ _ _ hn,cd,if_neg (jc hi),if_pos (eA hi),dC hi,Nat.add_sub_cancel_left,if_neg (by omega)]
theorem jM: ∀(xs:List Int) (f:Bool) (pre:List Int) (k:Nat) (c sg:Int) (t:Str),xs.length≤k→pre.length+k≤10→(∀x∈xs,x.natAbs<20000000)→(f=false→sg=1)→
    ∃sg',((f||ne (pX f pre.length xs))=false→sg'=1)∧cd (pX f pre.length xs++t) (pre++zr k) c (-1) sg=cd t ((pre++xs)++zr (k-xs.length)) c (-1) sg'
 | [],f,pre,k,c,sg,t,_,_,_,h=>⟨sg,fun hf=>h (by cases f<;>simp_all[pX,ne]),by simp[pX]⟩
 | x::r,f,pre,k,c,sg,t,hk,hp,hx,h=>by
  simp only[gj]at hk
  obtain⟨j,rfl⟩: ∃j,k=j+1:=⟨k-1,by omega⟩
  have hx2: ∀y∈r,y.natAbs<20000000:=fun y hy=>hx y (List.mem_cons_of_mem _ hy)
  rw[pX]
  by_cases h0:x=0
  rw[if_pos h0]
  obtain⟨sg',h1,h2⟩:=jM r f (pre++[0]) j c sg t (by omega) (by simp;omega) hx2 h
  refine⟨sg',?_,?_⟩
  simpa using h1
  rw[h0]
  simp only[dh,List.length_singleton,ca,List.singleton_append]at h2 ⊢
  rw[show(pre++zr (j+1))=pre++0::zr j from Z,h2]
  simp[Nat.add_sub_add_right]
  rw[if_neg h0,ca,ca,lU h,ca,List.cons_append,mN (by omega) (hx x (List.mem_cons_self ..)),cS]
  have e:(pre++zr (j+1)).set pre.length x=(pre++[x])++zr j:=by rw[kB];simp
  rw[e]
  obtain⟨sg',h1,h2⟩:=jM r true (pre++[x]) j c (if x<0 then -1 else 1) t (by omega) (by simp;omega) hx2 (by simp)
  refine⟨sg',fun hf=>?_,?_⟩
  simp[ne]at hf
  simp only[dh,List.length_singleton,ca,List.singleton_append]at h2 ⊢
  rw[h2]
  simp[Nat.add_sub_add_right]
theorem nx{c:Int}{xs:List Int}(hl:xs.length≤10)(hx: ∀x∈xs,x.natAbs<20000000)(hc:c.natAbs<20000000):cd (nO c xs) (zr 10) 0 (-1) 1=some (xs++zr (10-xs.length),c):=by
 rw[jK]
 unfold tZ
 obtain⟨sg',h1,h2⟩:=jM xs false [] 10 0 1 (if pX false 0 xs++pK (ne (pX false 0 xs)) c=[]then[48]else pK (ne (pX false 0 xs)) c) hl (by simp) hx (fun _=>rfl)
 simp only[List.length_nil,List.nil_append]at h2
 by_cases h:pX false 0 xs++pK (ne (pX false 0 xs)) c=[]
 obtain⟨h3,h4⟩:=List.append_eq_nil_iff.1 h
 rw[if_pos h]
 rw[if_pos h,h3,List.nil_append]at h2
 rw[h2]
 have z0:c=0:=by
  unfold pK at h4
  by_cases h0:c=0
  exact h0
  rw[if_neg h0]at h4
  exact absurd (List.append_eq_nil_iff.1 h4).2 (ch _)
 rw[cd,if_pos (by decide),if_neg (by decide),cd,z0,show(10*max (-1:Int) 0+(((48:UInt8).toNat:Int)-48))=0 from by decide]
 simp
 rw[if_neg h]at h2 ⊢
 rw[h2]
 unfold pK
 by_cases h0:c=0
 rw[if_pos h0,cd,h0];simp
 rw[if_neg h0,lU (fun hf=>h1 (by simpa using hf)),←List.append_nil (decDigits _),kJ _ _ _ _ _ hc,cd,if_pos (by omega),cS]
end Go.Al
/- Sequents as texts, in plain Lean: cutting and splitting; both readers accept just the written sequents. -/
namespace Go.Al
variable{L:Nat}(h1:4096≤L)(h2:L≤1073741824)
open Go.Lib
def fJ(c:UInt8):Str→List Str
  | []=>[[]]
  | b::r=>if b=c then[]::fJ c r else(b::(fJ c r).headD [])::(fJ c r).tail
theorem ld(c b:UInt8)(l:Str):index (b::l) [c]=if b=c then 0 else if index l [c]= -1 then -1 else index l [c]+1:=by
 rw[index]
 by_cases h:b=c
 subst h;simp
 have h2:([c].isPrefixOf (b::l))=false:=by simp[List.isPrefixOf,Ne.symm h]
 rw[h2,if_neg h];simp
theorem eQ(c:UInt8): ∀s:Str,split s [c]=fJ c s
 | []=>by
  have:index ([]:Str) [c]= -1:=rfl
  unfold split
  rw[count_miss this];rfl
 | b::l=>by
  have ih:=eQ c l
  unfold split at ih ⊢
  have hi:=ld c b l
  by_cases h:b=c
  rw[if_pos h]at hi
  rw[count_hit (i:=0) (by simp) (by rw[hi];rfl),Nat.add_comm 1,splitK,hi,fJ,if_pos h]
  simp only[show((0:Int)== -1)=false from Z]
  simp only[Bool.false_eq_true,if_false]
  simp[ih]
  rw[if_neg h]at hi
  rw[fJ,if_neg h]
  by_cases h2:index l [c]= -1
  rw[if_pos h2]at hi
  rw[count_miss hi]
  rw[count_miss h2]at ih
  rw[←ih];rfl
  rw[if_neg h2]at hi
  have hge:=index_ge l [c]
  obtain⟨i,hi2⟩: ∃i:Nat,index l [c]=i:=⟨(index l [c]).toNat,by omega⟩
  rw[hi2]at hi
  rw[count_hit (i:=i) (by simp) hi2,Nat.add_comm 1,splitK,hi2]at ih
  rw[count_hit (i:=i+1) (by simp) (by rw[hi];rfl),Nat.add_comm 1,splitK,hi]
  have e1:((i:Int)== -1)=false:=by rw[beq_eq_false_iff_ne];omega
  have e2:(((i:Int)+1)== -1)=false:=by rw[beq_eq_false_iff_ne];omega
  rw[e1]at ih
  rw[e2]
  simp only[Bool.false_eq_true,if_false,Int.toNat_natCast,Nat.add_zero]at ih ⊢
  rw[←ih]
  have e3:((i:Int)+1).toNat=i+1:=by omega
  simp[e3]
theorem kE{c:UInt8}: ∀{p:Str} (r:Str),c ∉ p→fJ c (p++c::r)=p::fJ c r
 | [],r,_=>by rw[List.nil_append,fJ,if_pos Z]
 | b::p,r,h=>by
  rw[List.cons_append,fJ,if_neg (fun e=>h (by rw[e];exact List.mem_cons_self ..)),kE r (fun hh=>h (List.mem_cons_of_mem _ hh))]
  rfl
def dV(c:UInt8):List Str→Str
  | []=>[]
  | p::r=>p++c::dV c r
theorem iT{c:UInt8}: ∀{ps:List Str},(∀p∈ps,c ∉ p)→fJ c (dV c ps)=ps++[[]]
 | [],_=>rfl
 | p::r,h=>by
  rw[dV,kE _ (h p (List.mem_cons_self ..)),iT (fun q hq=>h q (List.mem_cons_of_mem _ hq))];rfl
theorem eE(c:UInt8): ∀s:Str,∃ps q,fJ c s=ps++[q]∧s=dV c ps++q∧c ∉ q∧∀p∈ps,c ∉ p
 | []=>⟨[],[],rfl,rfl,by simp,by simp⟩
 | b :: r=>by
  obtain⟨ps,q,h1,h2,h3,h4⟩:=eE c r
  rw[fJ]
  by_cases h:b=c
  rw[if_pos h,h1]
  exact⟨[]::ps,q,Z,by rw[h2,h];rfl,h3,by simpa using h4⟩
  rw[if_neg h,h1]
  cases ps with
  | nil=>exact⟨[],b::q,Z,by rw[h2];rfl,by simp only[List.mem_cons,not_or];exact⟨Ne.symm h,h3⟩,by simp⟩
  | cons p ps=>
   refine⟨(b::p)::ps,q,Z,by rw[h2];rfl,h3,?_⟩
   intro x hx
   rcases List.mem_cons.1 hx with rfl|hx
   simp only[List.mem_cons,not_or];exact⟨Ne.symm h,h4 p (List.mem_cons_self ..)⟩
   exact h4 x (List.mem_cons_of_mem _ hx)
abbrev aH:Str:=[61,62]
theorem gQ: ∀{f:Str} (g:Str),(61:UInt8) ∉ f→index (f++aH++g) aH=f.length
 | [],g,_=>by simp[index]
 | b::f,g,h=>by
  have ih:=gQ g (fun hh=>h (List.mem_cons_of_mem _ hh)) (f:=f)
  have hb: ¬(61:UInt8)=b:=fun e=>h (by rw[e];exact List.mem_cons_self ..)
  rw[List.cons_append,List.cons_append,index]
  have h2:(aH.isPrefixOf (b::(f++aH++g)))=false:=by simp[List.isPrefixOf,hb]
  rw[h2,ih]
  have e1:((f.length:Int)== -1)=false:=by rw[beq_eq_false_iff_ne];omega
  rw[e1];simp
theorem mU{f:Str}(g:Str)(h:(61:UInt8) ∉ f):cut (f++aH++g) aH=(f,g,true):=by
 unfold cut
 rw[gQ g h,if_pos (by omega)]
 simp
theorem fX{s f g:Str}(h:cut s aH=(f,g,true)):s=f++aH++g:=by
 unfold cut at h
 rcases index_spec s aH with⟨h1,_⟩|⟨i,h1,h2,h3,_⟩
 rw[h1]at h;simp at h
 rw[h1,if_pos (by omega)]at h
 simp only[Int.toNat_natCast,Prod.mk.injEq,and_true]at h
 obtain⟨rfl,rfl⟩:=h
 unfold occAt at h3
 obtain⟨r,hr⟩:=List.isPrefixOf_iff_prefix.1 h3
 have:s.drop (i+aH.length)=r:=by
  rw[←List.drop_drop,←hr];simp
 rw[this,ca,hr,List.take_append_drop]
section
variable{T:Type}(tx:T→Str)(ok:T→Bool)(rd:Str→Option T)
def nL(fs:List T)(g:T):Str:=dV 59 (fs.map tx)++aH++tx g
def bl : List Str→Option (List T)
  | []=>some []
  | s :: r=>match rd s with
    | none=>none
    | some t=>match bl r with
      | none=>none
      | some ts=>some (t::ts)
def rqI(s:Str):Option (List T×T):=
  if(cut s aH).2.2=false∨((cut s aH).1≠[]∧(cut s aH).1.getLast? ≠some 59)then none else
  match rd (cut s aH).2.1 with
  | none=>none
  | some g=>match bl rd (fJ 59 (cut s aH).1).dropLast with
    | none=>none
    | some fs=>if fs.length≤13 then some (fs,g)else none
def dO:Str→Str→List T→Option (List T×T)
  | cur,[],acc=>if cur.length<2∨cur.take 2≠aH then none else match rd (cur.drop 2)with
    | none=>none
    | some g=>some (acc,g)
  | cur,b::r,acc=>if b≠59 then dO (cur++[b]) r acc else match rd cur with
    | none=>none
    | some t=>if acc.length=13 then none else dO [] r (acc++[t])
variable{tx ok rd}
theorem cR(hrd: ∀s t,rd s=some t↔ok t=true∧s=tx t): ∀{ss:List Str} {ts:List T},bl rd ss=some ts↔(∀t∈ts,ok t=true)∧ss=ts.map tx
 | [],ts=>by
  rw[bl]
  constructor
  intro h;cases h;simp
  rintro⟨_,h⟩;cases ts with
  | nil=>rfl
  | cons _ _=>cases h
 | s :: r,ts=>by
  rw[bl]
  constructor
  intro h
  split at h
  cases h
  rename_i t ht
  split at h
  cases h
  rename_i ts' hts
  cases h
  obtain⟨h1,h2⟩:=(cR hrd).1 hts
  obtain⟨h3,h4⟩:=(hrd s t).1 ht
  refine⟨fun x hx=>?_,by rw[h2,h4];rfl⟩
  rcases List.mem_cons.1 hx with rfl|hx
  exact h3
  exact h1 x hx
  rintro⟨h1,h2⟩
  cases ts with
  | nil=>cases h2
  | cons t ts=>
   simp only[List.map_cons,List.cons.injEq]at h2
   rw[(hrd s t).2 ⟨h1 t (List.mem_cons_self ..),h2.1⟩,(cR hrd).2 ⟨fun x hx=>h1 x (List.mem_cons_of_mem _ hx),h2.2⟩]
theorem gV(c:UInt8): ∀{ps:List Str},ps≠[]→(dV c ps).getLast? = some c
 | [],h=>absurd Z h
 | [p],_=>by simp[dV]
 | p::q::r,_=>by
  have:=gV c (ps:=q::r) (by simp)
  rw[dV]
  rw[List.getLast?_append,List.getLast?_cons,this];simp
theorem i8{c d:UInt8}(hcd:d≠c): ∀{ps:List Str},(∀p∈ps,d ∉ p)→d ∉ dV c ps
 | [],_=>by simp[dV]
 | p::r,h=>by
  rw[dV]
  simp only[List.mem_append,List.mem_cons,not_or]
  exact⟨h p (List.mem_cons_self ..),hcd,i8 hcd (fun q hq=>h q (List.mem_cons_of_mem _ hq))⟩
theorem rqI_iff(hrd: ∀s t,rd s=some t↔ok t=true∧s=tx t)(hch: ∀t,ok t=true→(59:UInt8) ∉ tx t∧(61:UInt8) ∉ tx t){s:Str}{fs:List T}{g:T}:rqI rd s=some (fs,g)↔fs.length≤13∧(∀t∈fs,ok t=true)∧ok g=true∧s=nL tx fs g:=by
 constructor
 intro h
 unfold rqI at h
 split at h
 cases h
 rename_i hc
 simp only[not_or,Bool.not_eq_false]at hc
 split at h
 cases h
 rename_i g' hg
 split at h
 cases h
 rename_i fs' hf
 split at h
 rename_i hl
 cases h
 obtain⟨h1,h2⟩:=(hrd _ _).1 hg
 obtain⟨h3,h4⟩:=(cR hrd).1 hf
 refine⟨hl,h3,h1,?_⟩
 have hs:s=(cut s aH).1++aH++(cut s aH).2.1:=fX (by rw[←hc.1])
 obtain⟨ps,q,j1,j2,j3,j4⟩:=eE 59 (cut s aH).1
 rw[j1,List.dropLast_concat]at h4
 have hq:q=[]:=by
  by_cases hq:q=[]
  exact hq
  have hne:(cut s aH).1≠[]:=by rw[j2];simp[hq]
  have:=hc.2
  simp only[not_and,Classical.not_not]at this
  have:=this hne
  rw[j2,List.getLast?_append]at this
  cases hql:q.getLast? with
  | none=>rw[List.getLast?_eq_none_iff]at hql;exact absurd hql hq
  | some z=>
   rw[hql]at this
   simp at this
   have hz:=List.mem_of_getLast? hql
   rw[this]at hz;exact absurd hz j3
 rw[hq,List.append_nil,h4]at j2
 rw[hs,j2,h2];rfl
 cases h
 rintro⟨h1,h2,h3,rfl⟩
 have h59: ∀p∈fs.map tx,(59:UInt8) ∉ p:=fun p hp=>by obtain⟨t,ht,rfl⟩:=List.mem_map.1 hp;exact(hch t (h2 t ht)).1
 have h61: ∀p∈fs.map tx,(61:UInt8) ∉ p:=fun p hp=>by obtain⟨t,ht,rfl⟩:=List.mem_map.1 hp;exact(hch t (h2 t ht)).2
 unfold rqI nL
 rw[mU _ (i8 (by decide) h61)]
 simp only
 rw [iT h59,List.dropLast_concat,(hrd _ g).2 ⟨h3,rfl⟩,(cR hrd).2 ⟨h2,rfl⟩,if_neg (by
  simp only[not_or,not_and,Classical.not_not]
  refine⟨by simp,fun hne=>gV 59 fun e=>hne (by rw[e];rfl)⟩)]
 simp only[if_pos h1]
theorem iq{r:Str}{acc:List T}: ∀{p cur:Str},(59:UInt8) ∉ p→dO rd cur (p++r) acc=dO rd (cur++p) r acc
 | [],cur,_=>by simp
 | b::p,cur,h=>by
  rw[List.cons_append,dO,if_pos (fun e=>h (by rw[e];exact List.mem_cons_self ..)),iq (fun hh=>h (List.mem_cons_of_mem _ hh))]
  simp
theorem gI(hrd: ∀s t,rd s=some t↔ok t=true∧s=tx t)(hch: ∀t,ok t=true→(59:UInt8) ∉ tx t∧(61:UInt8) ∉ tx t): ∀{fs acc:List T} {r:Str},(∀t∈fs,ok t=true)→acc.length+fs.length≤13→dO rd [] (dV 59 (fs.map tx)++r) acc=dO rd [] r (acc++fs)
 | [],acc,r,_,_=>by simp[dV]
 | t::fs,acc,r,h,hl=>by
  simp only[gj]at hl
  rw[List.map_cons,dV,ca,iq (hch t (h t (List.mem_cons_self ..))).1,List.nil_append,List.cons_append,dO,if_neg (by simp),(hrd _ t).2 ⟨h t (List.mem_cons_self ..),rfl⟩]
  simp only
  rw[if_neg (by omega),gI hrd hch (fun x hx=>h x (List.mem_cons_of_mem _ hx)) (by simp;omega)]
  simp
theorem fQ(hrd: ∀s t,rd s=some t↔ok t=true∧s=tx t): ∀{s cur:Str} {acc fs:List T} {g:T},(59:UInt8) ∉ cur→acc.length≤13→(∀t∈acc,ok t=true)→dO rd cur s acc=some (fs,g)→fs.length≤13∧(∀t∈fs,ok t=true)∧ok g=true∧∃gs,fs=acc++gs∧cur++s=nL tx gs g
 | [],cur,acc,fs,g,hc,hl,ha,h=>by
  rw[dO]at h
  split at h
  cases h
  rename_i hn
  simp only[not_or,Classical.not_not]at hn
  split at h
  cases h
  rename_i g' hg
  cases h
  obtain⟨h1,h2⟩:=(hrd _ _).1 hg
  refine⟨hl,ha,h1,[],by simp,?_⟩
  have:=List.take_append_drop 2 cur
  rw[hn.2,h2]at this
  rw[List.append_nil,←this];rfl
 | b :: r,cur,acc,fs,g,hc,hl,ha,h=>by
  rw[dO]at h
  by_cases hb:b=59
  rw[if_neg (by simpa using hb)]at h
  split at h
  cases h
  rename_i t ht
  split at h
  cases h
  rename_i hne
  obtain⟨h1,h2⟩:=(hrd _ _).1 ht
  obtain⟨g1,g2,g3,gs,g4,g5⟩:=fQ hrd (cur:=[]) (by simp) (by simp;omega) (fun x hx=>by
   rcases List.mem_append.1 hx with hx|hx
   · exact ha x hx
   · rw[List.mem_singleton.1 hx];exact h1) h
  refine⟨g1,g2,g3,t::gs,by rw[g4];simp,?_⟩
  rw[List.nil_append]at g5
  rw[g5,hb,h2]
  simp[nL,dV]
  rw[if_pos hb]at h
  obtain⟨g1,g2,g3,gs,g4,g5⟩:=fQ hrd (cur:=cur++[b]) (by simp only[List.mem_append,List.mem_singleton,not_or];exact⟨hc,Ne.symm hb⟩) hl ha h
  exact⟨g1,g2,g3,gs,g4,by rw[←g5];simp⟩
theorem kK(hrd: ∀s t,rd s=some t↔ok t=true∧s=tx t)(hch: ∀t,ok t=true→(59:UInt8) ∉ tx t∧(61:UInt8) ∉ tx t){s:Str}{fs:List T}{g:T}:dO rd [] s []=some (fs,g)↔fs.length≤13∧(∀t∈fs,ok t=true)∧ok g=true∧s=nL tx fs g:=by
 constructor
 intro h
 obtain⟨h1,h2,h3,gs,h4,h5⟩:=fQ hrd (by simp) (by simp) (by simp) h
 rw[List.nil_append]at h4 h5
 exact⟨h1,h2,h3,by rw[h4];exact h5⟩
 rintro⟨h1,h2,h3,rfl⟩
 unfold nL
 rw[ca,gI hrd hch h2 (by simpa using h1),←List.append_nil (aH++tx g),iq (by simp only[List.mem_append,not_or];exact⟨by decide,(hch g h3).1⟩),dO]
 rw[if_neg (by simp)]
 simp only[List.nil_append]
 rw[show(aH++tx g).drop 2=tx g from Z,(hrd _ g).2 ⟨h3,rfl⟩]
theorem rq_eq(hrd: ∀s t,rd s=some t↔ok t=true∧s=tx t)(hch: ∀t,ok t=true→(59:UInt8) ∉ tx t∧(61:UInt8) ∉ tx t)(s:Str):rqI rd s=dO rd [] s []:=by
 cases h:rqI rd s with
 | some x=>
  obtain⟨fs,g⟩:=x
  exact((kK hrd hch).2 ((rqI_iff hrd hch).1 h)).symm
 | none=>
  cases h2:dO rd [] s []with
  | none=>rfl
  | some x=>
   obtain⟨fs,g⟩:=x
   rw[(rqI_iff hrd hch).2 ((kK hrd hch).1 h2)]at h;cases h
end
end Go.Al
/- Terms and sequents as texts: what both readers accept. -/
namespace Go.Al
variable{L:Nat}(h1:4096≤L)(h2:L≤1073741824)
open Go.Lib
abbrev tS(t:Tm):Str:=nO t.c t.xs
theorem im{xs:List Int}: ∀k,aT (xs++zr k)=aT xs
 | 0=>by simp[zr]
 | k+1=>by
  have:zr (k+1)=zr k++[0]:=List.replicate_succ'
  rw[this,←ca,gF,im k]
theorem kD{t:Tm}(h:t.ok=true):aT t.xs=t.xs:=by
 have h1:=(pW.1 h).2.2.2
 have:=eW (xs:=t.xs) (n:=t.xs.length) (bp _) (by
  rcases h1 with h1|h1
  · left;rw[h1];rfl
  · exact .inr h1)
 simpa using this
theorem kN{n:Int}(h:gm n=true):n.natAbs≤1000000:=by
 have:=pd.1 h;omega
theorem fN{t:Tm}(h:t.ok=true):t.c.natAbs≤1000000∧(∀x∈t.xs,x.natAbs≤1000000)∧t.xs.length≤10:=by
 obtain⟨h1,h2,h3,_⟩:=pW.1 h
 exact⟨kN h1,fun x hx=>kN (List.all_eq_true.1 h2 x hx),h3⟩
def rdT(s:Str):Option Tm:=match e5 s (zr 10) 0 with
  | none=>none
  | some x=>if(Tm.mk x.2 (aT x.1)).ok=true∧tS ⟨x.2,aT x.1⟩=s then some ⟨x.2,aT x.1⟩else none
theorem rdT_iff(s:Str)(t:Tm):rdT s=some t↔t.ok=true∧s=tS t:=by
 unfold rdT
 constructor
 intro h
 split at h
 cases h
 split at h
 rename_i hc
 cases h
 exact⟨hc.1,hc.2.symm⟩
 cases h
 rintro⟨h1,rfl⟩
 obtain⟨h2,h3,h4⟩:=fN h1
 rw[nA h4 (fun x hx=>by have:=h3 x hx;omega) (by omega),mb h4]
 simp only
 rw[im,kD h1,if_pos ⟨h1,rfl⟩]
def rsT(s:Str):Option Tm:=match cd s (zr 10) 0 (-1) 1 with
  | none=>none
  | some x=>if(gn x.2 x.1).2=true∧tS (gn x.2 x.1).1=s then some (gn x.2 x.1).1 else none
theorem kH(s:Str)(t:Tm):rsT s=some t↔t.ok=true∧s=tS t:=by
 unfold rsT
 constructor
 intro h
 split at h
 cases h
 split at h
 rename_i hc
 cases h
 exact⟨l3 hc.1,hc.2.symm⟩
 cases h
 rintro⟨h1,rfl⟩
 obtain⟨h2,h3,h4⟩:=fN h1
 rw[nx h4 (fun x hx=>by have:=h3 x hx;omega) (by omega)]
 simp only
 have:gn t.c (t.xs++zr (10-t.xs.length))=(t,true):=by
  unfold gn
  rw[im,kD h1,if_pos h1]
 rw[this,if_pos ⟨rfl,rfl⟩]
theorem rd_eq(s:Str):rdT s=rsT s:=by
 cases h:rdT s with
 | some t=>exact((kH s t).2 ((rdT_iff s t).1 h)).symm
 | none=>
  cases h2:rsT s with
  | none=>rfl
  | some t=>rw[(rdT_iff s t).2 ((kH s t).1 h2)]at h;cases h
def kr(b:UInt8):Prop:=go b=true∨lA b=true∨b=43∨b=45
theorem iU{f:Bool}{n:Int}: ∀b∈jF f n,kr b:=by
 intro b hb
 unfold jF at hb
 split at hb
 rw[List.mem_singleton.1 hb];exact .inr (.inr (.inr Z))
 split at hb
 rw[List.mem_singleton.1 hb];exact .inr (.inr (.inl Z))
 cases hb
theorem iu: ∀{xs:List Int} {f:Bool} {i:Nat},i+xs.length≤10→∀b∈pX f i xs,kr b
 | [],f,i,_,b,hb=>by cases hb
 | c::r,f,i,hi,b,hb=>by
  simp only[gj]at hi
  rw[pX]at hb
  split at hb
  exact iu (by omega) b hb
  simp only[List.mem_append,List.mem_cons]at hb
  rcases hb with(hb|hb)|rfl|hb
  exact iU b hb
  unfold jG at hb
  split at hb
  cases hb
  exact .inl (cK _ b hb)
  exact .inr (.inl (eA (by omega)))
  exact iu (by omega) b hb
theorem mF{t:Tm}(h:t.ok=true): ∀b∈tS t,kr b:=by
 intro b hb
 rw[tS,jK]at hb
 unfold tZ at hb
 split at hb
 rw[List.mem_singleton.1 hb];exact .inl (by decide)
 rcases List.mem_append.1 hb with hb|hb
 exact iu (by have:=(fN h).2.2;omega) b hb
 unfold pK at hb
 split at hb
 cases hb
 rcases List.mem_append.1 hb with hb|hb
 exact iU b hb
 exact .inl (cK _ b hb)
theorem tS_ch(t:Tm)(h:t.ok=true):(59:UInt8) ∉ tS t∧(61:UInt8) ∉ tS t:=by
 constructor<;>(intro hb;have:=mF h _ hb;revert this;unfold kr;decide)
theorem fH{m:Nat}(h:m≤1000000):(decDigits m).length≤7:=by
 rw[decDigits_eq,dy,List.length_range]
 exact ee (k:=6) (by omega)
theorem io: ∀(xs:List Int) (i:Nat) (c:Int) (out:Str),tX i (xs++[c]) out=tC (tX i xs out) (i+xs.length) c
 | [],i,c,out=>by simp[tX]
 | x::r,i,c,out=>by
  rw[List.cons_append,tX,io r,tX,gj,show i+1+r.length=i+(r.length+1) by omega]
abbrev aS8(s:Str):A:=.c (.d (sD s))
theorem kR{m:Nat}(h:m<100000000000000000000):(Lib.decDigits m).length≤20:=by
 rw[Lib.decDigits_eq,dy,List.length_range]
 exact ee (k:=19) (by omega)
def fA(m:Int):Str:=if m<0 then Lib.decDigits m.natAbs else[]
theorem lN{m:Int}(h:m<0):m.tdiv 10= -((m.natAbs/10:Nat):Int)∧m.tmod 10= -((m.natAbs%10:Nat):Int):=by
 obtain⟨k,hk⟩: ∃k:Nat,m= -(k:Int):=⟨m.natAbs,by omega⟩
 subst hk
 rw[Int.neg_tdiv,Int.neg_tmod,Int.natAbs_neg,Int.natAbs_natCast]
 exact⟨by rw[show(10:Int)=((10:Nat):Int)from Z,←Int.ofNat_tdiv],by rw[show(10:Int)=((10:Nat):Int)from Z,←Int.ofNat_tmod]⟩
theorem k6{m:Int}(h:m<0):fA m=fA (m.tdiv 10)++[UInt8.ofNat (48-m.tmod 10).toNat]:=by
 have e1:(m.tdiv 10).natAbs=m.natAbs/10:=by rw[Int.natAbs_tdiv];rfl
 have h3:=lN h
 have e2:(48-m.tmod 10).toNat=48+m.natAbs%10:=by omega
 unfold fA
 rw[if_pos h,Lib.decDigits,e1,e2]
 by_cases h2:m.natAbs<10
 rw[dif_pos h2,if_neg (by omega),Nat.mod_eq_of_lt h2];rfl
 rw[dif_neg h2,if_pos (by omega)]
theorem mh{n:Int}(h:0<n):Lib.itoa n=fA (-n):=by
 unfold Lib.itoa fA
 rw[if_neg (by omega),if_pos (by omega)]
 congr 1;omega
theorem lc:Lib.itoa 0=[48]:=by
 unfold Lib.itoa
 rw[if_neg (by decide),Lib.decDigits,dif_pos (by decide)];rfl
theorem mi{n:Int}(h:n<0):Lib.itoa n=45::fA n:=by
 unfold Lib.itoa fA
 rw[if_pos h,if_pos h]
theorem i0{n:Int}(h: -9223372036854775808≤n):(fA n).length≤20:=by
 unfold fA
 split
 exact kR (by omega)
 simp
theorem kC{n:Int}(h0:0≤n)(h1:n≤255):IntKind.u8.wrap n=n:=cC _ _ h0 h1
theorem nq{n:Int}(h0:0≤n)(h1:n≤255):((UInt8.ofNat n.toNat).toNat:Int)=n:=by
 rw[UInt8.toNat_ofNat'];omega
variable{n:Int}
theorem oQ(hn0: -9223372036854775807≤n)(hn1:n≤9223372036854775807):MQ h1 h2 85 [eI n] [] (Plain (aS8 (Lib.itoa n))):=by
 refine au ?_ Z
 refine jB 29 h1 h2 Tryd.func85 Z fun O hF=>?_
 refine af (js Z (jn (ag (af (aj Z (jn (am Z (fun z6=>?_) (fun z6=>?_))))))))
 refine af (js Z (jr ?_))
 refine aC Z ?_
 have h0:n=0:=b9 z6
 rw[h0,lc];rfl
 refine ae (af (aj Z (jf [3,5,2,0] Z (jn (ag (af (aj Z (jn ?_))))))))
 have hne:n≠0:=cw z6
 obtain⟨N,hN⟩: ∃N:Int,N=if 0<n then -n else n:=⟨_,rfl⟩
 have hN2:N<0∧ -9223372036854775808≤N:=by rw[hN];split<;>omega
 refine bk ⟨[(0,eI n),(3,eI N)],[]⟩ ?_ ?_
 refine am Z (fun z9=>?_) (fun z9=>?_)
 refine ac (js Z (ji Z (js Z (jf [3,8,5,2,0] Z (jn ?_)))))
 exact⟨Z,Ent.to ⟨Z,congrArg (fun z=>some (eI z)) (show 0-n=N by rw[hN,if_pos (b9 z9)];omega),ar⟩ Z⟩
 refine ae ?_
 exact⟨Z,Ent.to ⟨Z,congrArg (fun z=>some (eI z)) (show n=N by rw[hN,if_neg (cw z9)]),ar⟩ Z⟩
 refine af (js Z (jn (ag (ap (ax (X:=Int×Str) (fun z=>⟨[(0,eI n),(3,eI z.1),(4,aS8 z.2)],[]⟩) (fun z=>z.1≤0∧ -9223372036854775808≤z.1∧fA N=fA z.1++z.2) (fun z=>z.1.natAbs) (N,[]) (Ent.to ⟨Z,Z,Z,ar⟩ Z) ?_ (fun z hi=>?_))))))
 exact⟨by show N≤0;omega,hN2.2,by simp⟩
 refine ag (af (aj Z (jn (am Z (fun z13=>?_) (fun z13=>?_)))))
 refine ae (ap (af (js Z ?_)))
 have hz:z.1<0:=b9 z13
 have h3:=lN hz
 have hr: -9≤z.1.tmod 10∧z.1.tmod 10≤0:=by omega
 have hlen:z.2.length≤20:=by have h:=i0 hN2.2;rw[hi.2.2,dh]at h;omega
 refine ab (ll O Z Z Z Z (by decide) (by omega) (by omega)) Z (ab (aI O Z Z (by omega) (by omega)) Z (ab ((Val.conv (b:=true) (dt:=.int .i64) O Z Z Z (by kernel_rfl) (by kernel_rfl)).cast (v':=.c (.d (.int .u8 ((UInt8.ofNat (48-z.1.tmod 10).toNat).toNat:Int)))) (by rw[kC (by omega) (by omega),nq (by omega) (by omega)])) Z (jf [17,13,12,0,3,4] Z (cW (fI O Z Z Z Z Z Z Z Z Z Z Z) Z (aP ?_)))))
 refine ab (ge (p:=[UInt8.ofNat (48-z.1.tmod 10).toNat]) O Z Z Z (.whole Z Z (.inl (jj _))) Z Z (by kernel_rfl) (by kernel_rfl)) Z (js Z (ab (bg (p:=[UInt8.ofNat (48-z.1.tmod 10).toNat]) (q:=z.2) O Z Z Z Z Z Z (by show 1+z.2.length≤L;omega) (by show L≤_;omega)) Z (js Z (jf [4,13,12,0,3] Z (jn (ac (js Z (ab (lm O Z Z Z Z (by decide) (by omega) (by omega)) Z (js Z (jf [3,4,13,12,0] Z (jn ?_)))))))))))
 refine⟨(z.1.tdiv 10,UInt8.ofNat (48-z.1.tmod 10).toNat::z.2),(aU [] (e':=[(0,_),(3,_),(4,_)]) Z Z ⟨Z,Z,Z,ar⟩ Z),⟨by show z.1.tdiv 10≤0;omega,by show -9223372036854775808≤z.1.tdiv 10;omega,?_⟩,by show(z.1.tdiv 10).natAbs<z.1.natAbs;omega⟩
 rw[hi.2.2,k6 hz];simp
 refine ba (ag (af (js Z ?_)))
 have hz0:z.1=0:=by have:=cw z13;omega
 have hp:=hi.2.2
 rw[hz0,show fA 0=[]from Z,List.nil_append]at hp
 have hlen:z.2.length≤20:=by have h:=i0 hN2.2;rw[hp]at h;exact h
 refine js Z (jn (am Z (fun z25=>?_) (fun z25=>?_)))
 refine af (js Z (ab (bg (p:=[45]) (q:=z.2) O Z Z Z Z Z Z (by show 1+z.2.length≤L;omega) (by show L≤_;omega)) Z (js Z (jf [2,25,24,13,12,0,3,4] Z (jr ?_)))))
 refine aC Z ?_
 have hn:n<0:=b9 z25
 rw[mi hn,show n=N by rw[hN,if_neg (by omega)],hp];rfl
 refine ae (af (aj Z (jr ?_)))
 refine aC Z ?_
 have hn: ¬n<0:=cw z25
 rw[mh (by omega),show -n=N by rw[hN,if_pos (by omega)],hp]
def oI(t:Tm)(i:Nat):Str:=if i≤t.xs.length then tX 0 (t.xs.take i) []else tK (tX 0 t.xs []) t.c
def oS(o:Str)(n:Int)(nm:Str):Str:=if n=0 then o else o++cz o n++(if n.natAbs=1∧nm≠[]then[]else Lib.decDigits n.natAbs)++nm
theorem nC{t:Tm}{i:Nat}(h:i<t.xs.length):oI t (i+1)=oS (oI t i) (t.xs.getD i default) [eo i]:=by
 unfold oS
 rw[show oI t (i+1)=tX 0 (t.xs.take (i+1)) []from if_pos (by omega),show oI t i=tX 0 (t.xs.take i) []from if_pos (by omega),List.take_succ_eq_append_getElem h,io,List.length_take,Nat.min_eq_left (by omega),Nat.zero_add,aJ h]
 unfold tC
 simp
theorem nD{t:Tm}:oI t (t.xs.length+1)=oS (oI t t.xs.length) t.c []:=by
 unfold oS
 rw[show oI t (t.xs.length+1)=tK (tX 0 t.xs []) t.c from if_neg (by omega),show oI t t.xs.length=tX 0 (t.xs.take t.xs.length) []from if_pos (bp _),List.take_length]
 unfold tK
 simp
theorem fP{o:Str}{n:Int}:(cz o n).length≤1:=by
 unfold cz
 split
 simp
 split<;>simp
theorem cN(a:Nat):Lib.itoa (a:Int)=Lib.decDigits a:=by
 unfold Lib.itoa
 rw[if_neg (by omega),Int.toNat_natCast]
theorem mZ{t:Tm}:tS t=tZ (oI t (t.xs.length+1)):=by
 unfold oI;rw[if_neg (by omega)];rfl
variable{t:Tm}
theorem oR(ht:t.ok=true):MQ h1 h2 76 [ptr t.cells] [] (Plain (aS8 (tS t))):=by
 refine au ?_ Z
 refine jB 67 h1 h2 Tryd.func76 Z fun O hF=>?_
 obtain⟨z6,hx6,hl10⟩:=fN ht
 have hl:t.xs.length≤L:=by omega
 refine af (js Z (bq (js Z (jn (ag (af (js Z (jn (ap (ax (X:=Nat×Str) (fun z=>⟨[(0,ptr t.cells),(3,aS8 z.2),(4,eI (z.1:Nat))],[]⟩) (fun z=>z.1≤t.xs.length+1∧z.2=oI t z.1∧z.2.length≤9*z.1) (fun z=>t.xs.length+1-z.1) (0,[]) (Ent.to ⟨Z,Z,Z,ar⟩ Z) ?_ (fun z hi=>?_)))))))))))
 exact⟨dT _,by show[]=oI t 0;unfold oI;simp[tX],bp _⟩
 refine ag (af (cy Z (js Z ?_)))
 first|refine gl Z ?_|refine js Z ?_|refine ck Z Z ?_
 refine js Z (jf [13,0,3,4] Z (jn (am Z (fun z13=>?_) (fun z13=>?_))))
 refine ae (ag (ap (af (cy Z (js Z (jf [5,13,0,3,4] Z (bq (js Z (jn (ag (af (cy Z (js Z ?_)))))))))))))
 first|refine gl Z ?_|refine js Z ?_|refine ck Z Z ?_
 refine js Z (jf [26,6,5,13,0,3,4] Z (jn ?_))
 have hz1:z.1≤t.xs.length:=by have:=b9 z13;omega
 obtain⟨n,nm,hn1,hn2⟩: ∃(n:Int) (nm:Str),(z.1<t.xs.length→n=t.xs.getD z.1 default∧nm=[eo z.1])∧(¬z.1<t.xs.length→n=t.c∧nm=[]):=by
  by_cases h:z.1<t.xs.length
  exact⟨_,_,fun _=>⟨Z,Z⟩,fun h2=>absurd h h2⟩
  exact⟨_,_,fun h2=>absurd h2 h,fun _=>⟨Z,Z⟩⟩
 have hstep:oI t (z.1+1)=oS z.2 n nm:=by
  rw[hi.2.1]
  by_cases h:z.1<t.xs.length
  rw[(hn1 h).1,(hn1 h).2,nC h]
  rw[(hn2 h).1,(hn2 h).2,show z.1=t.xs.length by omega,nD]
 have hna:n.natAbs≤1000000∧nm.length≤1:=by
  by_cases h:z.1<t.xs.length
  rw[(hn1 h).1,(hn1 h).2,aJ h];exact⟨hx6 _ (List.getElem_mem h),by simp⟩
  rw[(hn2 h).1,(hn2 h).2];exact⟨z6,by simp⟩
 refine bk ⟨[(0,ptr t.cells),(3,aS8 z.2),(4,eI (z.1:Nat)),(5,eI n),(6,aS8 nm)],[]⟩ ?_ ?_
 refine am Z (fun z26=>?_) (fun z26=>?_)
 refine af ?_
 have hc26t:z.1<t.xs.length:=by have:=b9 z26;omega
 refine cy Z (js Z ?_)
 first|refine ph Z Z ?_|refine nQ Z Z ?_|refine ck Z Z ?_
 refine aj Z (jf [5,26,6,13,0,3,4] Z (jn (ac (js Z ?_))))
 first|refine ji Z ?_|refine ck Z Z ?_
 refine ab ((Val.conv (b:=true) (dt:=.int .i64) O Z Z Z (by kernel_rfl) (by kernel_rfl)).cast (v':=.c (.d (.int .u8 ((eo z.1).toNat:Int)))) (by rw[kC (by omega) (by omega),dC (by omega)];rfl)) Z (jf [36,5,26,6,13,0,3,4] Z (cW (fI O Z Z Z Z Z Z Z Z Z Z Z) Z (aP ?_)))
 refine ab (ge (p:=[eo z.1]) O Z Z Z (.whole Z Z (.inl (jj _))) Z Z (by kernel_rfl) (by kernel_rfl)) Z (js Z (jf [6,5,26,13,0,3,4] Z (jn ?_)))
 exact⟨Z,(aU [] (e':=[(0,_),(3,_),(4,_),(5,_),(6,_)]) Z Z ⟨Z,Z,Z,Z,Z,ar⟩ Z).trans (Ent.to ⟨Z,Z,Z,congrArg (fun z=>some (eI z)) ((hn1 hc26t).1.symm),congrArg (fun s=>some (aS8 s)) ((hn1 hc26t).2.symm),ar⟩ Z)⟩
 refine ae ?_
 have hc26t: ¬z.1<t.xs.length:=by have:=cw z26;omega
 exact⟨Z,(aU [] (e':=[(0,_),(3,_),(4,_),(5,_),(6,_)]) Z Z ⟨Z,Z,Z,Z,Z,ar⟩ Z).trans (Ent.to ⟨Z,Z,Z,congrArg (fun z=>some (eI z)) ((hn2 hc26t).1.symm),congrArg (fun s=>some (aS8 s)) ((hn2 hc26t).2.symm),ar⟩ Z)⟩
 refine ag (af (aj Z (jn (am Z (fun z40=>?_) (fun z40=>?_)))))
 refine ba (ac (js Z ?_))
 first|refine ji Z ?_|refine ck Z Z ?_
 refine js Z (jf [4,40,39,0,3,5,6] Z (jn ?_))
 have hst:oI t (z.1+1)=z.2:=by rw[hstep];unfold oS;rw[if_pos (b9 z40)]
 refine⟨(z.1+1,z.2),(aU [] (e':=[(0,_),(3,_),(4,_)]) Z Z ⟨Z,Z,Z,ar⟩ Z),⟨by show z.1+1≤_;omega,hst.symm,by show z.2.length≤9*(z.1+1);omega⟩,by show t.xs.length+1-(z.1+1)<t.xs.length+1-z.1;omega⟩
 refine ae (ag (af (aj Z (jn ?_))))
 obtain⟨o2,ho2⟩: ∃o,o=z.2++cz z.2 n:=⟨_,rfl⟩
 obtain⟨a,ha⟩: ∃a:Nat,a=n.natAbs:=⟨_,rfl⟩
 have hzl:z.2.length≤99:=by have:=hi.2.2;omega
 have h2l:o2.length≤z.2.length+1:=by have:=fP (o:=z.2) (n:=n);rw[ho2,dh];omega
 refine bk ⟨[(0,ptr t.cells),(3,aS8 o2),(4,eI (z.1:Nat)),(5,eI (a:Nat)),(6,aS8 nm)],[]⟩ ?_ ?_
 refine am Z (fun z42=>?_) (fun z42=>?_)
 refine af (js Z (ab (bg (p:=z.2) (q:=[45]) O Z Z Z Z Z Z (by show z.2.length+1≤L;omega) (by show L≤_;omega)) Z (js Z (jf [3,42,41,40,39,0,4,5,6] Z (jn (ac (js Z (ji Z (js Z (jf [5,3,42,41,40,39,0,4,6] Z (jn ?_)))))))))))
 exact⟨Z,(aU [] (e':=[(0,_),(3,_),(4,_),(5,_),(6,_)]) Z Z ⟨Z,Z,Z,Z,Z,ar⟩ Z).trans (Ent.to ⟨Z,congrArg (fun s=>some (aS8 s)) (show z.2++[45]=o2 by rw[ho2];unfold cz;rw[if_pos (b9 z42)]),Z,congrArg (fun z=>some (eI z)) (show 0-n=(a:Int) by have:=b9 z42;omega),Z,ar⟩ Z)⟩
 refine af (js Z (ab (cE (p:=z.2) (q:=[]) O Z Z Z Z Z Z) Z (jn (am Z (fun z48=>?_) (fun z48=>?_)))))
 refine ac (js Z (ab (bg (p:=z.2) (q:=[43]) O Z Z Z Z Z Z (by show z.2.length+1≤L;omega) (by show L≤_;omega)) Z (js Z (jf [3,48,47,42,41,40,39,0,4,5,6] Z (jn ?_)))))
 exact⟨Z,(aU [] (e':=[(0,_),(3,_),(4,_),(5,_),(6,_)]) Z Z ⟨Z,Z,Z,Z,Z,ar⟩ Z).trans (Ent.to ⟨Z,congrArg (fun s=>some (aS8 s)) (show z.2++[43]=o2 by rw[ho2];unfold cz;rw[if_neg (cw z42),if_neg (by simpa using z48)]),Z,congrArg (fun z=>some (eI z)) (show n=(a:Int) by have:=cw z42;omega),Z,ar⟩ Z)⟩
 refine ae ?_
 exact⟨Z,(aU [] (e':=[(0,_),(3,_),(4,_),(5,_),(6,_)]) Z Z ⟨Z,Z,Z,Z,Z,ar⟩ Z).trans (Ent.to ⟨Z,congrArg (fun s=>some (aS8 s)) (show z.2=o2 by rw[ho2];unfold cz;rw[if_neg (cw z42),if_pos (by simpa using z48),List.append_nil]),Z,congrArg (fun z=>some (eI z)) (show n=(a:Int) by have:=cw z42;omega),Z,ar⟩ Z)⟩
 refine ag (af (aQ Z (jf [53,0,3,4,5,6] Z (aw 2 Z Z Z (fun hx=>ak hx Z (aW hx (Val.seq (p:=nm) (q:=[]) O Z Z Z Z Z Z) Z (AN.nil))) Z Z ?_))))
 first|refine ab (aq O Z Z Z Z Z) Z ?_|refine ab (Val.pickB O Z Z Z Z Z) Z ?_|refine ab (ah O Z Z Z Z Z) Z ?_
 refine jf [56,0,3,4,5,6] Z (jn ?_)
 obtain⟨o3,ho3⟩: ∃o,o=o2++(if a=1∧nm≠[]then[]else Lib.decDigits a):=⟨_,rfl⟩
 have hdl:(Lib.decDigits a).length≤7:=fH (by omega)
 have h3l:o3.length≤o2.length+7:=by rw[ho3,dh];split<;>simp<;>omega
 refine bk ⟨[(0,ptr t.cells),(3,aS8 o3),(4,eI (z.1:Nat)),(5,eI (a:Nat)),(6,aS8 nm)],[]⟩ ?_ ?_
 refine am Z (fun z56=>?_) (fun z56=>?_)
 refine ac (aj Z (cn Z (oQ (n:=(a:Int)) h1 h2 (by omega) (by omega)) 60000 Z (ab (bg (p:=o2) (q:=Lib.itoa (a:Int)) O Z Z Z Z Z Z (by rw[cN];show o2.length+(Lib.decDigits a).length≤L;omega) (by show L≤_;omega)) Z (js Z (jf [3,56,0,4,5,6] Z (jn ?_))))))
 exact⟨rfl,(aU [] (e':=[(0,_),(3,_),(4,_),(5,_),(6,_)]) rfl rfl ⟨rfl,rfl,rfl,rfl,rfl,ar⟩ rfl).trans (Ent.to ⟨rfl,congrArg (fun s=>some (aS8 s)) (show o2++Lib.itoa (a:Int)=o3 by rw[ho3,cN,if_neg];rintro⟨e1,e2⟩;revert z56;simp[e1,e2]),rfl,rfl,rfl,ar⟩ rfl)⟩
 refine ae ?_
 exact⟨rfl,(aU [] (e':=[(0,_),(3,_),(4,_),(5,_),(6,_)]) rfl rfl ⟨rfl,rfl,rfl,rfl,rfl,ar⟩ rfl).trans (Ent.to ⟨rfl,congrArg (fun s=>some (aS8 s)) (show o2=o3 by rw[ho3,if_pos,List.append_nil];revert z56;cases h:decide ((a:Int)=1)<;>simp_all<;>omega),rfl,rfl,rfl,ar⟩ rfl)⟩
 refine ac (aj Z (ab (bg (p:=o3) (q:=nm) O Z Z Z Z Z Z (by show o3.length+nm.length≤L;omega) (by show L≤_;omega)) Z (js Z (jf [3,0,4,5,6] Z (jn (ac (js Z ?_)))))))
 first|refine ji Z ?_|refine ck Z Z ?_
 refine js Z (jf [4,3,0,5,6] Z (jn ?_))
 refine⟨(z.1+1,o3++nm),(aU [] (e':=[(0,_),(3,_),(4,_)]) Z Z ⟨Z,Z,Z,ar⟩ Z),⟨by show z.1+1≤_;omega,?_,by show(o3++nm).length≤9*(z.1+1);rw[dh];omega⟩,by show t.xs.length+1-(z.1+1)<t.xs.length+1-z.1;omega⟩
 show o3++nm=oI t (z.1+1)
 rw[hstep,ho3,ho2,ha]
 unfold oS
 rw[if_neg (cw z40)]
 refine ba (ag (af ?_))
 have hz1:z.1=t.xs.length+1:=by have:=cw z13;omega
 have ho:=hi.2.1
 rw[hz1]at ho
 refine js Z (ab (Val.seq (p:=z.2) (q:=[]) O Z Z Z Z Z Z) Z (jn (am Z (fun z65=>?_) (fun z65=>?_))))
 refine af (js Z (jr ?_))
 refine aC Z ?_
 rw[mZ,←ho]
 unfold tZ
 rw[if_pos (b9 z65)];rfl
 refine ae (af (aj Z (jr ?_)))
 refine aC Z ?_
 rw[mZ,←ho]
 unfold tZ
 rw[if_neg (cw z65)]
end Go.Al
/- What three functions of Go's library answer, as contracts of the abstract logic. -/
namespace Go.Al
variable{L:Nat}(h1:4096≤L)(h2:L≤1073741824)
theorem j8{w:World}{k:Nat}{os:Array Obj}:Frame w (Go.Sort.grow (w.drewN k) os) []:=by
 refine⟨Z,Z,Z,?_,fun b hb _=>?_⟩
 show w.heap.size≤(w.heap++os).size
 rw[Array.size_append];omega
 show(w.heap++os)[b]? = w.heap[b]?
 exact Array.getElem?_append_left hb
theorem jW{P:Program}{L f:Nat}{args:List A}{v:A}(hc:cP P f)
    (h: ∀(w:World) (ok:Nat→Prop) (m:Nat→Loc) (vs:List Value),GOk P w ok→RAs L w ok m args vs→Calls P f vs.toArray w (jJ fun x w'=>Frame w w' []∧∀ok' m',(∀b,w.heap.size≤b→ok' b)→RA L w' ok' m' v x)):MC P L f args [] (Plain v):=by
 refine⟨hc,fun w m F ok vs h0 h1 h2 h3 h4 h5=>?_⟩
 cases h1
 refine Calls.mono (h w ok m vs h0 h5) fun e w' he=>?_
 cases e with
 | returned x=>
  obtain⟨hf,hx⟩:=he
  exact⟨v,[],m,[],⟨Z,Z⟩,.nil,List.nodup_nil,(by simp),hx _ _ (fun b hb=>⟨by simp,.inr (.inl hb)⟩),hf,fun _ _ _=>rfl,h4⟩
 | _=>exact he
theorem RA.str_inv{L w ok m}{s:ByteArray}{x:Value}(h:RA L w ok m (.c (.d (.str s))) x):x= .string s∧s.size≤L:=by
 cases h with|c h=>cases h with|d h=>cases h with|str h=>exact⟨rfl,h⟩
theorem fu{L w ok m}{k:IntKind}{n:Int}{x:Value}(h:RA L w ok m (.c (.d (.int k n))) x):x= .int k n:=by
 cases h with|c h=>cases h with|d h=>cases h with|int h1 h2=>rfl
theorem GOk.tab{P:Program}{w:World}{ok:Nat→Prop}(h:GOk P w ok){g:Nat}(hg:P.globalNamed "internal/strconv.uint64pow10" = some g):Lib.TabIs P w "internal/strconv.uint64pow10" .u64 Lib.pow10Tab:=by
 obtain⟨_,cs,h1,h2⟩:=h "internal/strconv.uint64pow10" g (by simp[GN]) hg
 rw[h2.1 Z]at h1
 exact h1
theorem GOk.maxLen{P:Program}{w:World}{ok:Nat→Prop}(h:GOk P w ok){g:Nat}(hg:P.globalNamed "internal/bytealg.MaxLen" = some g): ∃m,w.cell? ⟨g,0,none⟩=some (.int .i64 m):=by
 obtain⟨_,cs,h1,h2⟩:=h "internal/bytealg.MaxLen" g (by simp[GN]) hg
 obtain⟨m,hm⟩:=h2.2 rfl
 refine⟨m,?_⟩
 unfold World.var? at h1
 rw[hg,Option.bind_some]at h1
 split at h1
 rename_i cs' _ _ hb
 cases h1
 simp[World.cell?,hb,hm]
 cases h1
variable{n:Int}
theorem oP(hn0: -9223372036854775808≤n)(hn1:n≤9223372036854775807):MQ h1 h2 90 [eI n,eI 10] [] (Plain (aS8 (Lib.itoa n))):=by
 refine jW ⟨_,_,Tryd.func90,by kernel_rfl,Z⟩ fun w ok m vs h0 h5=>?_
 cases h5 with
 | cons a1 a2=>cases a2 with
  | cons a3 a4=>
   cases a4
   rw[fu a1,fu a3]
   refine Calls.mono (Tryd.strconv_FormatInt_10 n hn0 hn1 w (h0.tab (g:=1) (by kernel_rfl))) fun e w' ⟨he,k,os,hw⟩=>?_
   subst he hw
   refine⟨j8,fun ok' m' _=>.c (.d (.str ?_))⟩
   show(bS (Lib.itoa n)).size≤L
   rw[bS_size]
   have hd: ∀m:Nat,m≤9223372036854775808→(Lib.decDigits m).length≤20:=fun m hm=>kR (by omega)
   unfold Lib.itoa
   split
   ·
    have:=hd n.natAbs (by omega);rw[gj];omega
   ·
    have:=hd n.toNat (by omega);omega
theorem gx(s:Str):(bS s).data.toList=s:=by simp[bS]
theorem iA(s sep:Str):(Lib.cut s sep).1.length≤s.length∧(Lib.cut s sep).2.1.length≤s.length:=by
 unfold Lib.cut
 split
 exact⟨by rw[List.length_take];omega,by rw[List.length_drop];omega⟩
 exact⟨bp _,dT _⟩
theorem nf{s sep:Str}:MQ h1 h2 38 [aS8 s,aS8 sep] [] (Plain (.tup [aS8 (Lib.cut s sep).1,aS8 (Lib.cut s sep).2.1,eB (Lib.cut s sep).2.2])):=by
 refine jW ⟨_,_,Tryd.func38,by kernel_rfl,Z⟩ fun w ok m vs h0 h5=>?_
 cases h5 with
 | cons a1 a2=>cases a2 with
  | cons a3 a4=>
   cases a4
   obtain⟨rfl,l1⟩:=a1.str_inv
   obtain⟨rfl,l2⟩:=a3.str_inv
   obtain⟨k,hk⟩:=h0.maxLen (g:=0) (by kernel_rfl)
   rw[bS_size]at l1
   refine Calls.mono (Tryd.strings_Cut (bS s) (bS sep) k w (by rw[bS_size];omega) hk) fun e w' ⟨he,j,hw⟩=>?_
   subst he hw
   have hl:=iA s sep
   refine⟨⟨Z,Z,Z,bp _,fun _ _ _=>rfl⟩,fun ok' m' _=>?_⟩
   rw[gx,gx]
   refine .tup (.cons (.c (.d (.str ?_))) (.cons (.c (.d (.str ?_))) (.cons (.c (.d .bool)) .nil)))
   ·
    show(bS _).size≤L;rw[bS_size];omega
   ·
    show(bS _).size≤L;rw[bS_size];omega
theorem d9{sep:Str}: ∀{k:Nat} {s:Str},∀p∈Lib.splitK sep 0 k s,p.length≤s.length
 | 0,s,p,hp=>by rw[List.mem_singleton.1 hp];exact bp _
 | k+1,s,p,hp=>by
  rw[Lib.splitK]at hp
  split at hp
  rw[List.mem_singleton.1 hp];exact bp _
  rcases List.mem_cons.1 hp with rfl|hp
  rw[List.length_take];omega
  have:=d9 p hp
  rw[List.length_drop]at this;omega
abbrev strs(ss:List Str):D:=.slc 1 (ss.map fun p=>[sD p])
theorem jp{L:Nat}{w:World}{ok:Nat→Prop}{b:Nat}: ∀{ss:List Str} {o:Nat},(∀p∈ss,p.length≤L)→(∀j p,ss[j]? = some p→w.cell? ⟨b,o+j,none⟩=some (.string (bS p)))→RDs L w ok (ss.map fun p=>[sD p]).flatten b o []
 | [],o,_,_=>.nil
 | p::r,o,h1,h2=>by
  simp only[List.map_cons,List.flatten_cons,List.singleton_append]
  refine .cons (F1:=[]) (F2:=[]) (h2 0 p Z) (.str (by rw[bS_size];exact h1 p (List.mem_cons_self ..))) (jp (fun q hq=>h1 q (List.mem_cons_of_mem _ hq)) fun j q hq=>?_)
  have:=h2 (j+1) q hq
  rwa[show o+1+j=o+(j+1) by omega]
theorem nd{s sep:Str}(hne:sep≠[])(hl:(Lib.split s sep).length≤L):MQ h1 h2 39 [aS8 s,aS8 sep] [] (Plain (.c (.d (strs (Lib.split s sep))))):=by
 refine jW ⟨_,_,Tryd.func39,by kernel_rfl,Z⟩ fun w ok m vs h0 h5=>?_
 cases h5 with
 | cons a1 a2=>cases a2 with
  | cons a3 a4=>
   cases a4
   obtain⟨rfl,l1⟩:=a1.str_inv
   obtain⟨rfl,l2⟩:=a3.str_inv
   obtain⟨k,hk⟩:=h0.maxLen (g:=0) (by kernel_rfl)
   rw[bS_size]at l1
   refine Calls.mono (Tryd.strings_Split (bS s) (bS sep) k w (by rw[bS_size];omega) hk (by rw[bS_size];exact List.length_pos_iff.2 hne)) fun e w' ⟨he,hw⟩=>?_
   subst he hw
   have hd:=Lib.splitB_data (bS sep) 0 (Lib.countB (bS s) (bS sep)) (bS s)
   have hc:Lib.countB (bS s) (bS sep)=Lib.count s sep:=by show Lib.count (bS s).data.toList (bS sep).data.toList=_;rw[gx,gx]
   rw[hc]at hd ⊢
   rw[gx,gx]at hd
   have hd2:Lib.splitB (bS sep) 0 (Lib.count s sep) (bS s)=(Lib.split s sep).map bS:=by
    have:=congrArg (List.map bS) hd
    rw[List.map_map]at this
    rw[show(Lib.split s sep)=Lib.splitK sep 0 (Lib.count s sep) s from Z,←this]
    conv=>lhs;rw[←List.map_id (Lib.splitB (bS sep) 0 (Lib.count s sep) (bS s))]
    exact List.map_congr_left fun x _=>(mX x).symm
   have hall:=Lib.splitB_all (bS sep) (by rw[bS_size];exact List.length_pos_iff.2 hne) 0 _ (bS s) Z
   rw[hc,hd2,dy]at hall
   refine⟨⟨Z,Z,Z,by show w.heap.size≤(w.heap.push _).size;rw[Array.size_push];omega,fun b hb _=>by show(w.heap.push _)[b]? = _;rw[Array.getElem?_push,if_neg (by omega)]⟩,fun ok' m' hok=>.c (.d ?_)⟩
   rw[hd2,←hall]
   rw[show(Lib.split s sep).length=((Lib.split s sep).map fun p=>[sD p]).length by rw[dy]]
   refine .slc (by rw[dy];exact hl) (bp _) (by intro e he;obtain⟨p,_,rfl⟩:=List.mem_map.1 he;rfl) (hok _ (bp _)) (by show w.heap.size<(w.heap.push _).size;rw[Array.size_push];omega) (jp (fun p hp=>Nat.le_trans (d9 p hp) l1) fun j p hj=>?_)
   rw[Nat.zero_add]
   have hb:(w.alloc (.cells (((Lib.split s sep).map bS).map Value.string).toArray 9)).heap[w.heap.size]? = some (.cells (((Lib.split s sep).map bS).map Value.string).toArray 9):=by
    show(w.heap.push _)[w.heap.size]? = _
    rw[Array.getElem?_push_size]
   rw[cell_of_row _ _ _ _ _ _ hb]
   simp[hj]
theorem na(hn0: -9223372036854775808≤n)(hn1:n≤9223372036854775807):MQ h1 h2 70 [eI n] [] (Plain (aS8 (Lib.itoa n))):=by
 refine au ?_ Z
 refine jB 5 h1 h2 Tryd.func70 Z fun O hF=>?_
 refine af (js Z (bq (js Z (jf [3,2] Z (cn Z (oP (n:=n) h1 h2 hn0 hn1) 5000 Z (js Z (jf [2] Z (jr ?_))))))))
 refine aC Z ?_
 rfl
theorem nb{o:Str}(ho:o.length≤1000):MQ h1 h2 68 [eI n,.c (.pt 0 0 0)] [(0,.box [.d (sD o)])] (g9 (.tup []) [(0,.box [.d (sD (o++cz o n))])]):=by
 refine jH 11 [0] h1 h2 Tryd.func68 Z fun O hF=>?_
 refine af (aj Z (jf [4,1] Z (jn (am Z (fun z4=>?_) (fun z4=>?_)))))
 refine ac (js Z (ab (bg (p:=o) (q:=[45]) O Z Z Z Z Z Z (by show o.length+1≤L;omega) (by show L≤_;omega)) Z (jf [6,1] Z (jo Z (aP ?_)))))
 refine jn ?_
 show _∧_
 refine⟨.inr Z,_,e7,_,Z,Z,?_⟩
 rw[show cz o n=[45] by unfold cz;rw[if_pos (b9 z4)]]
 refine af (js Z (ab (cE (p:=o) (q:=[]) O Z Z Z Z Z Z) Z (jf [8,1] Z (jn (am Z (fun z8=>?_) (fun z8=>?_))))))
 refine ac (js Z (ab (bg (p:=o) (q:=[43]) O Z Z Z Z Z Z (by show o.length+1≤L;omega) (by show L≤_;omega)) Z (jf [10,1] Z (jo Z (aP ?_)))))
 refine jn ?_
 show _∧_
 refine⟨.inr Z,_,e7,_,Z,Z,?_⟩
 rw[show cz o n=[43] by unfold cz;rw[if_neg (cw z4),if_neg (by simpa using z8)]]
 refine ae ?_
 show _∧_
 refine⟨.inr Z,_,e7,_,Z,Z,?_⟩
 rw[show cz o n=[] by unfold cz;rw[if_neg (cw z4),if_pos (by simpa using z8)],List.append_nil]
theorem mG{o:Str}{i:Nat}{c:Int}(h:c=0):tC o i c=o:=by unfold tC;rw[if_pos h]
theorem ns{o:Str}{i:Nat}{c:Int}(h: ¬c=0):tC o i c=(o++cz o c++(if c.natAbs=1 then[]else Lib.decDigits c.natAbs))++[eo i]:=by unfold tC;rw[if_neg h]
variable{t:Tm}
theorem ng(ht:t.ok=true):MQ h1 h2 34 [ew t] [] (Plain (aS8 (tS t))):=by
 refine au ?_ Z
 refine jB 52 h1 h2 Tryd.func34 Z fun O hF=>?_
 obtain⟨z6,hx6,hl10⟩:=fN ht
 have hl:t.xs.length≤L:=by omega
 refine af (jx Z (aP ?_))
 refine js Z (bq (jl Z (aP ?_)))
 refine jo Z (aP ?_)
 refine bq (aj Z (jn (ag (af (aj Z ?_)))))
 first|refine gl Z ?_|refine js Z ?_|refine ck Z Z ?_
 refine js Z (jn (ap (ax (X:=Nat×Str) (fun z=>⟨[(1,.c (.pt 1 0 0)),(3,.c (.pt 3 0 0)),(4,.c (.fn 68 [.pt 3 0 0])),(9,bz t.xs),(10,eI t.xs.length),(11,eI (z.1:Nat))],[(1,.box [.d (.int .i64 t.c),.d (eu t.xs)]),(3,.box [.d (sD z.2)])]⟩) (fun z=>z.1≤t.xs.length∧z.2=tX 0 (t.xs.take z.1) []∧z.2.length≤9*z.1) (fun z=>t.xs.length-z.1) (0,[]) (Ent.to ⟨Z,Z,Z,Z,Z,Z,ar⟩ Z) ?_ (fun z hi=>?_))))
 exact⟨dT _,by show[]=tX 0 (t.xs.take 0) [];simp[tX],bp _⟩
 refine af (js Z (jn (ag (am Z (fun z12=>?_) (fun z12=>?_)))))
 refine ae (ag (ap (af (js Z ?_))))
 first|refine ph Z Z ?_|refine nQ Z Z ?_|refine ck Z Z ?_
 refine aQ Z (jf [6,5,12,1,3,4,9,10,11] Z (jn (ag (af ?_))))
 have hz1:z.1<t.xs.length:=by have:=b9 z12;omega
 obtain⟨n,hn⟩: ∃n,n=(t.xs.getD z.1 default):=⟨_,rfl⟩
 rw[←hn]
 have hna:n.natAbs≤1000000:=by rw[hn,aJ hz1];exact hx6 _ (List.getElem_mem hz1)
 have hstep:tX 0 (t.xs.take (z.1+1)) []=tC z.2 z.1 n:=by rw[List.take_succ_eq_append_getElem hz1,io,List.length_take,Nat.min_eq_left (by omega),Nat.zero_add,hi.2.1,hn,aJ hz1]
 have hzl:z.2.length≤90:=by have:=hi.2.2;omega
 refine aj Z (jn (am Z (fun z17=>?_) (fun z17=>?_)))
 refine ba (ac ?_)
 first|refine ji Z ?_|refine ck Z Z ?_
 refine js Z (jn ?_)
 refine⟨(z.1+1,z.2),Ent.to ⟨Z,Z,Z,Z,Z,Z,ar⟩ Z,⟨by show z.1+1≤_;omega,?_,by show z.2.length≤9*(z.1+1);omega⟩,by show t.xs.length-(z.1+1)<t.xs.length-z.1;omega⟩
 show z.2=_
 rw[hstep,mG (b9 z17)]
 refine ae (af (aj Z (cQ O [3] (bin:=[.box [.d (sD z.2)]]) Z Z Z Z (nb (n:=n) (o:=z.2) h1 h2 (by omega)) Z Z Z Z Z Z (B0:=21000) Z Z (aP ?_))))
 obtain⟨o2,ho2⟩: ∃o,o=z.2++cz z.2 n:=⟨_,rfl⟩
 rw[←ho2]
 have h2l:o2.length≤z.2.length+1:=by have:=fP (o:=z.2) (n:=n);rw[ho2,dh];omega
 refine jf [17,16,6,5,12,1,3,4,9,10,11] Z (jn (ag (af (js Z (cn Z (no (x:=n) h1 h2 (by omega)) 23000 Z (js Z (jf [23,17,16,6,5,12,1,3,4,9,10,11] Z (jn ?_))))))))
 obtain⟨o3,ho3⟩: ∃o,o=o2++(if n.natAbs=1 then[]else Lib.decDigits n.natAbs):=⟨_,rfl⟩
 have hdl:(Lib.decDigits n.natAbs).length≤7:=fH hna
 have h3l:o3.length≤o2.length+7:=by rw[ho3,dh];split<;>simp<;>omega
 refine bk ⟨[(1,.c (.pt 1 0 0)),(3,.c (.pt 3 0 0)),(4,.c (.fn 68 [.pt 3 0 0])),(9,bz t.xs),(10,eI t.xs.length),(11,eI (z.1:Nat)),(5,eI (z.1:Nat)),(6,eI n)],[(1,.box [.d (.int .i64 t.c),.d (eu t.xs)]),(3,.box [.d (sD o3)])]⟩ ?_ ?_
 refine am Z (fun z23=>?_) (fun z23=>?_)
 refine mv [_,_,_,_,_,_] [pn [] 0 2,cm,pe [1] 0,pe [1,2] 1,pn (rg 0 4) 2 2,pe (rg 0 5) 2] [2,3,5] [_,_,_,_] (ai (kc Z (kc Z (V Z))) (kc Z (ai (cO O (B0:=27000) Z Z Z Z (no (x:=n) h1 h2 (by omega)) (ao Z) Z Z Z Z Z) (ai (cO O (B0:=28000) Z Z Z Z (na (n:=(n.natAbs:Int)) h1 h2 (by omega) (by omega)) (ao Z) Z Z Z Z Z) (ai (bg (p:=o2) (q:=Lib.itoa (n.natAbs:Int)) O Z Z Z Z Z Z (by rw[cN];have:=fH hna;show o2.length+(Lib.decDigits n.natAbs).length≤L;omega) (by show L≤_;omega)) (ai (eS Z Z Z) trivial)))))) ?_
 refine p8 ?_
 exact⟨Z,Ent.to ⟨Z,Z,Z,Z,Z,Z,Z,Z,ar⟩ (by rw[ho3,if_neg (by have:=z23;simp at this;omega),cN])⟩
 refine ae ?_
 exact⟨Z,e7.trans (Ent.to ⟨Z,Z,Z,Z,Z,Z,Z,Z,ar⟩ (by rw[ho3,if_pos (by have:=z23;simp at this;omega),List.append_nil];rfl))⟩
 refine ac (aj Z ?_)
 first|refine ji Z ?_|refine ck Z Z ?_
 refine ab ((Val.conv (b:=true) (dt:=.int .i64) O Z Z Z (by kernel_rfl) (by kernel_rfl)).cast (v':=.c (.d (.int .i32 (97+z.1:Int)))) (by rw[cC .i32 _ (by show(-2147483648:Int)≤_;omega) (by show _≤(2147483647:Int);omega)])) Z (ab ((lj (dt:=.int .i32) O Z Z Z (by kernel_rfl) (by kernel_rfl) (by omega) (by omega)).cast (v':=aS8 [eo z.1]) (by rw[show(97+(z.1:Int)).toNat=97+z.1 by omega];rfl)) Z (ab (bg (p:=o3) (q:=[eo z.1]) O Z Z Z Z Z Z (by show o3.length+1≤L;omega) (by show L≤_;omega)) Z (jf [34,1,3,4,9,10,11,6] Z (jo Z (aP ?_)))))
 refine jn (ac ?_)
 first|refine ji Z ?_|refine ck Z Z ?_
 refine js Z (jn ?_)
 refine⟨(z.1+1,o3++[eo z.1]),Ent.to ⟨Z,Z,Z,Z,Z,Z,ar⟩ Z,⟨by show z.1+1≤_;omega,?_,by show(o3++[eo z.1]).length≤9*(z.1+1);rw[dh,List.length_singleton];omega⟩,by show t.xs.length-(z.1+1)<t.xs.length-z.1;omega⟩
 show o3++[eo z.1]=_
 rw[hstep,ns (cw z17),ho3,ho2]
 refine ba (ag (af ?_))
 obtain hz1:z.1=t.xs.length:=by have:=cw z12;omega
 have hzl:z.2.length≤90:=by have:=hi.2.2;omega
 have ho:=hi.2.1
 rw[hz1,List.take_length]at ho
 refine aQ Z (jf [38,12,1,3,4,9,10,11] Z (jn ?_))
 obtain⟨o5,ho5⟩: ∃o,o=tK z.2 t.c:=⟨_,rfl⟩
 refine bk ⟨[(1,.c (.pt 1 0 0)),(3,.c (.pt 3 0 0))],[(1,.box [.d (.int .i64 t.c),.d (eu t.xs)]),(3,.box [.d (sD o5)])]⟩ ?_ ?_
 refine am Z (fun z38=>?_) (fun z38=>?_)
 refine af (aQ Z (jf [41,39,38,12,1,3,4,9,10,11] Z (cQ O [3] (bin:=[.box [.d (sD z.2)]]) Z Z Z Z (nb (n:=t.c) (o:=z.2) h1 h2 (by omega)) Z Z Z Z Z Z (B0:=43000) Z Z (aP ?_))))
 refine jf [38,12,1,3,4,9,10,11] Z (jn (mv [_,_,_,_,_,_,_] [pn [] 0 2,cm,bL [1],pe [1,2] 0,pe [1,2,3] 1,pn (rg 0 5) 2 2,pe (rg 0 6) 2] [3,4,6] [_,_,_,_] (ai (kc Z (kc Z (V Z))) (kc Z (kc Z (ai (cO O (B0:=47000) Z Z Z Z (no (x:=t.c) h1 h2 (by omega)) (ao Z) Z Z Z Z Z) (ai (cO O (B0:=48000) Z Z Z Z (na (n:=(t.c.natAbs:Int)) h1 h2 (by omega) (by omega)) (ao Z) Z Z Z Z Z) (ai (bg (p:=(z.2++cz z.2 t.c)) (q:=Lib.itoa (t.c.natAbs:Int)) O Z Z Z Z Z Z (by rw[cN];have:=fH z6;have h7:=fP (o:=z.2) (n:=t.c);show(z.2++cz z.2 t.c).length+(Lib.decDigits t.c.natAbs).length≤L;rw[dh];omega) (by show L≤_;omega)) (ai (eS Z Z Z) trivial))))))) ?_))
 refine p8 ?_
 exact⟨Z,Ent.to ⟨Z,Z,ar⟩ (by rw[ho5,cN];unfold tK;rw[if_neg (by simpa using z38)])⟩
 refine ae ?_
 exact⟨Z,e7.trans (Ent.to ⟨Z,Z,ar⟩ (by rw[ho5];unfold tK;rw[if_pos (by simpa using z38)]))⟩
 refine ag (af (js Z (ab (Val.seq (p:=o5) (q:=[]) O Z Z Z Z Z Z) Z (jn (am Z (fun z50=>?_) (fun z50=>?_))))))
 refine af (js Z (jr ?_))
 refine aC Z ?_
 rw[show tS t=tZ o5 by rw[ho5,ho];rfl]
 unfold tZ
 rw[if_pos (b9 z50)];rfl
 refine ae (af (aj Z (jr ?_)))
 refine aC Z ?_
 rw[show tS t=tZ o5 by rw[ho5,ho];rfl]
 unfold tZ
 rw[if_neg (cw z50)]
end Go.Al
/- Lemmas for the walk of the program's reader of oE. -/
namespace Go.Al
variable{L:Nat}(h1:4096≤L)(h2:L≤1073741824)
open Go.Lib
theorem bc{s:Str}{i:Nat}(h:i<s.length):s[((i:Nat):Int).toNat]? = some (s.getD i 0):=by
 rw[Int.toNat_natCast,List.getElem?_eq_getElem h];simp[h]
theorem bi{s:Str}{i:Nat}(h:i<s.length):s.drop i=s.getD i 0::s.drop (i+1):=by
 rw[List.drop_eq_getElem_cons h];simp[h]
theorem ey{b:UInt8}{n:Nat}(hn:n<256):((b.toNat:Int)=n)↔b=UInt8.ofNat n:=by
 constructor
 intro h
 apply UInt8.toNat_inj.1
 rw[UInt8.toNat_ofNat'];omega
 rintro rfl
 rw[UInt8.toNat_ofNat'];omega
abbrev bt(s:Str)(i:Nat):Int:=((s.getD i 0).toNat:Int)
theorem iO(s:Str)(i:Nat):0≤bt s i∧bt s i≤255:=by
 have:=(s.getD i 0).toNat_lt
 unfold bt;omega
theorem mR{s:Str}{i:Nat}(h:i<s.length):fK (s.drop i)=if bt s i=45 then(-1,s.drop (i+1))else if bt s i=43 then(1,s.drop (i+1))else(1,s.drop i):=by
 rw[bi h,fK]
 have h1:bt s i=45↔s.getD i 0=45:=ey (b:=s.getD i 0) (n:=45) (by decide)
 have h2:bt s i=43↔s.getD i 0=43:=ey (b:=s.getD i 0) (n:=43) (by decide)
 by_cases e1:bt s i=45
 rw[if_pos e1,if_pos (h1.1 e1)]
 rw[if_neg e1,if_neg (fun e=>e1 (h1.2 e))]
 by_cases e2:bt s i=43
 rw[if_pos e2,if_pos (h2.1 e2)]
 rw[if_neg e2,if_neg (fun e=>e2 (h2.2 e)),←bi h]
theorem kM{s:Str}{i:Nat}(h:i<s.length): ∃(sg:Int) (i1:Nat),fK (s.drop i)=(sg,s.drop i1)∧(i≤i1∧i1≤i+1∧i1≤s.length)∧(sg=1∨sg= -1)∧(if bt s i=45 then sg= -1∧i1=i+1 else if bt s i=43 then sg=1∧i1=i+1 else sg=1∧i1=i):=by
 rw[mR h]
 split
 exact⟨-1,i+1,Z,⟨by omega,by omega,by omega⟩,.inr Z,Z,Z⟩
 split
 exact⟨1,i+1,Z,⟨by omega,by omega,by omega⟩,.inl Z,Z,Z⟩
 exact⟨1,i,Z,⟨by omega,by omega,by omega⟩,.inl Z,Z,Z⟩
theorem ij{s:Str}{i:Nat}:go (s.getD i 0)=(decide (48≤bt s i)&&decide (bt s i≤57)):=by
 unfold go bt
 congr 1<;>(apply Bool.eq_iff_iff.2;simp;omega)
theorem jP{s:Str}{i:Nat}:lA (s.getD i 0)=(decide (97≤bt s i)&&decide (bt s i<107)):=by
 unfold lA bt
 congr 1<;>(apply Bool.eq_iff_iff.2;simp;omega)
theorem iX{s:Str}{i k:Nat}{n:Int}(h:i<s.length)(h1:48≤bt s i)(h2:bt s i≤57):aV (k+1) n (s.drop i)=aV k (10*n+(bt s i-48)) (s.drop (i+1)):=by
 rw[bi h,aV,if_pos (by rw[ij];simp[h1,h2])]
theorem f2{s:Str}{i i1:Nat}{n:Int}(h: ¬(i<s.length∧48≤bt s i∧bt s i≤57∧i<i1+8))(h0:i1≤i)(h8:i≤i1+8)(hl:i≤s.length):aV (8-(i-i1)) n (s.drop i)=(n,s.drop i):=by
 by_cases h1:i<s.length
 by_cases h2:i<i1+8
 rw[bi h1,eb]
 rw[ij]
 by_cases h3:48≤bt s i
 by_cases h4:bt s i≤57
 exact absurd ⟨h1,h3,h4,h2⟩ h
 simp[h4]
 simp[h3]
 rw[show 8-(i-i1)=0 by omega,aV]
 rw[List.drop_eq_nil_of_le (by omega),gJ]
theorem lO{s:Str}{i i1 i2:Nat}{sg n:Int}(hs:fK (s.drop i)=(sg,s.drop i1))(hn:aV 8 0 (s.drop i1)=(n,s.drop i2))(h1:i1≤i2)(h2:i2≤s.length) :
    jE (s.drop i)=if i2<s.length∧97≤bt s i2∧bt s i2<107 then some (s.drop (i2+1),some ((s.getD i2 0).toNat-97),sg*(if i2=i1 then 1 else n))else if i2=i1 then none else some (s.drop i2,none,sg*n):=by
 unfold jE
 simp only[hs,hn]
 have hl:((s.drop i2).length=(s.drop i1).length)↔i2=i1:=by rw[List.length_drop,List.length_drop];omega
 by_cases h:i2<s.length
 rw[bi h]at hl ⊢
 simp only[hl,jP]
 by_cases h3:97≤bt s i2
 by_cases h4:bt s i2<107
 simp[h,h3,h4]
 simp[h4]
 simp[h3]
 have he:s.drop i2=[]:=List.drop_eq_nil_of_le (by omega)
 rw[if_neg (show¬(i2<s.length∧97≤bt s i2∧bt s i2<107)from fun e=>h e.1)]
 rw[he]at hl ⊢
 simp only[hl]
theorem i3{k:Nat}{n d:Int}(h:n<10^k)(hd:d≤9):10*n+d<10^(k+1):=by
 rw[Int.pow_succ];omega
theorem ku{k:Nat}(h:k≤8):(10:Int)^k≤100000000:=by
 have:10^k≤10^8:=Nat.pow_le_pow_right (by decide) h
 have e:((10^k:Nat):Int)=(10:Int)^k:=by rw[Int.natCast_pow];rfl
 rw[←e];omega
theorem gW{xs:List Int}{i:Nat}{n:Int}:(bn xs i n).length=xs.length:=by unfold bn;rw[List.length_set]
theorem jk{xs:List Int}{i:Nat}{n B M:Int}(hB:0≤B)(h: ∀y∈xs,-B≤y∧y≤B)(h1: -M≤n)(h2:n≤M): ∀y∈bn xs i n,-(B+M)≤y∧y≤B+M:=by
 intro y hy
 unfold bn at hy
 rcases List.mem_or_eq_of_mem_set hy with hy|rfl
 have:=h y hy;omega
 by_cases hi:i<xs.length
 have:=h _ (List.getElem_mem hi)
 rw[show xs.getD i 0=xs[i] by simp[hi]];omega
 rw[show xs.getD i 0=0 by simp[Nat.not_lt.1 hi]];omega
theorem l5{xs:List Int}{i:Nat}{B:Int}(hB:0≤B)(h: ∀y∈xs,-B≤y∧y≤B): -B≤xs.getD i 0∧xs.getD i 0≤B:=by
 by_cases hi:i<xs.length
 rw[show xs.getD i 0=xs[i] by simp[hi]];exact h _ (List.getElem_mem hi)
 rw[show xs.getD i 0=0 by simp[Nat.not_lt.1 hi]];omega
theorem qa{a b c d:Prop}[Decidable a][Decidable b][Decidable c][Decidable d]:(bif (bif (bif decide a then decide b else false)then decide c else false)then decide d else false)=true↔a∧b∧c∧d:=by
 by_cases a<;>by_cases b<;>by_cases c<;>by_cases d<;>simp_all
theorem o0{a b c:Prop}[Decidable a][Decidable b][Decidable c]:(bif (bif decide a then decide b else false)then decide c else false)=true↔a∧b∧c:=by
 by_cases a<;>by_cases b<;>by_cases c<;>simp_all
theorem fB{x:Bool}{p:Prop}(h:x=false)(hx:x=true↔p): ¬p:=fun hp=>by rw[hx.2 hp]at h;cases h
theorem ni{a:Prop}[Decidable a](h:(decide a==true)=true):a:=by simpa using h
theorem nM{a:Prop}[Decidable a]{b:Bool}(h:((bif decide a then b else false)==true)=true):a:=by
 by_cases a<;>simp_all
def et(r:Option Tm):Tm×Bool:=match r with
  | none=>(⟨0,[]⟩,false)
  | some t=>(t,true)
theorem ic{s:Str}{ys:List Int}{c:Int}(h:e5 s (zr 10) 0=some (ys,c)):rdT s=if(Tm.mk c (aT ys)).ok=true∧tS ⟨c,aT ys⟩=s then some ⟨c,aT ys⟩else none:=by
 unfold rdT;rw[h]
theorem lX{s:Str}(h:e5 s (zr 10) 0=none):rdT s=none:=by
 unfold rdT;rw[h]
theorem nh{s:Str}(hs:s.length≤1100000):MQ h1 h2 12 [aS8 s] [] (Plain (lL (et (rdT s)))):=by
 refine MC.data (jB 120 h1 h2 Tryd.func12 Z fun O hF=>?_)
 refine af (jl Z (aP ?_))
 refine js Z (bq (cW (iE O Z Z Z Z Z Z Z Z Z (by first|omega|(simp at *;omega)) (by first|omega|(simp at *;omega)) (by first|omega|(simp at *;omega)) (by first|omega|(dsimp only;omega)|(simp only[bw]at *;omega)) (by first|omega|(simp at *;omega)) Z Z Z) Z (aP ?_)))
 refine js Z (jf [10,3,2,0] Z (jl Z (aP ?_)))
 refine jo Z (aP ?_)
 refine jn (ag (af (js Z (jn (ap (ax (X:=Nat×List Int×Int) (fun z=>⟨[(0,aS8 s),(2,.c (.pt 2 0 0)),(4,.c (.pt 4 0 0)),(5,eI (z.1:Nat))],[(2,.box [.d (.int .i64 0),.d .nils]),(4,.box [.d (.int .i64 z.2.2),.rs 9 0 10]),(9,bE z.2.1)]⟩) (fun z=>z.1≤s.length∧z.2.1.length=10∧(∀y∈z.2.1,-(100000000*(z.1:Int))≤y∧y≤100000000*(z.1:Int))∧(-(100000000*(z.1:Int))≤z.2.2∧z.2.2≤100000000*(z.1:Int))∧e5 (s.drop z.1) z.2.1 z.2.2=e5 s (zr 10) 0) (fun z=>s.length-z.1) (0,zr 10,0) (Ent.to ⟨Z,Z,Z,Z,ar⟩ Z) ?_ (fun z hi=>?_)))))))
 exact⟨dT _,Z,fun y hy=>by rw[show y=0 from List.eq_of_mem_replicate hy];simp,by simp,Z⟩
 refine ag (af (aj Z (ab (aO (p:=s) O Z Z Z Z Z Z Z Z Z) Z (js Z (jf [14,0,2,4,5] Z (jn (am Z (fun z14=>?_) (fun z14=>?_))))))))
 refine ae (ap (af (js Z (jn (ag (af (aj Z ?_)))))))
 have hz0:z.1<s.length:=by have:=b9 z14;omega
 have hiz:=hi
 obtain⟨sg,i1,hsg,hi1,hsg1,hsv⟩:=kM hz0
 refine ab (ay (p:=s) (b:=s.getD z.1 0) O Z Z Z Z Z Z Z (by omega) (bc hz0)) Z (jf [17,6,14,0,2,4,5] Z (jn (bk ⟨[(0,aS8 s),(2,.c (.pt 2 0 0)),(4,.c (.pt 4 0 0)),(5,eI (i1:Nat)),(6,eI sg)],[(2,.box [.d (.int .i64 0),.d .nils]),(4,.box [.d (.int .i64 z.2.2),.rs 9 0 10]),(9,bE z.2.1)]⟩ ?_ ?_)))
 refine ap (af (aj Z (jn (am Z (fun z18=>?_) (fun z18=>?_)))))
 refine af (js Z (jn (ac (js Z ?_))))
 first|refine ji Z ?_|refine ck Z Z ?_
 refine js Z (jf [5,6,18,19,17,14,0,2,4] Z (jn ?_))
 exact⟨Z,Ent.to ⟨Z,Z,Z,congrArg (fun z=>some (eI z)) (show(z.1:Int)+1=(i1:Int) by rw[if_pos (b9 z18)]at hsv;omega),congrArg (fun z=>some (eI z)) (show(-1:Int)=sg by rw[if_pos (b9 z18)]at hsv;omega),ar⟩ Z⟩
 refine af (aj Z (jn (am Z (fun z22=>?_) (fun z22=>?_))))
 refine ac (js Z ?_)
 first|refine ji Z ?_|refine ck Z Z ?_
 refine js Z (jf [5,22,23,18,19,17,6,14,0,2,4] Z (jn ?_))
 exact⟨Z,Ent.to ⟨Z,Z,Z,congrArg (fun z=>some (eI z)) (show(z.1:Int)+1=(i1:Int) by rw[if_neg (cw z18),if_pos (b9 z22)]at hsv;omega),congrArg (fun z=>some (eI z)) (show(1:Int)=sg by rw[if_neg (cw z18),if_pos (b9 z22)]at hsv;omega),ar⟩ Z⟩
 refine ae ?_
 exact⟨Z,Ent.to ⟨Z,Z,Z,congrArg (fun z=>some (eI z)) (show(z.1:Int)=(i1:Int) by rw[if_neg (cw z18),if_neg (cw z22)]at hsv;omega),congrArg (fun z=>some (eI z)) (show(1:Int)=sg by rw[if_neg (cw z18),if_neg (cw z22)]at hsv;omega),ar⟩ Z⟩
 refine af (aQ Z (jn (ag (ap (ax (X:=Nat×Int) (fun y=>⟨[(0,aS8 s),(2,.c (.pt 2 0 0)),(4,.c (.pt 4 0 0)),(5,eI (y.1:Nat)),(6,eI sg),(7,eI (i1:Nat)),(8,eI y.2)],[(2,.box [.d (.int .i64 0),.d .nils]),(4,.box [.d (.int .i64 z.2.2),.rs 9 0 10]),(9,bE z.2.1)]⟩) (fun y=>i1≤y.1∧y.1≤s.length∧y.1≤i1+8∧0≤y.2∧y.2<10^(y.1-i1)∧aV (8-(y.1-i1)) y.2 (s.drop y.1)=aV 8 0 (s.drop i1)) (fun y=>s.length-y.1) (i1,0) (Ent.to ⟨Z,Z,Z,Z,Z,Z,Z,ar⟩ Z) ?_ (fun y hi=>?_))))))
 exact⟨bp _,hi1.2.2,by show i1≤i1+8;omega,Int.le_refl _,by show(0:Int)<10^(i1-i1);rw[Nat.sub_self];decide,by show aV (8-(i1-i1)) 0 _=_;rw[Nat.sub_self]⟩
 refine ag (af (aj Z (ab (aO (p:=s) O Z Z Z Z Z Z Z Z Z) Z (aj Z (jf [31,0,2,4,5,6,7,8] Z (aw 4 Z Z Z (fun hx=>ak hx Z (ak hx Z (aW hx (ay (p:=s) (b:=s.getD y.1 0) O Z Z Z Z Z Z Z (by omega) (bc (by have:=ni hx;omega))) Z (ak hx Z (AN.nil))))) Z Z ?_))))))
 first|refine ab (ah O Z Z Z Z Z) Z ?_|refine ab (aq O Z Z Z Z Z) Z ?_|refine ab (Val.pickB O Z Z Z Z Z) Z ?_
 refine js Z (jf [37,0,2,4,5,6,7,8] Z (aw 4 Z Z Z (fun hx=>ak hx Z (ak hx Z (aW hx (ay (p:=s) (b:=s.getD y.1 0) O Z Z Z Z Z Z Z (by omega) (bc (by have:=nM hx;omega))) Z (ak hx Z (AN.nil))))) Z Z ?_))
 first|refine ab (ah O Z Z Z Z Z) Z ?_|refine ab (aq O Z Z Z Z Z) Z ?_|refine ab (Val.pickB O Z Z Z Z Z) Z ?_
 refine js Z (jf [43,0,2,4,5,6,7,8] Z (aw 4 Z Z Z (fun hx=>ak hx Z (ak hx Z (aW hx (vF Z) Z (ak hx Z (AN.nil))))) Z Z ?_))
 first|refine ab (ah O Z Z Z Z Z) Z ?_|refine ab (aq O Z Z Z Z Z) Z ?_|refine ab (Val.pickB O Z Z Z Z Z) Z ?_
 refine jf [48,0,2,4,5,6,7,8] Z (jn (am Z (fun z48=>?_) (fun z48=>?_)))
 refine ae (ag (ap (ac ?_)))
 have z4:=qa.1 z48
 have hc4n:y.1<s.length:=by have:=z4.1;omega
 have hp8:=ku (k:=y.1-i1) (by omega)
 have hby:0≤((s.getD y.1 0).toNat:Int)∧((s.getD y.1 0).toNat:Int)≤255:=iO s y.1
 refine js Z ?_
 first|refine ji Z ?_|refine ck Z Z ?_
 refine aj Z (ab (ay (p:=s) (b:=s.getD y.1 0) O Z Z Z Z Z Z Z (by omega) (bc hc4n)) Z (ab (bZ (k:=.u8) (n:=((s.getD y.1 0).toNat:Int)-48) O Z Z (by show(0:Int)≤_;omega) (by show _≤(255:Int);omega)) Z (ab ((Val.conv (b:=true) (dt:=.int .u8) O Z Z Z (by kernel_rfl) (by kernel_rfl)).cast (v':=eI (((s.getD y.1 0).toNat:Int)-48)) (by rw[cC .i64 _ (by show(-9223372036854775808:Int)≤_;omega) (by show _≤(9223372036854775807:Int);omega)])) Z ?_)))
 first|refine ji Z ?_|refine ck Z Z ?_
 refine js Z (jf [8,48,0,2,4,5,6,7] Z (jn (ac (js Z ?_))))
 first|refine ji Z ?_|refine ck Z Z ?_
 refine js Z (jf [5,8,48,0,2,4,6,7] Z (jn ?_))
 refine⟨(y.1+1,10*y.2+(((s.getD y.1 0).toNat:Int)-48)),Ent.to ⟨Z,Z,Z,Z,Z,Z,Z,ar⟩ Z,⟨by show i1≤y.1+1;omega,by show y.1+1≤_;omega,by show y.1+1≤i1+8;omega,by show 0≤10*y.2+(((s.getD y.1 0).toNat:Int)-48);omega,?_,?_⟩,by show s.length-(y.1+1)<s.length-y.1;omega⟩
 show 10*y.2+(((s.getD y.1 0).toNat:Int)-48)<10^(y.1+1-i1)
 rw[show y.1+1-i1=(y.1-i1)+1 by omega]
 exact i3 hi.2.2.2.2.1 (by omega)
 show aV (8-(y.1+1-i1)) (10*y.2+(((s.getD y.1 0).toNat:Int)-48)) (s.drop (y.1+1))=_
 rw[←hi.2.2.2.2.2,show 8-(y.1-i1)=(8-(y.1+1-i1))+1 by omega,iX hc4n z4.2.1 z4.2.2.1]
 refine ba (ap (af ?_))
 have hend:=f2 (s:=s) (i:=y.1) (i1:=i1) (n:=y.2) (fun hh=>fB z48 qa ⟨by omega,hh.2.1,hh.2.2.1,by omega⟩) hi.1 hi.2.2.1 hi.2.1
 rw[hi.2.2.2.2.2]at hend
 have hst0:=lO hsg hend hi.1 hi.2.1
 have hp8:=ku (k:=y.1-i1) (by omega)
 have hby:0≤((s.getD y.1 0).toNat:Int)∧((s.getD y.1 0).toNat:Int)≤255:=iO s y.1
 refine aj Z ?_
 have hiy:=hi
 refine ab (aO (p:=s) O Z Z Z Z Z Z Z Z Z) Z (aj Z (jf [71,48,0,2,4,5,6,7,8] Z (aw 4 Z Z Z (fun hx=>ak hx Z (ak hx Z (aW hx (ay (p:=s) (b:=s.getD y.1 0) O Z Z Z Z Z Z Z (by omega) (bc (by have:=ni hx;omega))) Z (ak hx Z (AN.nil))))) Z Z ?_)))
 first|refine ab (ah O Z Z Z Z Z) Z ?_|refine ab (aq O Z Z Z Z Z) Z ?_|refine ab (Val.pickB O Z Z Z Z Z) Z ?_
 refine js Z (jf [77,48,0,2,4,5,6,7,8] Z (aw 4 Z Z Z (fun hx=>ak hx Z (ak hx Z (aW hx (ay (p:=s) (b:=s.getD y.1 0) O Z Z Z Z Z Z Z (by omega) (bc (by have:=nM hx;omega))) Z (ak hx Z (AN.nil))))) Z Z ?_))
 first|refine ab (ah O Z Z Z Z Z) Z ?_|refine ab (aq O Z Z Z Z Z) Z ?_|refine ab (Val.pickB O Z Z Z Z Z) Z ?_
 refine js Z (jf [66,48,0,2,4,5,6,7,8] Z (jn (am Z (fun z66=>?_) (fun z66=>?_))))
 refine ag (af ?_)
 have z3:=o0.1 z66
 have hc3n:y.1<s.length:=by have:=z3.1;omega
 refine aQ Z (jf [85,66,48,0,2,4,5,6,7,8] Z (jn ?_))
 obtain⟨n1,hn1⟩: ∃n1,n1=if y.1=i1 then 1 else y.2:=⟨_,rfl⟩
 have hnb:0≤n1∧n1≤100000000:=by rw[hn1];split<;>omega
 have hm1: -100000000≤sg*n1:=by rcases hsg1 with e|e<;>rw[e]<;>omega
 have hm2:sg*n1≤100000000:=by rcases hsg1 with e|e<;>rw[e]<;>omega
 obtain⟨j,hj⟩: ∃j:Nat,((s.getD y.1 0).toNat:Int)-97=(j:Int):=⟨(((s.getD y.1 0).toNat:Int)-97).toNat,by omega⟩
 have hj10:j<10:=by omega
 have hgj:=l5 (i:=j) (B:=100000000*(z.1:Int)) (by omega) hiz.2.2.1
 have hst:jE (s.drop z.1)=some (s.drop (y.1+1),some j,sg*n1):=by rw[hst0,if_pos ⟨hc3n,z3.2.1,z3.2.2⟩,←hn1,show(s.getD y.1 0).toNat-97=j by omega]
 refine bk ⟨[(0,aS8 s),(2,.c (.pt 2 0 0)),(4,.c (.pt 4 0 0)),(5,eI (y.1:Nat)),(6,eI sg),(8,eI n1)],[(2,.box [.d (.int .i64 0),.d .nils]),(4,.box [.d (.int .i64 z.2.2),.rs 9 0 10]),(9,bE z.2.1)]⟩ ?_ ?_
 refine am Z (fun z85=>?_) (fun z85=>?_)
 refine ac (js Z (jn ?_))
 exact⟨Z,Ent.to ⟨Z,Z,Z,Z,Z,congrArg (fun z=>some (eI z)) (show(1:Int)=n1 by rw[hn1,if_pos (by have:=b9 z85;omega)]),ar⟩ Z⟩
 refine ae ?_
 exact⟨Z,Ent.to ⟨Z,Z,Z,Z,Z,congrArg (fun z=>some (eI z)) (show y.2=n1 by rw[hn1,if_neg (by have:=cw z85;omega)]),ar⟩ Z⟩
 refine ag ?_
 have hi:=hiz
 refine mv [_,_,_,_,_,_,_,_,_,_,_,_,_,_] [cm,bL [0],cm,cm,bL [2,3],bL [2,3,4],bL (rg 0 6),bL (rg 0 7),cm,cm,bL [8,9],bL (rg 0 11),bL (rg 0 12),pe (rg 0 13) 0] [13] [_,_] (nU Z (ai (ay (p:=s) (b:=s.getD y.1 0) O Z Z Z Z Z Z Z (by omega) (bc hc3n)) (ai ((bZ (k:=.u8) (n:=((s.getD y.1 0).toNat:Int)-97) O Z Z (by show(0:Int)≤_;omega) (by show _≤(255:Int);omega)).cast (v':=.c (.d (.int .u8 (j:Int)))) (by rw[hj])) (ai (cf (c:=0≤(j:Int)∧(j:Int)<((10:Nat):Int)) (v:=.c (.pt 9 (0+(j:Int).toNat) 0)) O Z Z (by omega)) (ai (dx O (ex:=[.int .i64 (z.2.1.getD j 0)]) Z Z Z Z (by simp[hi.2.1,hj10]) Z) (kc Z (kc Z (ai (aI O Z Z (by omega) (by omega)) (ai (aI O Z Z (by omega) (by omega)) (ai (cf (c:=0≤(j:Int)∧(j:Int)<((10:Nat):Int)) (v:=.c (.pt 9 (0+(j:Int).toNat) 0)) O Z Z (by omega)) (ai (eO (ex:=[.int .i64 (z.2.1.getD j 0)]) (xs':=(bn z.2.1 j (sg*n1)).map (fun n=>[D.int .i64 n])) O Z Z Z Z Z Z Z Z Z Z Z Z Z Z Z (by simp[hi.2.1,hj10]) (by unfold bn;rw[List.map_set];simp only[Int.toNat_natCast,Nat.zero_add];rfl) Z) trivial))))))))))) ?_
 refine ac (js Z ?_)
 first|refine ji Z ?_|refine ck Z Z ?_
 refine js Z (jf [5,98,97,96,95,94,93,92,91,90,89,88,87,86,0,2,4,6,8] Z (jn ?_))
 refine⟨(y.1+1,bn z.2.1 j (sg*n1),z.2.2),Ent.to ⟨Z,Z,Z,Z,ar⟩ Z,⟨by show y.1+1≤_;omega,by show(bn _ _ _).length=10;rw[gW];exact hiz.2.1,?_,?_,?_⟩,by show s.length-(y.1+1)<s.length-z.1;omega⟩
 exact fun q hq=>by have:=jk (B:=100000000*(z.1:Int)) (M:=100000000) (by omega) hiz.2.2.1 hm1 hm2 q hq;show -(100000000*((y.1+1:Nat):Int))≤q∧q≤100000000*((y.1+1:Nat):Int);omega
 show -(100000000*((y.1+1:Nat):Int))≤z.2.2∧z.2.2≤100000000*((y.1+1:Nat):Int);have:=hiz.2.2.2.1;omega
 show e5 (s.drop (y.1+1)) (bn z.2.1 j (sg*n1)) z.2.2=_
 rw[←ir hst,hiz.2.2.2.2]
 refine af ?_
 have z3:=fB z66 o0
 rw[if_neg (fun hh=>z3 ⟨by omega,hh.2.1,hh.2.2⟩)]at hst0
 refine cy Z (jf [101,66,48,0,2,4,5,6,7,8] Z (jn (am Z (fun z101=>?_) (fun z101=>?_))))
 refine af (js Z (jo Z (aP ?_)))
 refine js Z (jr ?_)
 refine aC Z ?_
 rw[lX (by rw[←hiz.2.2.2.2,iY (by rw[bi hz0];simp) (by rw[hst0,if_pos (by have:=b9 z101;omega)])])]
 exact .tup (.cons (.agg (.cons .d (.cons .nils .nil))) (.cons (.c .d) .nil))
 refine ac ?_
 have hne: ¬y.1=i1:=by have:=cw z101;omega
 have hst:=hst0
 rw[if_neg hne]at hst
 have hm1: -100000000≤sg*y.2:=by rcases hsg1 with e|e<;>rw[e]<;>omega
 have hm2:sg*y.2≤100000000:=by rcases hsg1 with e|e<;>rw[e]<;>omega
 have hi:=hiz
 refine cy Z ?_
 first|refine ji Z ?_|refine ck Z Z ?_
 first|refine ji Z ?_|refine ck Z Z ?_
 refine js Z (jf [65,64,101,66,48,0,2,4,5,6,7,8] Z (jo Z (aP ?_)))
 refine jf [101,66,48,0,2,4,5,6,7,8] Z (jn ?_)
 refine⟨(y.1,z.2.1,z.2.2+sg*y.2),Ent.to ⟨Z,Z,Z,Z,ar⟩ Z,⟨by show y.1≤_;omega,hiz.2.1,?_,?_,?_⟩,by show s.length-y.1<s.length-z.1;omega⟩
 exact fun q hq=>by have:=hiz.2.2.1 q hq;show -(100000000*(y.1:Int))≤q∧q≤100000000*(y.1:Int);omega
 show -(100000000*(y.1:Int))≤z.2.2+sg*y.2∧z.2.2+sg*y.2≤100000000*(y.1:Int);have:=hiz.2.2.2.1;omega
 show e5 (s.drop y.1) z.2.1 (z.2.2+sg*y.2)=_
 rw[←fD hst,hiz.2.2.2.2]
 refine ba (af ?_)
 have hz1:z.1=s.length:=by have:=cw z14;omega
 have hr:=hi.2.2.2.2
 rw[hz1,List.drop_length,cZ]at hr
 refine dI (Ent.freeze 9 (e':=[(0,_),(2,_),(4,_)]) Z (fe [0,2,4] Z) (kX Z (.cons Z (.box (nV Z (.cons (.row Z (by rw[dy,hi.2.1])) .nil))) (.skip .nil)))) ?_
 refine js Z (aE O Z Z Z Z (n6 (t:=(⟨z.2.2,z.2.1⟩:Tm)) h1 h2) (ao Z) Z Z Z Z (B0:=108000) Z Z (jf [107,0,2,4] Z (jo Z (aP ?_))))
 refine jn (ag (af (js Z (cn Z (mA (t:=(⟨z.2.2,aT z.2.1⟩:Tm)) h1 h2) 110000 Z (aj Z (jf [111,107,0,2,4] Z (aw 4 Z Z Z (fun hx=>ak hx Z (dJ O hx Z Z Z Z (ng (t:=(⟨z.2.2,aT z.2.1⟩:Tm)) h1 h2 (by simpa using hx)) (ao Z) Z Z Z Z Z Z Z (B0:=114000) Z (ak hx Z (aW hx (cE (p:=tS (⟨z.2.2,aT z.2.1⟩:Tm)) (q:=s) O Z Z Z Z Z Z) Z (AN.nil))))) Z Z ?_)))))))
 first|refine ab (aq O Z Z Z Z Z) Z ?_|refine ab (Val.pickB O Z Z Z Z Z) Z ?_|refine ab (ah O Z Z Z Z Z) Z ?_
 refine jf [116,107,0,2,4] Z (jn (am Z (fun z116=>?_) (fun z116=>?_)))
 refine af (js Z (jo Z (aP ?_)))
 refine js Z (jr ?_)
 refine aC Z ?_
 have hno:rdT s=none:=by rw[ic hr.symm,if_neg];intro hh;revert z116;simp[hh.1,hh.2]
 rw[hno]
 exact .tup (.cons (.agg (.cons .d (.cons .nils .nil))) (.cons (.c .d) .nil))
 refine ae (af (js Z (aE O Z Z Z Z (pT (t:=(⟨z.2.2,aT z.2.1⟩:Tm)) h1 h2) (ao Z) Z Z Z Z (B0:=120000) Z Z (jf [119,116,107,0,2,4] Z (jo Z (aP ?_))))))
 refine js Z (jr ?_)
 refine aC Z ?_
 have hyes:rdT s=some (⟨z.2.2,aT z.2.1⟩:Tm):=by rw[ic hr.symm,if_pos];revert z116;cases h7:Tm.ok (⟨z.2.2,aT z.2.1⟩:Tm)<;>simp
 rw[hyes]
 exact .tup (.cons (.agg (aL Z)) (.cons (.c .d) .nil))
end Go.Al
/- Lemmas for the walk of the reference's reader of oE. -/
namespace Go.Al
variable{L:Nat}(h1:4096≤L)(h2:L≤1073741824)
open Go.Lib
theorem lV{s:Str}{i:Nat}{ys:List Int}{c n sg:Int}(h:i<s.length)(h1:48≤bt s i)(h2:bt s i≤57):cd (s.drop i) ys c n sg=if 2000000<n then none else cd (s.drop (i+1)) ys c (10*max n 0+(bt s i-48)) sg:=by
 rw[bi h,cd,if_pos (by rw[ij];simp[h1,h2])]
theorem jR{s:Str}{i:Nat}(h: ¬(48≤bt s i∧bt s i≤57)): ¬go (s.getD i 0)=true:=by
 rw[ij];simpa using h
theorem nz{s:Str}{i:Nat}{ys:List Int}{c n sg:Int}(h:i<s.length)(h0: ¬(48≤bt s i∧bt s i≤57))(h1:97≤bt s i)(h2:bt s i≤106):cd (s.drop i) ys c n sg=cd (s.drop (i+1)) (ys.set ((s.getD i 0).toNat-97) (sg*(if n<0 then 1 else n))) c (-1) sg:=by
 rw[bi h,cd,if_neg (jR h0),if_pos (by rw[jP];simp only[aR,decide_eq_true_eq];omega)]
theorem l4{s:Str}{i:Nat}(h: ¬(97≤bt s i∧bt s i≤106)): ¬lA (s.getD i 0)=true:=by
 rw[jP];simp only[aR,decide_eq_true_eq];omega
theorem ny{s:Str}{i:Nat}{ys:List Int}{c n sg:Int}(h:i<s.length)(h0: ¬(48≤bt s i∧bt s i≤57))(h1: ¬(97≤bt s i∧bt s i≤106))(h2:bt s i=43∨bt s i=45):cd (s.drop i) ys c n sg=cd (s.drop (i+1)) ys (if 0≤n then sg*n else c) (-1) (if bt s i=45 then -1 else 1):=by
 have e1:bt s i=43↔s.getD i 0=43:=ey (n:=43) (by decide)
 have e2:bt s i=45↔s.getD i 0=45:=ey (n:=45) (by decide)
 rw[bi h,cd,if_neg (jR h0),if_neg (l4 h1),if_pos (by rw[←e1,←e2];exact h2)]
 by_cases h3:bt s i=45
 rw[if_pos h3,if_pos (e2.1 h3)]
 rw[if_neg h3,if_neg (fun e=>h3 (e2.2 e))]
theorem mP{s:Str}{i:Nat}{ys:List Int}{c n sg:Int}(h:i<s.length)(h0: ¬(48≤bt s i∧bt s i≤57))(h1: ¬(97≤bt s i∧bt s i≤106))(h2: ¬(bt s i=43∨bt s i=45)):cd (s.drop i) ys c n sg=none:=by
 have e1:bt s i=43↔s.getD i 0=43:=ey (n:=43) (by decide)
 have e2:bt s i=45↔s.getD i 0=45:=ey (n:=45) (by decide)
 rw[bi h,cd,if_neg (jR h0),if_neg (l4 h1),if_neg (by rw[←e1,←e2];exact h2)]
theorem mO{s:Str}{ys:List Int}{c n sg:Int}:cd (s.drop s.length) ys c n sg=some (ys,if 0≤n then sg*n else c):=by
 rw[List.drop_length,cd]
theorem nv{xs:List Int}{i:Nat}{n B:Int}(h: ∀y∈xs,-B≤y∧y≤B)(h1: -B≤n)(h2:n≤B): ∀y∈xs.set i n,-B≤y∧y≤B:=by
 intro y hy
 rcases List.mem_or_eq_of_mem_set hy with hy|rfl
 exact h y hy
 exact⟨h1,h2⟩
theorem c3o{a b c:Prop}[Decidable a][Decidable b][Decidable c]:(bif (bif decide a then true else decide b)then true else decide c)=true↔a∨b∨c:=by
 by_cases a<;>by_cases b<;>by_cases c<;>simp_all
theorem c2t{a b:Prop}[Decidable a][Decidable b]:(bif decide a then decide b else false)=true↔a∧b:=by
 by_cases a<;>by_cases b<;>simp_all
theorem pH{a:Prop}[Decidable a](h:(decide a==false)=true): ¬a:=by simpa using h
theorem pG{a:Prop}[Decidable a]{b:Bool}(h:((bif decide a then true else b)==false)=true): ¬a:=by
 by_cases a<;>simp_all
theorem nu{a b:Prop}[Decidable a][Decidable b](h: ¬(a∧b)):(if a then(if b then(-1:Int)else 1)else 1)=1:=by
 by_cases a<;>by_cases b<;>simp_all
theorem ig{sg n B:Int}(h:sg=1∨sg= -1)(h0:0≤n)(hB:n≤B): -B≤sg*n∧sg*n≤B:=by
 rcases h with e|e<;>rw[e]<;>omega
theorem lS{s:Str}{ys:List Int}{c:Int}(h:cd s (zr 10) 0 (-1) 1=some (ys,c)):rsT s=if(gn c ys).2=true∧tS (gn c ys).1=s then some (gn c ys).1 else none:=by
 unfold rsT;rw[h]
theorem lT{s:Str}(h:cd s (zr 10) 0 (-1) 1=none):rsT s=none:=by
 unfold rsT;rw[h]
theorem nc{s:Str}(hs:s.length≤1100000):MQ h1 h2 42 [aS8 s] [] (Plain (lL (et (rsT s)))):=by
 refine MC.data (jB 123 h1 h2 Tryd.func42 Z fun O hF=>?_)
 refine af (jl Z (aP ?_))
 refine js Z (bq (cW (iE O Z Z Z Z Z Z Z Z Z (by first|omega|(simp at *;omega)) (by first|omega|(simp at *;omega)) (by first|omega|(simp at *;omega)) (by first|omega|(dsimp only;omega)|(simp only[bw]at *;omega)) (by first|omega|(simp at *;omega)) Z Z Z) Z (aP ?_)))
 refine js Z (bq (js Z (bq (js Z (bq (js Z (jn (ag (af (js Z (jn (ap (ax (X:=Nat×List Int×Int×Int×Int) (fun z=>⟨[(0,aS8 s),(2,.c (.pt 2 0 0)),(4,.c (.rs 11 0 10)),(5,eI z.2.2.1),(6,eI z.2.2.2.1),(7,eI z.2.2.2.2),(8,eI (z.1:Nat))],[(2,.box [.d (.int .i64 0),.d .nils]),(11,bE z.2.1)]⟩) (fun z=>z.1≤s.length+1∧z.2.1.length=10∧(∀y∈z.2.1,-20000009≤y∧y≤20000009)∧(-20000009≤z.2.2.1∧z.2.2.1≤20000009)∧(-1≤z.2.2.2.1∧z.2.2.2.1≤20000009)∧(z.2.2.2.2=1∨z.2.2.2.2= -1)∧(z.1≤s.length→cd (s.drop z.1) z.2.1 z.2.2.1 z.2.2.2.1 z.2.2.2.2=cd s (zr 10) 0 (-1) 1)∧(z.1=s.length+1→cd s (zr 10) 0 (-1) 1=some (z.2.1,z.2.2.1))) (fun z=>s.length+1-z.1) (0,zr 10,0,-1,1) (Ent.to ⟨Z,Z,Z,Z,Z,Z,Z,ar⟩ Z) ?_ (fun z hi=>?_))))))))))))))
 exact⟨dT _,Z,fun y hy=>by rw[show y=0 from List.eq_of_mem_replicate hy];simp,by simp,by simp,.inl Z,fun _=>rfl,fun h=>by have h9:0=s.length+1:=h;omega⟩
 refine ag (af (aj Z (ab (aO (p:=s) O Z Z Z Z Z Z Z Z Z) Z (js Z (jf [15,0,2,4,5,6,7,8] Z (jn (am Z (fun z15=>?_) (fun z15=>?_))))))))
 refine ae (ag (ap (ap (af (aj Z ?_)))))
 have hzl:z.1≤s.length:=by have:=b9 z15;omega
 have hr:=hi.2.2.2.2.2.2.1 hzl
 have hby:0≤((s.getD z.1 0).toNat:Int)∧((s.getD z.1 0).toNat:Int)≤255:=iO s z.1
 refine ab (aO (p:=s) O Z Z Z Z Z Z Z Z Z) Z (aj Z (jf [24,15,0,2,4,5,6,7,8] Z (aw 4 Z Z Z (fun hx=>ak hx Z (ak hx Z (aW hx (ay (p:=s) (b:=s.getD z.1 0) O Z Z Z Z Z Z Z (by omega) (bc (by have:=ni hx;omega))) Z (ak hx Z (AN.nil))))) Z Z ?_)))
 first|refine ab (ah O Z Z Z Z Z) Z ?_|refine ab (aq O Z Z Z Z Z) Z ?_|refine ab (Val.pickB O Z Z Z Z Z) Z ?_
 refine js Z (jf [30,15,0,2,4,5,6,7,8] Z (aw 4 Z Z Z (fun hx=>ak hx Z (ak hx Z (aW hx (ay (p:=s) (b:=s.getD z.1 0) O Z Z Z Z Z Z Z (by omega) (bc (by have:=nM hx;omega))) Z (ak hx Z (AN.nil))))) Z Z ?_))
 first|refine ab (ah O Z Z Z Z Z) Z ?_|refine ab (aq O Z Z Z Z Z) Z ?_|refine ab (Val.pickB O Z Z Z Z Z) Z ?_
 refine js Z (jf [19,15,0,2,4,5,6,7,8] Z (jn (am Z (fun z19=>?_) (fun z19=>?_))))
 refine ag (af ?_)
 have z3:=o0.1 z19
 have hin:z.1<s.length:=by have:=z3.1;omega
 refine aj Z (jn (am Z (fun z37=>?_) (fun z37=>?_)))
 refine af (js Z (jo Z (aP ?_)))
 refine js Z (jr ?_)
 refine aC Z ?_
 rw[lT (by rw[←hr,lV hin z3.2.1 z3.2.2,if_pos (b9 z37)])]
 exact .tup (.cons (.agg (.cons .d (.cons .nils .nil))) (.cons (.c .d) .nil))
 refine ae ?_
 have hmx:mx z.2.2.2.1 0=max z.2.2.2.1 0:=by unfold mx;split<;>omega
 have hn2: ¬2000000<z.2.2.2.1:=cw z37
 refine mv [_,_,_,_,_,_,_,_,_,_] [cm,pe [0] 0,pn [0,1] 1 1,pn [] 0 1,pn [] 0 1,pn [3,4] 0 1,pn [3,4,5] 0 1,pn (rg 3 4) 0 1,pn (rg 0 8) 1 1,pn (rg 0 9) 1 1] [1] [_,_] (kc Z (ai (cO O (B0:=41000) Z Z Z Z ((pN (a:=z.2.2.2.1) (b:=0) h1 h2).plain (congrArg eI hmx)) (ao Z) Z Z Z Z Z) (ai (aI O Z Z (by omega) (by omega)) (ai (kc Z (V Z)) (ai (kc Z (V Z)) (ai (ai (ay (p:=s) (b:=s.getD z.1 0) O Z Z Z Z Z Z Z (by omega) (bc hin)) (ay (p:=s) (b:=s.getD z.1 0) O Z Z Z Z Z Z Z (by omega) (bc hin))) (ai (ai (bZ (k:=.u8) (n:=((s.getD z.1 0).toNat:Int)-48) O Z Z (by have:=z3.2.1;show(0:Int)≤_;omega) (by show _≤(255:Int);omega)) (bZ (k:=.u8) (n:=((s.getD z.1 0).toNat:Int)-48) O Z Z (by have:=z3.2.1;show(0:Int)≤_;omega) (by show _≤(255:Int);omega))) (ai (ai ((Val.conv (b:=true) (dt:=.int .u8) O Z Z Z (by kernel_rfl) (by kernel_rfl)).cast (v':=eI (((s.getD z.1 0).toNat:Int)-48)) (by rw[cC .i64 _ (by show(-9223372036854775808:Int)≤_;omega) (by show _≤(9223372036854775807:Int);omega)])) ((Val.conv (b:=true) (dt:=.int .u8) O Z Z Z (by kernel_rfl) (by kernel_rfl)).cast (v':=eI (((s.getD z.1 0).toNat:Int)-48)) (by rw[cC .i64 _ (by show(-9223372036854775808:Int)≤_;omega) (by show _≤(9223372036854775807:Int);omega)]))) (ai (aI O Z Z (by omega) (by omega)) (kc Z trivial)))))))))) ?_
 refine ac (js Z ?_)
 first|refine ji Z ?_|refine ck Z Z ?_
 refine js Z (jf [8,6,47,46,45,44,43,42,41,40,39,37,36,19,15,0,2,4,5,7] Z (jn ?_))
 refine⟨(z.1+1,z.2.1,z.2.2.1,10*max z.2.2.2.1 0+(((s.getD z.1 0).toNat:Int)-48),z.2.2.2.2),Ent.to ⟨Z,Z,Z,Z,Z,Z,Z,ar⟩ Z,⟨by show z.1+1≤_;omega,hi.2.1,hi.2.2.1,hi.2.2.2.1,by show -1≤10*max z.2.2.2.1 0+(((s.getD z.1 0).toNat:Int)-48)∧10*max z.2.2.2.1 0+(((s.getD z.1 0).toNat:Int)-48)≤20000009;omega,hi.2.2.2.2.2.1,fun _=>?_,fun h=>by have h9:z.1+1=s.length+1:=h;omega⟩,by show s.length+1-(z.1+1)<s.length+1-z.1;omega⟩
 show cd (s.drop (z.1+1)) z.2.1 z.2.2.1 (10*max z.2.2.2.1 0+(((s.getD z.1 0).toNat:Int)-48)) z.2.2.2.2=_
 rw[←hr,lV hin z3.2.1 z3.2.2,if_neg (cw z37)]
 refine af (aj Z ?_)
 have hnd0:=fB z19 o0
 refine ab (aO (p:=s) O Z Z Z Z Z Z Z Z Z) Z (aj Z (jf [53,19,15,0,2,4,5,6,7,8] Z (aw 4 Z Z Z (fun hx=>ak hx Z (ak hx Z (aW hx (ay (p:=s) (b:=s.getD z.1 0) O Z Z Z Z Z Z Z (by omega) (bc (by have:=ni hx;omega))) Z (ak hx Z (AN.nil))))) Z Z ?_)))
 first|refine ab (ah O Z Z Z Z Z) Z ?_|refine ab (aq O Z Z Z Z Z) Z ?_|refine ab (Val.pickB O Z Z Z Z Z) Z ?_
 refine js Z (jf [59,19,15,0,2,4,5,6,7,8] Z (aw 4 Z Z Z (fun hx=>ak hx Z (ak hx Z (aW hx (ay (p:=s) (b:=s.getD z.1 0) O Z Z Z Z Z Z Z (by omega) (bc (by have:=nM hx;omega))) Z (ak hx Z (AN.nil))))) Z Z ?_))
 first|refine ab (ah O Z Z Z Z Z) Z ?_|refine ab (aq O Z Z Z Z Z) Z ?_|refine ab (Val.pickB O Z Z Z Z Z) Z ?_
 refine js Z (jf [48,19,15,0,2,4,5,6,7,8] Z (jn (am Z (fun z48=>?_) (fun z48=>?_))))
 refine ag (af ?_)
 have hl3:=o0.1 z48
 have hin:z.1<s.length:=by have:=hl3.1;omega
 have hnd: ¬(48≤bt s z.1∧bt s z.1≤57):=fun h=>hnd0 ⟨by omega,h.1,h.2⟩
 refine aj Z (jn ?_)
 obtain⟨n1,hn1⟩: ∃n1:Int,n1=if z.2.2.2.1<0 then 1 else z.2.2.2.1:=⟨_,rfl⟩
 have hnb:0≤n1∧n1≤20000009:=by rw[hn1];split<;>omega
 have hm:=ig hi.2.2.2.2.2.1 hnb.1 hnb.2
 obtain⟨j,hj⟩: ∃j:Nat,((s.getD z.1 0).toNat:Int)-97=(j:Int):=⟨(((s.getD z.1 0).toNat:Int)-97).toNat,by have:=hl3.2.1;have:=hl3.2.2;omega⟩
 have hj10:j<10:=by have:=hl3.2.2;omega
 refine bk ⟨[(0,aS8 s),(2,.c (.pt 2 0 0)),(4,.c (.rs 11 0 10)),(5,eI z.2.2.1),(6,eI n1),(7,eI z.2.2.2.2),(8,eI (z.1:Nat))],[(2,.box [.d (.int .i64 0),.d .nils]),(11,bE z.2.1)]⟩ ?_ ?_
 refine am Z (fun z66=>?_) (fun z66=>?_)
 refine ac (js Z (jn ?_))
 exact⟨Z,Ent.to ⟨Z,Z,Z,Z,congrArg (fun z=>some (eI z)) (show(1:Int)=n1 by rw[hn1,if_pos (b9 z66)]),Z,Z,ar⟩ Z⟩
 refine ae ?_
 exact⟨Z,Ent.to ⟨Z,Z,Z,Z,congrArg (fun z=>some (eI z)) (show z.2.2.2.1=n1 by rw[hn1,if_neg (cw z66)]),Z,Z,ar⟩ Z⟩
 refine af (aQ Z (ab (ay (p:=s) (b:=s.getD z.1 0) O Z Z Z Z Z Z Z (by omega) (bc hin)) Z (ab ((bZ (k:=.u8) (n:=((s.getD z.1 0).toNat:Int)-97) O Z Z (by have:=hl3.2.1;show(0:Int)≤_;omega) (by show _≤(255:Int);omega)).cast (v':=.c (.d (.int .u8 (j:Int)))) (by rw[hj])) Z (aj Z (ab (aI O Z Z (by omega) (by omega)) Z (ab (cf (c:=0≤(j:Int)∧(j:Int)<((10:Nat):Int)) (v:=.c (.pt 11 (0+(j:Int).toNat) 0)) O Z Z (by omega)) Z (jf [75,74,0,2,4,5,6,7,8] Z (cW (cG (ex:=[.int .i64 (z.2.1.getD j 0)]) (xs':=(z.2.1.set j (z.2.2.2.2*n1)).map (fun n=>[D.int .i64 n])) O Z Z Z Z Z Z Z Z Z Z Z Z Z Z (by simp[hi.2.1,hj10]) (by rw[List.map_set];simp only[Int.toNat_natCast,Nat.zero_add];rfl)) Z (aP ?_)))))))))
 refine aP ?_
 refine jf [0,2,4,5,6,7,8] Z (jn (ac (js Z (jn (ac (js Z ?_))))))
 first|refine ji Z ?_|refine ck Z Z ?_
 refine js Z (jf [8,6,0,2,4,5,7] Z (jn ?_))
 refine⟨(z.1+1,z.2.1.set j (z.2.2.2.2*n1),z.2.2.1,-1,z.2.2.2.2),Ent.to ⟨Z,Z,Z,Z,Z,Z,Z,ar⟩ Z,⟨by show z.1+1≤_;omega,by show(z.2.1.set j _).length=10;rw[List.length_set];exact hi.2.1,nv hi.2.2.1 hm.1 hm.2,hi.2.2.2.1,by show -1≤(-1:Int)∧(-1:Int)≤20000009;omega,hi.2.2.2.2.2.1,fun _=>?_,fun h=>by have h9:z.1+1=s.length+1:=h;omega⟩,by show s.length+1-(z.1+1)<s.length+1-z.1;omega⟩
 show cd (s.drop (z.1+1)) (z.2.1.set j (z.2.2.2.2*n1)) z.2.2.1 (-1) z.2.2.2.2=_
 rw[←hr,nz hin hnd hl3.2.1 hl3.2.2,←hn1,show(s.getD z.1 0).toNat-97=j by omega]
 refine af (aj Z ?_)
 have hnl0:=fB z48 o0
 refine ab (aO (p:=s) O Z Z Z Z Z Z Z Z Z) Z (aj Z (jf [81,48,19,15,0,2,4,5,6,7,8] Z (aw 4 Z Z Z (fun hx=>ak hx Z (ak hx Z (aW hx (ay (p:=s) (b:=s.getD z.1 0) O Z Z Z Z Z Z Z (by omega) (bc (by have:=pH hx;omega))) Z (ak hx Z (AN.nil))))) Z Z ?_)))
 first|refine ab (aq O Z Z Z Z Z) Z ?_|refine ab (Val.pickB O Z Z Z Z Z) Z ?_|refine ab (ah O Z Z Z Z Z) Z ?_
 refine js Z (jf [87,48,19,15,0,2,4,5,6,7,8] Z (aw 4 Z Z Z (fun hx=>ak hx Z (ak hx Z (aW hx (ay (p:=s) (b:=s.getD z.1 0) O Z Z Z Z Z Z Z (by omega) (bc (by have:=pG hx;omega))) Z (ak hx Z (AN.nil))))) Z Z ?_))
 first|refine ab (aq O Z Z Z Z Z) Z ?_|refine ab (Val.pickB O Z Z Z Z Z) Z ?_|refine ab (ah O Z Z Z Z Z) Z ?_
 refine js Z (jf [76,48,19,15,0,2,4,5,6,7,8] Z (jn (am Z (fun z76=>?_) (fun z76=>?_))))
 refine ag (af ?_)
 have ht0:=c3o.1 z76
 have ht3:z.1<s.length→bt s z.1=43∨bt s z.1=45:=fun h=>ht0.resolve_left (fun e=>by omega)
 have hnd:z.1<s.length→¬(48≤bt s z.1∧bt s z.1≤57):=fun q h=>hnd0 ⟨by omega,h.1,h.2⟩
 have hnl:z.1<s.length→¬(97≤bt s z.1∧bt s z.1≤106):=fun q h=>hnl0 ⟨by omega,h.1,h.2⟩
 refine aj Z (jn ?_)
 obtain⟨c1,z1⟩: ∃c1:Int,c1=if 0≤z.2.2.2.1 then z.2.2.2.2*z.2.2.2.1 else z.2.2.1:=⟨_,rfl⟩
 have hc1b: -20000009≤c1∧c1≤20000009:=by
  rw[z1];split
  exact ig hi.2.2.2.2.2.1 (by omega) hi.2.2.2.2.1.2
  exact hi.2.2.2.1
 refine bk ⟨[(0,aS8 s),(2,.c (.pt 2 0 0)),(4,.c (.rs 11 0 10)),(5,eI c1),(6,eI z.2.2.2.1),(7,eI z.2.2.2.2),(8,eI (z.1:Nat))],[(2,.box [.d (.int .i64 0),.d .nils]),(11,bE z.2.1)]⟩ ?_ ?_
 refine am Z (fun z94=>?_) (fun z94=>?_)
 refine ac (aj Z (ab (aI O Z Z (by have:=ig hi.2.2.2.2.2.1 (b9 z94) hi.2.2.2.2.1.2;omega) (by have:=ig hi.2.2.2.2.2.1 (b9 z94) hi.2.2.2.2.1.2;omega)) Z (js Z (jf [5,94,93,76,48,19,15,0,2,4,6,7,8] Z (jn ?_)))))
 exact⟨Z,Ent.to ⟨Z,Z,Z,congrArg (fun z=>some (eI z)) (show z.2.2.2.2*z.2.2.2.1=c1 by rw[z1,if_pos (b9 z94)]),Z,Z,Z,ar⟩ Z⟩
 refine ae ?_
 exact⟨Z,Ent.to ⟨Z,Z,Z,congrArg (fun z=>some (eI z)) (show z.2.2.1=c1 by rw[z1,if_neg (cw z94)]),Z,Z,Z,ar⟩ Z⟩
 refine af (js Z (bq (js Z (bq (aj Z (ab (aO (p:=s) O Z Z Z Z Z Z Z Z Z) Z (aj Z (jf [102,7,6,0,2,4,5,8] Z (aw 4 Z Z Z (fun hx=>ak hx Z (ak hx Z (aW hx (ay (p:=s) (b:=s.getD z.1 0) O Z Z Z Z Z Z Z (by omega) (bc (by have:=ni hx;omega))) Z (ak hx Z (AN.nil))))) Z Z ?_)))))))))
 first|refine ab (ah O Z Z Z Z Z) Z ?_|refine ab (aq O Z Z Z Z Z) Z ?_|refine ab (Val.pickB O Z Z Z Z Z) Z ?_
 refine jf [107,7,6,0,2,4,5,8] Z (jn ?_)
 obtain⟨sg1,hsgv⟩: ∃sg1:Int,sg1=if z.1<s.length then(if bt s z.1=45 then -1 else 1)else 1:=⟨_,rfl⟩
 have hsg1:sg1=1∨sg1= -1:=by
  rw[hsgv];split
  split
  exact .inr Z
  exact .inl Z
  exact .inl Z
 refine bk ⟨[(0,aS8 s),(2,.c (.pt 2 0 0)),(4,.c (.rs 11 0 10)),(5,eI c1),(6,eI (-1)),(7,eI sg1),(8,eI (z.1:Nat))],[(2,.box [.d (.int .i64 0),.d .nils]),(11,bE z.2.1)]⟩ ?_ ?_
 refine am Z (fun z107=>?_) (fun z107=>?_)
 refine ac (js Z (jn ?_))
 exact⟨Z,Ent.to ⟨Z,Z,Z,Z,Z,congrArg (fun z=>some (eI z)) (show(-1:Int)=sg1 by have h9:=c2t.1 z107;rw[hsgv,if_pos (by omega),if_pos h9.2]),Z,ar⟩ Z⟩
 refine ae ?_
 exact⟨Z,Ent.to ⟨Z,Z,Z,Z,Z,congrArg (fun z=>some (eI z)) (show(1:Int)=sg1 by rw[hsgv,nu (fun e=>fB z107 c2t ⟨by have:=e.1;omega,e.2⟩)]),Z,ar⟩ Z⟩
 refine ac (js Z ?_)
 first|refine ji Z ?_|refine ck Z Z ?_
 refine js Z (jf [8,0,2,4,5,6,7] Z (jn ?_))
 refine⟨(z.1+1,z.2.1,c1,-1,sg1),Ent.to ⟨Z,Z,Z,Z,Z,Z,Z,ar⟩ Z,⟨by show z.1+1≤_;omega,hi.2.1,hi.2.2.1,hc1b,by show -1≤(-1:Int)∧(-1:Int)≤20000009;omega,hsg1,fun h=>?_,fun h=>?_⟩,by show s.length+1-(z.1+1)<s.length+1-z.1;omega⟩
 have h9:z.1+1≤s.length:=h
 show cd (s.drop (z.1+1)) z.2.1 c1 (-1) sg1=_
 have hsn:=ht3 (by omega)
 rw[←hr,ny (by omega) (hnd (by omega)) (hnl (by omega)) hsn,←z1,hsgv,if_pos (by omega)]
 have h9:z.1+1=s.length+1:=h
 show cd s (zr 10) 0 (-1) 1=some (z.2.1,c1)
 rw[←hr,show z.1=s.length by omega,mO,←z1]
 refine af ?_
 have ht0:=fB z76 c3o
 have hin:z.1<s.length:=by have: ¬(z.1:Int)=(s.length:Int):=fun e=>ht0 (.inl e);omega
 have hnone:cd s (zr 10) 0 (-1) 1=none:=by
  rw[←hr,mP hin (fun h=>hnd0 ⟨by omega,h.1,h.2⟩) (fun h=>hnl0 ⟨by omega,h.1,h.2⟩)]
  exact fun h=>ht0 (.inr h)
 refine js Z (jo Z (aP ?_))
 refine js Z (jr ?_)
 refine aC Z ?_
 rw[lT hnone]
 exact .tup (.cons (.agg (.cons .d (.cons .nils .nil))) (.cons (.c .d) .nil))
 refine ba (af ?_)
 have hz1:z.1=s.length+1:=by have:=cw z15;omega
 have hr:=hi.2.2.2.2.2.2.2 hz1
 refine dI (Ent.freeze 11 (e':=[(0,_),(2,_),(4,_),(5,_)]) Z (.cons Z (.keep Z) (.cons Z (.keep Z) (.cons Z (.c (.row Z (by rw[dy,hi.2.1]))) (fe [5] Z)))) (kX Z (.skip .nil))) ?_
 refine aj Z (aE O Z Z Z Z (pP (c:=z.2.2.1) (xs:=z.2.1) h1 h2) (ao Z) Z Z Z Z (B0:=112000) Z Z (aQ Z (jf [113,112,0,2,4,5] Z (jl Z (aP ?_)))))
 refine jo Z (aP ?_)
 refine js Z (jf [10,9,0,2,4,5] Z (jn (ag (af (aQ Z (jf [116,9,0,2,4,5] Z (aw 3 Z Z Z (fun hx=>dJ O hx Z Z Z Z (oR (t:=(gn z.2.2.1 z.2.1).1) h1 h2 (l3 (by simpa using hx))) (.cons (.c (.pb (cs:=(gn z.2.2.1 z.2.1).1.cells) Z (aL Z))) .nil) Z Z Z Z Z Z Z (B0:=118000) Z (ak hx Z (aW hx (cE (p:=tS (gn z.2.2.1 z.2.1).1) (q:=s) O Z Z Z Z Z Z) Z (AN.nil)))) Z Z ?_)))))))
 first|refine ab (aq O Z Z Z Z Z) Z ?_|refine ab (Val.pickB O Z Z Z Z Z) Z ?_|refine ab (ah O Z Z Z Z Z) Z ?_
 refine jf [120,9,0,2,4,5] Z (jn (am Z (fun z120=>?_) (fun z120=>?_)))
 refine af (js Z (jo Z (aP ?_)))
 refine js Z (jr ?_)
 refine aC Z ?_
 have hno:rsT s=none:=by rw[lS hr,if_neg];intro hh;revert z120;simp[hh.1,hh.2]
 rw[hno]
 exact .tup (.cons (.agg (.cons .d (.cons .nils .nil))) (.cons (.c .d) .nil))
 refine ae (af (js Z (jo Z (aP ?_))))
 refine js Z (jr ?_)
 refine aC Z ?_
 have hyes:rsT s=some (gn z.2.2.1 z.2.1).1:=by rw[lS hr,if_pos];revert z120;cases h7:(gn z.2.2.1 z.2.1).2<;>simp
 rw[hyes]
 exact .tup (.cons (.agg (aL Z)) (.cons (.c .d) .nil))
end Go.Al
/- Lemmas for the walks of both readers of sequents. -/
namespace Go.Al
variable{L:Nat}(h1:4096≤L)(h2:L≤1073741824)
open Go.Lib
theorem ip(c:UInt8): ∀s:Str,(fJ c s).length≤s.length+1
 | []=>bp _
 | b::r=>by
  have ih:=ip c r
  rw[fJ]
  split
  simp only[gj];omega
  simp only[gj,List.length_tail];omega
theorem lQ{c:UInt8}{s:Str}: ∀p∈fJ c s,p.length≤s.length:=by
 intro p hp
 rw[←eQ]at hp
 exact d9 p hp
theorem ed{T:Type}{rd:Str→Option T}: ∀{a:List Str} {ts:List T} {x:Str} {t:T},bl rd a=some ts→rd x=some t→bl rd (a++[x])=some (ts++[t])
 | [],ts,x,t,h1,h2=>by
  rw[bl]at h1;cases h1
  rw[List.nil_append,bl,h2,bl];rfl
 | y::r,ts,x,t,h1,h2=>by
  rw[bl]at h1
  rw[List.cons_append,bl]
  split at h1
  cases h1
  rename_i t' ht
  split at h1
  cases h1
  rename_i ts' hts
  cases h1
  rw[ed hts h2];rfl
theorem eX{T:Type}{rd:Str→Option T}: ∀{a b:List Str} {x:Str},rd x=none→bl rd (a++x::b)=none
 | [],b,x,h=>by rw[List.nil_append,bl,h]
 | y::r,b,x,h=>by
  rw[List.cons_append,bl]
  split
  rfl
  rw[eX h]
theorem iZ{ss:List Str}{ts:List Tm}(h:bl rdT ss=some ts): ∀t∈ts,t.ok=true:=((cR (ok:=Tm.ok) (tx:=tS) rdT_iff).1 h).1
theorem hY{r:Option Tm}(h:(et r).2=true):r=some (et r).1:=by
 cases r with
 | none=>cases h
 | some t=>rfl
theorem hZ{r:Option Tm}(h:(et r).2=false):r=none:=by
 cases r with
 | none=>rfl
 | some t=>cases h
theorem n2{f:Str}(h:f≠[]):f[((f.length:Int)-1).toNat]? = some (f.getD (f.length-1) 0):=by
 have hl:=List.length_pos_iff.2 h
 rw[show((f.length:Int)-1).toNat=f.length-1 by omega,List.getElem?_eq_getElem (by omega)]
 simp[show f.length-1<f.length by omega]
theorem m8(n:Nat):nat? (some (.c (.d (.int .i64 ((n:Int)+2))))) 0=some (n+2):=by
 unfold nat?
 simp only
 rw[if_pos (by omega)]
 congr 1
theorem nl{f:Str}(h:((!decide (f=[]))==true)=true):f≠[]:=by simpa using h
theorem lY{f:Str}(h:((!decide (f=[]))==true)=true):(0:Int)≤(f.length:Int)-1:=by
 have:=List.length_pos_iff.2 (nl h);omega
theorem fE{f:Str}(h:f≠[]):f.getLast? = some 59↔((f.getD (f.length-1) 0).toNat:Int)=59:=by
 have hl:=List.length_pos_iff.2 h
 rw[List.getLast?_eq_getElem?,List.getElem?_eq_getElem (by omega),show((f.getD (f.length-1) 0).toNat:Int)=59↔f.getD (f.length-1) 0=59 from ey (n:=59) (by decide)]
 simp[show f.length-1<f.length by omega]
theorem kx{k:Bool}{f:Str}{b:Prop}[Decidable b](hb:f≠[]→(f.getLast? = some 59↔b)):(bif !k then true else(bif !decide (f=[])then !decide b else false))=true↔(k=false∨(f≠[]∧f.getLast? ≠some 59)):=by
 cases k with
 | false=>simp
 | true=>
  by_cases h:f=[]
  simp[h]
  have:=hb h
  by_cases h2:b<;>simp_all
def m6(r:Option (List Tm×Tm)):A:=match r with
  | none=>.tup [my ⟨[],⟨0,[]⟩⟩,eB false]
  | some x=>.tup [my ⟨x.1,x.2⟩,eB true]
theorem m5{s:Str}(h:(cut s aH).2.2=false∨((cut s aH).1≠[]∧(cut s aH).1.getLast? ≠some 59)):rqI rdT s=none:=by unfold rqI;rw[if_pos h]
theorem m3{s:Str}(h:rdT (cut s aH).2.1=none):rqI rdT s=none:=by
 unfold rqI
 split
 rfl
 rw[h]
theorem m4{s:Str}(h:bl rdT (fJ 59 (cut s aH).1).dropLast=none):rqI rdT s=none:=by
 unfold rqI
 split
 rfl
 split
 rfl
 rw[h]
theorem m2{s:Str}{g:Tm}{fs:List Tm}(h: ¬((cut s aH).2.2=false∨((cut s aH).1≠[]∧(cut s aH).1.getLast? ≠some 59)))(hg:rdT (cut s aH).2.1=some g)(hf:bl rdT (fJ 59 (cut s aH).1).dropLast=some fs):rqI rdT s=if fs.length≤13 then some (fs,g)else none:=by
 unfold rqI
 rw[if_neg h,hg]
 simp only[hf]
theorem kF{fs:List Tm}{g:Tm}(hf: ∀t∈fs,t.ok=true)(hg:g.ok=true):jI ⟨fs,g⟩=decide (fs.length≤13):=by
 unfold jI gy
 rw[List.all_eq_true.2 hf,hg]
 by_cases h:fs.length≤13
 rw[decide_eq_true h,decide_eq_true (by show(fs.length:Int)≤13;omega)];rfl
 rw[decide_eq_false h,decide_eq_false (by show¬(fs.length:Int)≤13;omega)];rfl
theorem c1323{s:Str}(hs:s.length≤1048576):MQ h1 h2 13 [aS8 s] [] (Plain (m6 (rqI rdT s))):=by
 refine MC.data (jB 75 h1 h2 Tryd.func13 Z fun O hF=>?_)
 have hsL:s.length≤L:=by have h:=hF;simp[As.fact,A.fact,M.fact,D.fact,Ds.fact,bS_size]at h;exact h
 refine af (jl Z (aP ?_))
 refine js Z (bq (js Z (jf [14,3,2] Z (aE O Z Z Z Z (nf (s:=s) (sep:=aH) h1 h2) (ao Z) Z Z Z Z (B0:=16000) Z Z (js Z ?_)))))
 obtain⟨F,hF0⟩: ∃F,F=(Lib.cut s aH).1:=⟨_,rfl⟩
 obtain⟨G,hG0⟩: ∃G,G=(Lib.cut s aH).2.1:=⟨_,rfl⟩
 obtain⟨K,hK0⟩: ∃K,K=(Lib.cut s aH).2.2:=⟨_,rfl⟩
 rw[←hF0,←hG0,←hK0]
 have hcl:=iA s aH
 rw[←hF0,←hG0]at hcl
 refine cy Z (aj Z (jf [6,5,4,3,2] Z (jn (ag (af (aQ Z (jf [21,6,5,4,3,2] Z (aw 10 Z Z Z (fun hx=>ak hx Z (aW hx (cE (p:=F) (q:=[]) O Z Z Z Z Z Z) Z (ak hx Z (il 6 Z Z Z Z (fun hx'=>ak hx' Z (ak hx' Z (aW hx' (aO (p:=F) O Z Z Z Z Z Z Z Z Z) Z (aW hx' (vF Z) Z (aW hx' (ay (p:=F) (b:=F.getD (F.length-1) 0) O Z Z Z Z Z Z Z (lY hx') (n2 (nl hx'))) Z (ak hx' Z (AN.nil))))))) Z Z (aW hx (ah O Z Z Z Z Z) Z (AN.nil)))))) Z Z ?_))))))))
 first|refine ab (aq O Z Z Z Z Z) Z ?_|refine ab (Val.pickB O Z Z Z Z Z) Z ?_|refine ab (ah O Z Z Z Z Z) Z ?_
 refine jf [32,6,5,4,3,2] Z (jn (am Z (fun z32=>?_) (fun z32=>?_)))
 refine af (js Z (jf [33,6,5,4,3,2] Z (jo Z (aP ?_))))
 refine js Z (jr ?_)
 refine aC Z ?_
 rw[m5 (by rw[←hF0,←hK0];exact(kx fun h=>fE h).1 z32)]
 exact .tup (.cons (.agg (.cons .nils (.cons .d (.cons .nils .nil)))) (.cons (.c .d) .nil))
 refine ae (af (jl Z (aP ?_)))
 refine bq ?_
 have hno:=fB z32 (kx fun h=>fE h)
 have hK1:K=true:=by cases h:K with
  | true=>rfl
  | false=>exact absurd (.inl h) hno
 have hcj:s=F++aH++G:=fX (by rw[hF0,hG0,←hK1,hK0])
 have hfl:F.length+2≤s.length:=by have h:=congrArg List.length hcj;simp only[dh]at h;have h2:aH.length=2:=rfl;omega
 obtain⟨gT,hgT⟩: ∃g,g=(et (rdT G)).1:=⟨_,rfl⟩
 obtain⟨gB,hgB⟩: ∃b,b=(et (rdT G)).2:=⟨_,rfl⟩
 refine js Z (jf [35,7,6,4,3,2] Z (aE O Z Z Z Z ((nh (s:=G) h1 h2 (by omega)).plain (v:=_) (u:=.tup [ew gT,eB gB]) (by rw[hgT,hgB])) (ao Z) Z Z Z Z (B0:=37000) Z Z (cy Z (jf [39,38,37,7,6,4,3,2] Z (jo Z (aP ?_))))))
 refine js Z (jf [6,7,4,3,2] Z (jn (ag (af (aj Z (jn (am Z (fun z41=>?_) (fun z41=>?_))))))))
 refine af (js Z (jf [42,40,6,7,4,3,2] Z (jo Z (aP ?_))))
 refine js Z (jr ?_)
 refine aC Z ?_
 rw[m3 (by rw[←hG0];exact hZ (by rw[←hgB];simpa using z41))]
 exact .tup (.cons (.agg (.cons .nils (.cons .d (.cons .nils .nil)))) (.cons (.c .d) .nil))
 refine ae (af ?_)
 have hg1:gB=true:=by simpa using z41
 have hrg:rdT G=some gT:=by rw[hgT];exact hY (by rw[←hgB];exact hg1)
 have hpl0:=ip 59 F
 obtain⟨Q,q,hQ,_,_,_⟩:=eE 59 F
 refine js Z (jf [43,40,6,7,4,3,2] Z (aE O Z Z Z Z ((nd (s:=F) (sep:=[59]) h1 h2 (by simp) (by rw[eQ];omega)).plain (v:=_) (u:=.c (.d (strs (fJ 59 F)))) (by rw[eQ])) (ao Z) Z Z Z Z (B0:=45000) Z Z (js Z (jf [8,40,6,7,4,3,2] Z (jn (ag (af ?_)))))))
 rw[hQ]
 have hQl:(Q++[q]).length=Q.length+1:=by simp
 have hPL:Q.length+1≤F.length+1:=by rw[←hQl,←hQ];exact hpl0
 refine aj Z (ab ((fZ O Z Z Z Z Z Z Z Z).cast (v':=eI (Q.length+1:Nat)) (by rw[hQl])) Z (ab ((aI O Z Z (by omega) (by omega)).cast (v':=eI (Q.length:Nat)) (congrArg eI (by omega))) Z (ab (gd (a:=0) (b:=Q.length) (ys:=Q.map fun p=>[sD p]) O Z Z Z Z Z Z Z Z Z Z (by simp[nat?]) ⟨dT _,by simp⟩ (by simp)) Z ?_)))
 first|refine gl Z ?_|refine js Z ?_|refine ck Z Z ?_
 refine js Z (jf [51,50,49,40,6,7,4,3,2] Z (jn (ap (ax (X:=Nat×List Tm) (fun z=>⟨[(2,.c (.pt 2 0 0)),(7,.c (.pt 7 0 0)),(49,.c (.d (strs Q))),(50,eI Q.length),(51,eI (z.1:Nat))],[(2,.box [.d .nils,.d (.int .i64 0),.d .nils]),(7,.box [.rs 900 0 z.2.length,.d (.int .i64 gT.c),.d (eu gT.xs)]),(900,n4 z.2)]⟩) (fun z=>z.1≤Q.length∧z.2.length=z.1∧bl rdT (Q.take z.1)=some z.2) (fun z=>Q.length-z.1) (0,[]) ((fy 7 900 2 false 0 Z Z Z).trans (Ent.to ⟨Z,Z,Z,Z,Z,ar⟩ Z)) ?_ (fun z hi=>?_)))))
 exact⟨dT _,Z,Z⟩
 refine af (js Z (jn (ag (am Z (fun z52=>?_) (fun z52=>?_)))))
 refine ae (ag (ap (af ?_)))
 have hi0:z.1<Q.length:=by have:=b9 z52;omega
 have hpl:(Q.getD z.1 default).length≤1100000:=by
  have h9:(Q.getD z.1 default)∈fJ 59 F:=by rw[hQ,aJ hi0];exact List.mem_append_left _ (List.getElem_mem hi0)
  have:=lQ _ h9;omega
 obtain⟨t,ht⟩: ∃t,t=(et (rdT (Q.getD z.1 default))).1:=⟨_,rfl⟩
 obtain⟨tB,htB⟩: ∃b,b=(et (rdT (Q.getD z.1 default))).2:=⟨_,rfl⟩
 refine ab (c9 O Z Z Z Z Z Z Z Z (lG (by omega))) Z (aj Z (jf [10,52,2,7,49,50,51] Z (bq (js Z (jf [56,52,2,7,49,50,51] Z (aE O Z Z Z Z ((nh (s:=(Q.getD z.1 default)) h1 h2 hpl).plain (v:=_) (u:=.tup [ew t,eB tB]) (by rw[ht,htB])) (ao Z) Z Z Z Z (B0:=58000) Z Z (aQ Z (jf [59,58,52,2,7,49,50,51] Z (jl Z (aP ?_))))))))))
 refine jo Z (aP ?_)
 refine js Z (jf [12,11,52,2,7,49,50,51] Z (jn (ag (af (aj Z (jf [61,11,52,2,7,49,50,51] Z (jn (am Z (fun z61=>?_) (fun z61=>?_)))))))))
 refine af (js Z (jo Z (aP ?_)))
 refine js Z (jr ?_)
 refine aC Z ?_
 have hbad:rqI rdT s=none:=m4 (by rw[←hF0,hQ,List.dropLast_concat,←List.take_append_drop z.1 Q,List.drop_eq_getElem_cons hi0];exact eX (by rw[←aJ hi0];exact hZ (by rw[←htB];simpa using z61)))
 rw[hbad]
 exact .tup (.cons (.agg (.cons .nils (.cons .d (.cons .nils .nil)))) (.cons (.c .d) .nil))
 refine ae (ac ?_)
 have hok1:(et (rdT (Q.getD z.1 default))).2=true:=by rw[←htB];simpa using z61
 refine aQ Z (jf [65,64,61,11,52,2,7,49,50,51] Z (cW (fI O Z Z Z Z Z Z Z Z Z Z Z) Z (aP ?_)))
 refine jf [66,64,61,11,52,2,7,49,50,51] Z (cW (kq (own:=false) (xs:=z.2.map Tm.cells) (ys:=[Tm.cells t]) (zs:=(z.2++[t]).map Tm.cells) (n:=(z.2++[t]).length) O Z (.row Z (dy _).symm) (.whole Z Z (.inr ⟨Z,Z⟩)) (by simp) Z (by simp;omega) (by simp;omega) (by simp) (by simp)) Z (aP ?_))
 refine aP ?_
 refine js Z (jf [68,67,61,11,52,2,7,49,50,51] Z (jo Z (aP ?_)))
 refine jf [61,11,52,2,7,49,50,51] Z (jn (ac ?_))
 first|refine ji Z ?_|refine ck Z Z ?_
 refine js Z (jn ?_)
 refine⟨(z.1+1,z.2++[t]),((aU [2,7,67] (e':=[(2,_),(7,_),(49,_),(50,_),(51,_)]) Z Z ⟨Z,Z,Z,Z,Z,ar⟩ Z).trans (eJ 67 900 Z Z)).trans (Ent.to ⟨Z,Z,Z,Z,Z,ar⟩ Z),⟨by show z.1+1≤_;omega,by show(z.2++[t]).length=z.1+1;rw[dh,hi.2.1];rfl,?_⟩,by show Q.length-(z.1+1)<Q.length-z.1;omega⟩
 show bl rdT (Q.take (z.1+1))=some (z.2++[t])
 rw[List.take_succ_eq_append_getElem hi0,←aJ hi0]
 rw[ht]
 exact ed hi.2.2 (hY hok1)
 refine ba (ag (af ?_))
 have hz1:z.1=Q.length:=by have:=cw z52;omega
 have hall:=hi.2.2
 rw[hz1,List.take_length]at hall
 have hyes:=m2 (s:=s) (g:=gT) (fs:=z.2) (by rw[←hF0,←hK0];exact hno) (by rw[←hG0];exact hrg) (by rw[←hF0,hQ,List.dropLast_concat];exact hall)
 have hsq:=kF (g:=gT) (iZ hall) ((rdT_iff G gT).1 hrg).1
 refine dI (Ent.freeze 900 (e':=[(2,_),(7,_)]) Z (fe [2,7] Z) (kX Z (.cons Z (.box (.cons (.row Z (dy _).symm) (fk Z))) (.skip .nil)))) ?_
 refine js Z (cn Z (n8 (s:=⟨z.2,gT⟩) h1 h2) 72000 Z (js Z (jf [72,2,7] Z (jn (am Z (fun z72=>?_) (fun z72=>?_))))))
 refine af (js Z (jo Z (aP ?_)))
 refine js Z (jr ?_)
 refine aC Z ?_
 have h9:jI ⟨z.2,gT⟩=false:=by simpa using z72
 rw[hsq]at h9
 rw[hyes,if_neg (cw h9)]
 exact .tup (.cons (.agg (.cons .nils (.cons .d (.cons .nils .nil)))) (.cons (.c .d) .nil))
 refine ae (af (js Z (jo Z (aP ?_))))
 refine js Z (jr ?_)
 refine aC Z ?_
 have h9:jI ⟨z.2,gT⟩=true:=by simpa using z72
 rw[hsq]at h9
 rw[hyes,if_pos (b9 h9)]
 exact .tup (.cons (.agg (aL Z)) (.cons (.c .d) .nil))
theorem oJ{s:Str}{f i:Nat}{acc:List Tm}(hf:f≤i)(hi:i<s.length)(hb:((s.getD i 0).toNat:Int)≠59):dO rsT ((s.drop f).take (i-f)) (s.drop i) acc=dO rsT ((s.drop f).take (i+1-f)) (s.drop (i+1)) acc:=by
 have e:s.getD i 0=59↔((s.getD i 0).toNat:Int)=59:=(ey (n:=59) (by decide)).symm
 rw[bi hi,dO,if_pos (fun h=>hb (e.1 h))]
 congr 1
 rw[show i+1-f=(i-f)+1 by omega,List.take_succ_eq_append_getElem (by rw[List.length_drop];omega)]
 simp[show f+(i-f)=i by omega,hi]
theorem m1{s:Str}{f i:Nat}{acc:List Tm}(hi:i<s.length)(hb:((s.getD i 0).toNat:Int)=59):dO rsT ((s.drop f).take (i-f)) (s.drop i) acc=match rsT ((s.drop f).take (i-f))with
    | none=>none
    | some t=>if acc.length=13 then none else dO rsT [] (s.drop (i+1)) (acc++[t]):=by
  have e:s.getD i 0=59↔((s.getD i 0).toNat:Int)=59:=(ey (n:=59) (by decide)).symm
  rw[bi hi,dO,if_neg (by simpa using e.2 hb)]
  cases rsT ((s.drop f).take (i-f))<;>rfl
theorem oH{s:Str}{f:Nat}{acc:List Tm}(hf:f≤s.length):dO rsT ((s.drop f).take (s.length-f)) (s.drop s.length) acc=if s.length-f<2∨(s.drop f).take 2≠aH then none else match rsT (s.drop (f+2))with
    | none=>none
    | some g=>some (acc,g):=by
  rw[List.drop_length,dO,List.take_of_length_le (by rw[List.length_drop];omega),List.length_drop,List.drop_drop]
  cases rsT (s.drop (f+2))<;>rfl
theorem e_c{k:Bool}{b:Prop}[Decidable b]:(bif !k then true else decide b)=true↔(k=false∨b):=by
 cases k<;>simp
theorem e_d{a:Prop}[Decidable a]{b:Prop}[Decidable b]:(bif decide a then true else !decide b)=true↔(a∨¬b):=by
 by_cases a<;>simp_all
theorem ma{l:Str}{f:Nat}(h: ¬¬(l.take (f+2-f)=[61,62])):l.take 2=aH:=by
 rw[show f+2-f=2 by omega]at h
 exact Classical.not_not.1 h
theorem oK{a b:Prop}(h1: ¬a)(h2:b): ¬(a∨¬b):=fun h=>h.elim h1 (fun e=>e h2)
theorem e_h{a:Prop}[Decidable a](h:(decide a==false)=true): ¬a:=by simpa using h
theorem c1324{s:Str}(hs:s.length≤1048576):MQ h1 h2 16 [aS8 s] [] (Plain (m6 (dO rsT [] s []))):=by
 refine MC.data (jB 76 h1 h2 Tryd.func16 Z fun O hF=>?_)
 refine af (jl Z (aP ?_))
 refine js Z (bq (cW (HS.lit O Z Z Z) Z (aP ?_)))
 refine js Z (jf [12,3,2,0] Z (jl Z (aP ?_)))
 refine jo Z (aP ?_)
 refine bq (js Z (jn (ag (af (js Z (jn (ap (ax (X:=Nat×Nat×List Tm) (fun z=>⟨[(0,aS8 s),(2,.c (.pt 2 0 0)),(4,.c (.pt 4 0 0)),(5,eI (z.1:Nat)),(6,eI (z.2.1:Nat))],[(2,.box [.d .nils,.d (.int .i64 0),.d .nils]),(4,.box [.rs 900 0 z.2.2.length,.d (.int .i64 0),.d .nils]),(900,n4 z.2.2)]⟩) (fun z=>z.1≤z.2.1∧z.2.1≤s.length∧z.2.2.length≤13∧dO rsT ((s.drop z.1).take (z.2.1-z.1)) (s.drop z.2.1) z.2.2=dO rsT [] s []) (fun z=>s.length-z.2.1) (0,0,[]) ((lq 11 Z).trans ((eJ 11 900 Z Z).trans (Ent.to ⟨Z,Z,Z,Z,Z,ar⟩ Z))) ?_ (fun z hi=>?_)))))))))
 exact⟨bp _,dT _,dT _,by show dO rsT ((s.drop 0).take (0-0)) (s.drop 0) []=_;simp⟩
 refine ag (af (aj Z (ab (aO (p:=s) O Z Z Z Z Z Z Z Z Z) Z (js Z (jf [16,0,2,4,5,6] Z (jn (am Z (fun z16=>?_) (fun z16=>?_))))))))
 refine ae (ag (ap (ag (af (aj Z ?_)))))
 have hi0:z.2.1<s.length:=by have:=b9 z16;omega
 refine ab (ay (p:=s) (b:=s.getD z.2.1 0) O Z Z Z Z Z Z Z (by omega) (bc hi0)) Z (js Z (jf [22,16,0,2,4,5,6] Z (jn (am Z (fun z22=>?_) (fun z22=>?_)))))
 refine ba (ac (js Z ?_))
 first|refine ji Z ?_|refine ck Z Z ?_
 refine js Z (jf [6,22,16,0,2,4,5] Z (jn ?_))
 refine⟨(z.1,z.2.1+1,z.2.2),Ent.to ⟨Z,Z,Z,Z,Z,ar⟩ Z,⟨by show z.1≤z.2.1+1;have:=hi.1;omega,by show z.2.1+1≤_;omega,hi.2.2.1,?_⟩,by show s.length-(z.2.1+1)<s.length-z.2.1;omega⟩
 show dO rsT ((s.drop z.1).take (z.2.1+1-z.1)) (s.drop (z.2.1+1)) z.2.2=_
 rw[←hi.2.2.2,oJ hi.1 hi0 (by simpa using z22)]
 refine ae (af (aQ Z ?_))
 have hcl:((s.drop z.1).take (z.2.1-z.1)).length≤1100000:=by rw[List.length_take,List.length_drop];omega
 obtain⟨t,ht⟩: ∃t,t=(et (rsT ((s.drop z.1).take (z.2.1-z.1)))).1:=⟨_,rfl⟩
 obtain⟨tB,htB⟩: ∃b,b=(et (rsT ((s.drop z.1).take (z.2.1-z.1)))).2:=⟨_,rfl⟩
 refine ab (ej (p:=s) (a:=z.1) (b:=z.2.1) O Z Z Z Z Z Z Z Z Z Z hi.1 hi.2.1) Z (jf [27,22,16,0,2,4,5,6] Z (aE O Z Z Z Z ((nc (s:=((s.drop z.1).take (z.2.1-z.1))) h1 h2 hcl).plain (v:=_) (u:=.tup [ew t,eB tB]) (by rw[ht,htB])) (ao Z) Z Z Z Z (B0:=29000) Z Z (aQ Z (jf [30,29,22,16,0,2,4,5,6] Z (jl Z (aP ?_))))))
 refine jo Z (aP ?_)
 refine js Z (jf [8,7,22,16,0,2,4,5,6] Z (jn (ag (af (aQ Z (jf [33,7,22,16,0,2,4,5,6] Z (aw 4 Z Z Z (fun hx=>ak hx Z (ak hx Z (aW hx (cf O Z Z (by have:=hi.2.2.1;omega)) Z (ak hx Z (AN.nil))))) Z Z ?_)))))))
 first|refine ab (aq O Z Z Z Z Z) Z ?_|refine ab (Val.pickB O Z Z Z Z Z) Z ?_|refine ab (ah O Z Z Z Z Z) Z ?_
 refine jf [38,7,22,16,0,2,4,5,6] Z (jn (am Z (fun z38=>?_) (fun z38=>?_)))
 refine af (js Z (jo Z (aP ?_)))
 refine js Z (jr ?_)
 refine aC Z ?_
 have hbad:dO rsT [] s []=none:=by
  rw[←hi.2.2.2,m1 hi0 (by simpa using z22)]
  rcases e_c.1 z38 with h|h
  rw[hZ (r:=rsT ((s.drop z.1).take (z.2.1-z.1))) (by rw[←htB];exact h)]
  split
  rfl
  exact if_pos (by omega)
 rw[hbad]
 exact .tup (.cons (.agg (.cons .nils (.cons .d (.cons .nils .nil)))) (.cons (.c .d) .nil))
 refine ae (af ?_)
 have hno:=fB z38 e_c
 have htt:tB=true:=by cases h:tB with
 | true=>rfl
 | false=>exact absurd (.inl h) hno
 have hne13: ¬z.2.2.length=13:=fun e=>hno (.inr (by omega))
 refine aQ Z (jf [42,41,38,7,22,16,0,2,4,5,6] Z (cW (fI O Z Z Z Z Z Z Z Z Z Z Z) Z (aP ?_)))
 refine jf [43,41,38,7,22,16,0,2,4,5,6] Z (cW (kq (own:=false) (xs:=z.2.2.map Tm.cells) (ys:=[Tm.cells t]) (zs:=(z.2.2++[t]).map Tm.cells) (n:=(z.2.2++[t]).length) O Z (.row Z (dy _).symm) (.whole Z Z (.inr ⟨Z,Z⟩)) (by simp) Z (by simp;omega) (by simp;omega) (by simp) (by simp)) Z (aP ?_))
 refine aP ?_
 refine js Z (jf [45,44,38,7,22,16,0,2,4,5,6] Z (jo Z (aP ?_)))
 refine jf [38,7,22,16,0,2,4,5,6] Z (jn (ac (js Z ?_)))
 first|refine ji Z ?_|refine ck Z Z ?_
 refine js Z (jf [5,38,7,22,16,0,2,4,6] Z (jn (ac (js Z ?_))))
 first|refine ji Z ?_|refine ck Z Z ?_
 refine js Z (jf [6,5,38,7,22,16,0,2,4] Z (jn ?_))
 refine⟨(z.2.1+1,z.2.1+1,z.2.2++[t]),((aU [2,4,44] (e':=[(0,_),(2,_),(4,_),(5,_),(6,_)]) Z Z ⟨Z,Z,Z,Z,Z,ar⟩ Z).trans (eJ 44 900 Z Z)).trans (Ent.to ⟨Z,Z,Z,Z,Z,ar⟩ Z),⟨bp _,by show z.2.1+1≤_;omega,by show(z.2.2++[t]).length≤13;rw[dh];have:[t].length=1:=rfl;omega,?_⟩,by show s.length-(z.2.1+1)<s.length-z.2.1;omega⟩
 show dO rsT ((s.drop (z.2.1+1)).take (z.2.1+1-(z.2.1+1))) (s.drop (z.2.1+1)) (z.2.2++[t])=_
 rw[←hi.2.2.2,m1 hi0 (by simpa using z22),hY (r:=rsT ((s.drop z.1).take (z.2.1-z.1))) (by rw[←htB];exact htt),←ht,Nat.sub_self,List.take_zero]
 simp only[if_neg hne13]
 refine ba (ag (af (js Z ?_)))
 have hz1:z.2.1=s.length:=by have:=cw z16;have:=hi.2.1;omega
 have hr:=hi.2.2.2
 have hfl:z.1≤s.length:=by have:=hi.1;omega
 rw[hz1,oH hfl]at hr
 refine ab (aO (p:=s) O Z Z Z Z Z Z Z Z Z) Z (js Z ?_)
 first|refine ji Z ?_|refine ck Z Z ?_
 refine aj Z (jf [53,16,0,2,4,5,6] Z (aw 6 Z Z Z (fun hx=>ak hx Z (ak hx Z (ak hx Z (aW hx (vF Z) Z (aW hx (ej (p:=s) (a:=z.1) (b:=z.1+2) O Z Z Z Z Z Z Z (m8 z.1) Z Z (by omega) (by have:=e_h hx;omega)) Z (aW hx (cE (p:=(s.drop z.1).take (z.1+2-z.1)) (q:=[61,62]) O Z Z Z Z Z Z) Z (AN.nil))))))) Z Z ?_))
 first|refine ab (aq O Z Z Z Z Z) Z ?_|refine ab (Val.pickB O Z Z Z Z Z) Z ?_|refine ab (ah O Z Z Z Z Z) Z ?_
 refine jf [60,16,0,2,4,5,6] Z (jn (am Z (fun z60=>?_) (fun z60=>?_)))
 refine af (js Z (jo Z (aP ?_)))
 refine js Z (jr ?_)
 refine aC Z ?_
 have hbad:dO rsT [] s []=none:=by
  rw[←hr,if_pos]
  rcases e_d.1 z60 with h|h
  exact .inl (by omega)
  exact .inr (fun e=>h (by rw[show z.1+2-z.1=2 by omega];exact e))
 rw[hbad]
 exact .tup (.cons (.agg (.cons .nils (.cons .d (.cons .nils .nil)))) (.cons (.c .d) .nil))
 refine ae (af ?_)
 have hno:=fB z60 e_d
 have h2l: ¬(s.length:Int)-(z.1:Int)<2:=fun e=>hno (.inl e)
 have har:(s.drop z.1).take 2=aH:=ma (f:=z.1) (fun h=>hno (.inr h))
 obtain⟨g,hg⟩: ∃t,t=(et (rsT (s.drop (z.1+2)))).1:=⟨_,rfl⟩
 obtain⟨gB,hgB⟩: ∃b,b=(et (rsT (s.drop (z.1+2)))).2:=⟨_,rfl⟩
 rw[if_neg (oK (by omega) har)]at hr
 refine aj Z ?_
 first|refine ji Z ?_|refine ck Z Z ?_
 refine ab ((ej (p:=s) (a:=z.1+2) (b:=s.length) O Z Z Z Z Z Z (m8 z.1) Z Z Z (by omega) (bp _)).cast (v':=aS8 (s.drop (z.1+2))) (by rw[List.take_of_length_le (by rw[List.length_drop];omega)])) Z (jf [66,60,16,0,2,4,5,6] Z (aE O Z Z Z Z ((nc (s:=s.drop (z.1+2)) h1 h2 (by rw[List.length_drop];omega)).plain (v:=_) (u:=.tup [ew g,eB gB]) (by rw[hg,hgB])) (ao Z) Z Z Z Z (B0:=68000) Z Z (aQ Z (jf [69,68,60,16,0,2,4,5,6] Z (jl Z (aP ?_))))))
 refine jo Z (aP ?_)
 refine js Z (jf [10,9,60,16,0,2,4,5,6] Z (jn (ag (af (aj Z (jf [71,9,60,16,0,2,4,5,6] Z (jn (am Z (fun z71=>?_) (fun z71=>?_)))))))))
 refine af (js Z (jo Z (aP ?_)))
 refine js Z (jr ?_)
 refine aC Z ?_
 have hbad:dO rsT [] s []=none:=by rw[←hr,hZ (r:=rsT (s.drop (z.1+2))) (by rw[←hgB];simpa using z71)]
 rw[hbad]
 exact .tup (.cons (.agg (.cons .nils (.cons .d (.cons .nils .nil)))) (.cons (.c .d) .nil))
 refine ae (af (aj Z (jo Z (aP ?_))))
 refine jf [71,9,60,16,0,2,4,5,6] Z (bq (dI (Ent.freeze 900 (e':=[(2,_),(4,_)]) Z (fe [2,4] Z) (kX Z (.cons Z (.box (.cons (.row Z (dy _).symm) (fk Z))) (kX Z (.skip .nil))))) ?_))
 refine js Z (jo Z (aP ?_))
 refine js Z (jr ?_)
 refine aC Z ?_
 have hyes:dO rsT [] s []=some (z.2.2,g):=by rw[←hr,hY (r:=rsT (s.drop (z.1+2))) (by rw[←hgB];simpa using z71),←hg]
 rw[hyes]
 exact .tup (.cons (.agg (aL Z)) (.cons (.c .d) .nil))
variable{t:Tm}
theorem l7{s:Str}(hs:s.length≤1100000)(hy:rdT s=some t):MQ h1 h2 12 [aS8 s] [] (Rows (.tup [.agg [.d (.int .i64 t.c),.rs 0 0 t.xs.length],eB true]) [bE t.xs]):=by
 refine dG (jB 120 h1 h2 Tryd.func12 Z fun O hF=>?_)
 refine af (jl Z (aP ?_))
 refine js Z (bq (cW (iE O Z Z Z Z Z Z Z Z Z (by first|omega|(simp at *;omega)) (by first|omega|(simp at *;omega)) (by first|omega|(simp at *;omega)) (by first|omega|(dsimp only;omega)|(simp only[bw]at *;omega)) (by first|omega|(simp at *;omega)) Z Z Z) Z (aP ?_)))
 refine js Z (jf [10,3,2,0] Z (jl Z (aP ?_)))
 refine jo Z (aP ?_)
 refine jn (ag (af (js Z (jn (ap (ax (X:=Nat×List Int×Int) (fun z=>⟨[(0,aS8 s),(2,.c (.pt 2 0 0)),(4,.c (.pt 4 0 0)),(5,eI (z.1:Nat))],[(2,.box [.d (.int .i64 0),.d .nils]),(4,.box [.d (.int .i64 z.2.2),.rs 9 0 10]),(9,bE z.2.1)]⟩) (fun z=>z.1≤s.length∧z.2.1.length=10∧(∀y∈z.2.1,-(100000000*(z.1:Int))≤y∧y≤100000000*(z.1:Int))∧(-(100000000*(z.1:Int))≤z.2.2∧z.2.2≤100000000*(z.1:Int))∧e5 (s.drop z.1) z.2.1 z.2.2=e5 s (zr 10) 0) (fun z=>s.length-z.1) (0,zr 10,0) (Ent.to ⟨Z,Z,Z,Z,ar⟩ Z) ?_ (fun z hi=>?_)))))))
 exact⟨dT _,Z,fun y hy=>by rw[show y=0 from List.eq_of_mem_replicate hy];simp,by simp,Z⟩
 refine ag (af (aj Z (ab (aO (p:=s) O Z Z Z Z Z Z Z Z Z) Z (js Z (jf [14,0,2,4,5] Z (jn (am Z (fun z14=>?_) (fun z14=>?_))))))))
 refine ae (ap (af (js Z (jn (ag (af (aj Z ?_)))))))
 have hz0:z.1<s.length:=by have:=b9 z14;omega
 have hiz:=hi
 obtain⟨sg,i1,hsg,hi1,hsg1,hsv⟩:=kM hz0
 refine ab (ay (p:=s) (b:=s.getD z.1 0) O Z Z Z Z Z Z Z (by omega) (bc hz0)) Z (jf [17,6,14,0,2,4,5] Z (jn (bk ⟨[(0,aS8 s),(2,.c (.pt 2 0 0)),(4,.c (.pt 4 0 0)),(5,eI (i1:Nat)),(6,eI sg)],[(2,.box [.d (.int .i64 0),.d .nils]),(4,.box [.d (.int .i64 z.2.2),.rs 9 0 10]),(9,bE z.2.1)]⟩ ?_ ?_)))
 refine ap (af (aj Z (jn (am Z (fun z18=>?_) (fun z18=>?_)))))
 refine af (js Z (jn (ac (js Z ?_))))
 first|refine ji Z ?_|refine ck Z Z ?_
 refine js Z (jf [5,6,18,19,17,14,0,2,4] Z (jn ?_))
 exact⟨Z,Ent.to ⟨Z,Z,Z,congrArg (fun z=>some (eI z)) (show(z.1:Int)+1=(i1:Int) by rw[if_pos (b9 z18)]at hsv;omega),congrArg (fun z=>some (eI z)) (show(-1:Int)=sg by rw[if_pos (b9 z18)]at hsv;omega),ar⟩ Z⟩
 refine af (aj Z (jn (am Z (fun z22=>?_) (fun z22=>?_))))
 refine ac (js Z ?_)
 first|refine ji Z ?_|refine ck Z Z ?_
 refine js Z (jf [5,22,23,18,19,17,6,14,0,2,4] Z (jn ?_))
 exact⟨Z,Ent.to ⟨Z,Z,Z,congrArg (fun z=>some (eI z)) (show(z.1:Int)+1=(i1:Int) by rw[if_neg (cw z18),if_pos (b9 z22)]at hsv;omega),congrArg (fun z=>some (eI z)) (show(1:Int)=sg by rw[if_neg (cw z18),if_pos (b9 z22)]at hsv;omega),ar⟩ Z⟩
 refine ae ?_
 exact⟨Z,Ent.to ⟨Z,Z,Z,congrArg (fun z=>some (eI z)) (show(z.1:Int)=(i1:Int) by rw[if_neg (cw z18),if_neg (cw z22)]at hsv;omega),congrArg (fun z=>some (eI z)) (show(1:Int)=sg by rw[if_neg (cw z18),if_neg (cw z22)]at hsv;omega),ar⟩ Z⟩
 refine af (aQ Z (jn (ag (ap (ax (X:=Nat×Int) (fun y=>⟨[(0,aS8 s),(2,.c (.pt 2 0 0)),(4,.c (.pt 4 0 0)),(5,eI (y.1:Nat)),(6,eI sg),(7,eI (i1:Nat)),(8,eI y.2)],[(2,.box [.d (.int .i64 0),.d .nils]),(4,.box [.d (.int .i64 z.2.2),.rs 9 0 10]),(9,bE z.2.1)]⟩) (fun y=>i1≤y.1∧y.1≤s.length∧y.1≤i1+8∧0≤y.2∧y.2<10^(y.1-i1)∧aV (8-(y.1-i1)) y.2 (s.drop y.1)=aV 8 0 (s.drop i1)) (fun y=>s.length-y.1) (i1,0) (Ent.to ⟨Z,Z,Z,Z,Z,Z,Z,ar⟩ Z) ?_ (fun y hi=>?_))))))
 exact⟨bp _,hi1.2.2,by show i1≤i1+8;omega,Int.le_refl _,by show(0:Int)<10^(i1-i1);rw[Nat.sub_self];decide,by show aV (8-(i1-i1)) 0 _=_;rw[Nat.sub_self]⟩
 refine ag (af (aj Z (ab (aO (p:=s) O Z Z Z Z Z Z Z Z Z) Z (aj Z (jf [31,0,2,4,5,6,7,8] Z (aw 4 Z Z Z (fun hx=>ak hx Z (ak hx Z (aW hx (ay (p:=s) (b:=s.getD y.1 0) O Z Z Z Z Z Z Z (by omega) (bc (by have:=ni hx;omega))) Z (ak hx Z (AN.nil))))) Z Z ?_))))))
 first|refine ab (ah O Z Z Z Z Z) Z ?_|refine ab (aq O Z Z Z Z Z) Z ?_|refine ab (Val.pickB O Z Z Z Z Z) Z ?_
 refine js Z (jf [37,0,2,4,5,6,7,8] Z (aw 4 Z Z Z (fun hx=>ak hx Z (ak hx Z (aW hx (ay (p:=s) (b:=s.getD y.1 0) O Z Z Z Z Z Z Z (by omega) (bc (by have:=nM hx;omega))) Z (ak hx Z (AN.nil))))) Z Z ?_))
 first|refine ab (ah O Z Z Z Z Z) Z ?_|refine ab (aq O Z Z Z Z Z) Z ?_|refine ab (Val.pickB O Z Z Z Z Z) Z ?_
 refine js Z (jf [43,0,2,4,5,6,7,8] Z (aw 4 Z Z Z (fun hx=>ak hx Z (ak hx Z (aW hx (vF Z) Z (ak hx Z (AN.nil))))) Z Z ?_))
 first|refine ab (ah O Z Z Z Z Z) Z ?_|refine ab (aq O Z Z Z Z Z) Z ?_|refine ab (Val.pickB O Z Z Z Z Z) Z ?_
 refine jf [48,0,2,4,5,6,7,8] Z (jn (am Z (fun z48=>?_) (fun z48=>?_)))
 refine ae (ag (ap (ac ?_)))
 have z4:=qa.1 z48
 have hc4n:y.1<s.length:=by have:=z4.1;omega
 have hp8:=ku (k:=y.1-i1) (by omega)
 have hby:0≤((s.getD y.1 0).toNat:Int)∧((s.getD y.1 0).toNat:Int)≤255:=iO s y.1
 refine js Z ?_
 first|refine ji Z ?_|refine ck Z Z ?_
 refine aj Z (ab (ay (p:=s) (b:=s.getD y.1 0) O Z Z Z Z Z Z Z (by omega) (bc hc4n)) Z (ab (bZ (k:=.u8) (n:=((s.getD y.1 0).toNat:Int)-48) O Z Z (by show(0:Int)≤_;omega) (by show _≤(255:Int);omega)) Z (ab ((Val.conv (b:=true) (dt:=.int .u8) O Z Z Z (by kernel_rfl) (by kernel_rfl)).cast (v':=eI (((s.getD y.1 0).toNat:Int)-48)) (by rw[cC .i64 _ (by show(-9223372036854775808:Int)≤_;omega) (by show _≤(9223372036854775807:Int);omega)])) Z ?_)))
 first|refine ji Z ?_|refine ck Z Z ?_
 refine js Z (jf [8,48,0,2,4,5,6,7] Z (jn (ac (js Z ?_))))
 first|refine ji Z ?_|refine ck Z Z ?_
 refine js Z (jf [5,8,48,0,2,4,6,7] Z (jn ?_))
 refine⟨(y.1+1,10*y.2+(((s.getD y.1 0).toNat:Int)-48)),Ent.to ⟨Z,Z,Z,Z,Z,Z,Z,ar⟩ Z,⟨by show i1≤y.1+1;omega,by show y.1+1≤_;omega,by show y.1+1≤i1+8;omega,by show 0≤10*y.2+(((s.getD y.1 0).toNat:Int)-48);omega,?_,?_⟩,by show s.length-(y.1+1)<s.length-y.1;omega⟩
 show 10*y.2+(((s.getD y.1 0).toNat:Int)-48)<10^(y.1+1-i1)
 rw[show y.1+1-i1=(y.1-i1)+1 by omega]
 exact i3 hi.2.2.2.2.1 (by omega)
 show aV (8-(y.1+1-i1)) (10*y.2+(((s.getD y.1 0).toNat:Int)-48)) (s.drop (y.1+1))=_
 rw[←hi.2.2.2.2.2,show 8-(y.1-i1)=(8-(y.1+1-i1))+1 by omega,iX hc4n z4.2.1 z4.2.2.1]
 refine ba (ap (af ?_))
 have hend:=f2 (s:=s) (i:=y.1) (i1:=i1) (n:=y.2) (fun hh=>fB z48 qa ⟨by omega,hh.2.1,hh.2.2.1,by omega⟩) hi.1 hi.2.2.1 hi.2.1
 rw[hi.2.2.2.2.2]at hend
 have hst0:=lO hsg hend hi.1 hi.2.1
 have hp8:=ku (k:=y.1-i1) (by omega)
 have hby:0≤((s.getD y.1 0).toNat:Int)∧((s.getD y.1 0).toNat:Int)≤255:=iO s y.1
 refine aj Z ?_
 have hiy:=hi
 refine ab (aO (p:=s) O Z Z Z Z Z Z Z Z Z) Z (aj Z (jf [71,48,0,2,4,5,6,7,8] Z (aw 4 Z Z Z (fun hx=>ak hx Z (ak hx Z (aW hx (ay (p:=s) (b:=s.getD y.1 0) O Z Z Z Z Z Z Z (by omega) (bc (by have:=ni hx;omega))) Z (ak hx Z (AN.nil))))) Z Z ?_)))
 first|refine ab (ah O Z Z Z Z Z) Z ?_|refine ab (aq O Z Z Z Z Z) Z ?_|refine ab (Val.pickB O Z Z Z Z Z) Z ?_
 refine js Z (jf [77,48,0,2,4,5,6,7,8] Z (aw 4 Z Z Z (fun hx=>ak hx Z (ak hx Z (aW hx (ay (p:=s) (b:=s.getD y.1 0) O Z Z Z Z Z Z Z (by omega) (bc (by have:=nM hx;omega))) Z (ak hx Z (AN.nil))))) Z Z ?_))
 first|refine ab (ah O Z Z Z Z Z) Z ?_|refine ab (aq O Z Z Z Z Z) Z ?_|refine ab (Val.pickB O Z Z Z Z Z) Z ?_
 refine js Z (jf [66,48,0,2,4,5,6,7,8] Z (jn (am Z (fun z66=>?_) (fun z66=>?_))))
 refine ag (af ?_)
 have z3:=o0.1 z66
 have hc3n:y.1<s.length:=by have:=z3.1;omega
 refine aQ Z (jf [85,66,48,0,2,4,5,6,7,8] Z (jn ?_))
 obtain⟨n1,hn1⟩: ∃n1,n1=if y.1=i1 then 1 else y.2:=⟨_,rfl⟩
 have hnb:0≤n1∧n1≤100000000:=by rw[hn1];split<;>omega
 have hm1: -100000000≤sg*n1:=by rcases hsg1 with e|e<;>rw[e]<;>omega
 have hm2:sg*n1≤100000000:=by rcases hsg1 with e|e<;>rw[e]<;>omega
 obtain⟨j,hj⟩: ∃j:Nat,((s.getD y.1 0).toNat:Int)-97=(j:Int):=⟨(((s.getD y.1 0).toNat:Int)-97).toNat,by omega⟩
 have hj10:j<10:=by omega
 have hgj:=l5 (i:=j) (B:=100000000*(z.1:Int)) (by omega) hiz.2.2.1
 have hst:jE (s.drop z.1)=some (s.drop (y.1+1),some j,sg*n1):=by rw[hst0,if_pos ⟨hc3n,z3.2.1,z3.2.2⟩,←hn1,show(s.getD y.1 0).toNat-97=j by omega]
 refine bk ⟨[(0,aS8 s),(2,.c (.pt 2 0 0)),(4,.c (.pt 4 0 0)),(5,eI (y.1:Nat)),(6,eI sg),(8,eI n1)],[(2,.box [.d (.int .i64 0),.d .nils]),(4,.box [.d (.int .i64 z.2.2),.rs 9 0 10]),(9,bE z.2.1)]⟩ ?_ ?_
 refine am Z (fun z85=>?_) (fun z85=>?_)
 refine ac (js Z (jn ?_))
 exact⟨Z,Ent.to ⟨Z,Z,Z,Z,Z,congrArg (fun z=>some (eI z)) (show(1:Int)=n1 by rw[hn1,if_pos (by have:=b9 z85;omega)]),ar⟩ Z⟩
 refine ae ?_
 exact⟨Z,Ent.to ⟨Z,Z,Z,Z,Z,congrArg (fun z=>some (eI z)) (show y.2=n1 by rw[hn1,if_neg (by have:=cw z85;omega)]),ar⟩ Z⟩
 refine ag ?_
 have hi:=hiz
 refine mv [_,_,_,_,_,_,_,_,_,_,_,_,_,_] [cm,bL [0],cm,cm,bL [2,3],bL [2,3,4],bL (rg 0 6),bL (rg 0 7),cm,cm,bL [8,9],bL (rg 0 11),bL (rg 0 12),pe (rg 0 13) 0] [13] [_,_] (nU Z (ai (ay (p:=s) (b:=s.getD y.1 0) O Z Z Z Z Z Z Z (by omega) (bc hc3n)) (ai ((bZ (k:=.u8) (n:=((s.getD y.1 0).toNat:Int)-97) O Z Z (by show(0:Int)≤_;omega) (by show _≤(255:Int);omega)).cast (v':=.c (.d (.int .u8 (j:Int)))) (by rw[hj])) (ai (cf (c:=0≤(j:Int)∧(j:Int)<((10:Nat):Int)) (v:=.c (.pt 9 (0+(j:Int).toNat) 0)) O Z Z (by omega)) (ai (dx O (ex:=[.int .i64 (z.2.1.getD j 0)]) Z Z Z Z (by simp[hi.2.1,hj10]) Z) (kc Z (kc Z (ai (aI O Z Z (by omega) (by omega)) (ai (aI O Z Z (by omega) (by omega)) (ai (cf (c:=0≤(j:Int)∧(j:Int)<((10:Nat):Int)) (v:=.c (.pt 9 (0+(j:Int).toNat) 0)) O Z Z (by omega)) (ai (eO (ex:=[.int .i64 (z.2.1.getD j 0)]) (xs':=(bn z.2.1 j (sg*n1)).map (fun n=>[D.int .i64 n])) O Z Z Z Z Z Z Z Z Z Z Z Z Z Z Z (by simp[hi.2.1,hj10]) (by unfold bn;rw[List.map_set];simp only[Int.toNat_natCast,Nat.zero_add];rfl) Z) trivial))))))))))) ?_
 refine ac (js Z ?_)
 first|refine ji Z ?_|refine ck Z Z ?_
 refine js Z (jf [5,98,97,96,95,94,93,92,91,90,89,88,87,86,0,2,4,6,8] Z (jn ?_))
 refine⟨(y.1+1,bn z.2.1 j (sg*n1),z.2.2),Ent.to ⟨Z,Z,Z,Z,ar⟩ Z,⟨by show y.1+1≤_;omega,by show(bn _ _ _).length=10;rw[gW];exact hiz.2.1,?_,?_,?_⟩,by show s.length-(y.1+1)<s.length-z.1;omega⟩
 exact fun q hq=>by have:=jk (B:=100000000*(z.1:Int)) (M:=100000000) (by omega) hiz.2.2.1 hm1 hm2 q hq;show -(100000000*((y.1+1:Nat):Int))≤q∧q≤100000000*((y.1+1:Nat):Int);omega
 show -(100000000*((y.1+1:Nat):Int))≤z.2.2∧z.2.2≤100000000*((y.1+1:Nat):Int);have:=hiz.2.2.2.1;omega
 show e5 (s.drop (y.1+1)) (bn z.2.1 j (sg*n1)) z.2.2=_
 rw[←ir hst,hiz.2.2.2.2]
 refine af ?_
 have z3:=fB z66 o0
 rw[if_neg (fun hh=>z3 ⟨by omega,hh.2.1,hh.2.2⟩)]at hst0
 refine cy Z (jf [101,66,48,0,2,4,5,6,7,8] Z (jn (am Z (fun z101=>?_) (fun z101=>?_))))
 refine af (js Z (jo Z (aP ?_)))
 refine js Z (jr ?_)
 exact absurd (hy.symm.trans (lX (by rw[←hiz.2.2.2.2,iY (by rw[bi hz0];simp) (by rw[hst0,if_pos (by have:=b9 z101;omega)])]))) (by simp)
 refine ac ?_
 have hne: ¬y.1=i1:=by have:=cw z101;omega
 have hst:=hst0
 rw[if_neg hne]at hst
 have hm1: -100000000≤sg*y.2:=by rcases hsg1 with e|e<;>rw[e]<;>omega
 have hm2:sg*y.2≤100000000:=by rcases hsg1 with e|e<;>rw[e]<;>omega
 have hi:=hiz
 refine cy Z ?_
 first|refine ji Z ?_|refine ck Z Z ?_
 first|refine ji Z ?_|refine ck Z Z ?_
 refine js Z (jf [65,64,101,66,48,0,2,4,5,6,7,8] Z (jo Z (aP ?_)))
 refine jf [101,66,48,0,2,4,5,6,7,8] Z (jn ?_)
 refine⟨(y.1,z.2.1,z.2.2+sg*y.2),Ent.to ⟨Z,Z,Z,Z,ar⟩ Z,⟨by show y.1≤_;omega,hiz.2.1,?_,?_,?_⟩,by show s.length-y.1<s.length-z.1;omega⟩
 exact fun q hq=>by have:=hiz.2.2.1 q hq;show -(100000000*(y.1:Int))≤q∧q≤100000000*(y.1:Int);omega
 show -(100000000*(y.1:Int))≤z.2.2+sg*y.2∧z.2.2+sg*y.2≤100000000*(y.1:Int);have:=hiz.2.2.2.1;omega
 show e5 (s.drop y.1) z.2.1 (z.2.2+sg*y.2)=_
 rw[←fD hst,hiz.2.2.2.2]
 refine ba (af ?_)
 have hz1:z.1=s.length:=by have:=cw z14;omega
 have hr:=hi.2.2.2.2
 rw[hz1,List.drop_length,cZ]at hr
 refine dI (Ent.freeze 9 (e':=[(0,_),(2,_),(4,_)]) Z (fe [0,2,4] Z) (kX Z (.cons Z (.box (nV Z (.cons (.row Z (by rw[dy,hi.2.1])) .nil))) (.skip .nil)))) ?_
 refine js Z (aE O Z Z Z Z (n6 (t:=(⟨z.2.2,z.2.1⟩:Tm)) h1 h2) (ao Z) Z Z Z Z (B0:=108000) Z Z (jf [107,0,2,4] Z (jo Z (aP ?_))))
 refine jn (ag (af (js Z (cn Z (mA (t:=(⟨z.2.2,aT z.2.1⟩:Tm)) h1 h2) 110000 Z (aj Z (jf [111,107,0,2,4] Z (aw 4 Z Z Z (fun hx=>ak hx Z (dJ O hx Z Z Z Z (ng (t:=(⟨z.2.2,aT z.2.1⟩:Tm)) h1 h2 (by simpa using hx)) (ao Z) Z Z Z Z Z Z Z (B0:=114000) Z (ak hx Z (aW hx (cE (p:=tS (⟨z.2.2,aT z.2.1⟩:Tm)) (q:=s) O Z Z Z Z Z Z) Z (AN.nil))))) Z Z ?_)))))))
 first|refine ab (aq O Z Z Z Z Z) Z ?_|refine ab (Val.pickB O Z Z Z Z Z) Z ?_|refine ab (ah O Z Z Z Z Z) Z ?_
 refine jf [116,107,0,2,4] Z (jn (am Z (fun z116=>?_) (fun z116=>?_)))
 refine af (js Z (jo Z (aP ?_)))
 refine js Z (jr ?_)
 have hno:rdT s=none:=by rw[ic hr.symm,if_neg];intro hh;revert z116;simp[hh.1,hh.2]
 exact absurd (hy.symm.trans hno) (by simp)
 refine ae (af (js Z (bP O (B0:=120000) Z Z Z Z (oO (t:=(⟨z.2.2,aT z.2.1⟩:Tm)) h1 h2) (ao Z) Z Z Z Z Z Z (aP ?_))))
 refine jf [119,116,107,0,2,4] Z (jo Z (aP ?_))
 refine js Z (jr ?_)
 have hyes:rdT s=some (⟨z.2.2,aT z.2.1⟩:Tm):=by rw[ic hr.symm,if_pos];revert z116;cases h7:Tm.ok (⟨z.2.2,aT z.2.1⟩:Tm)<;>simp
 obtain rfl:=Option.some.inj (hy.symm.trans hyes)
 refine⟨.inl Z,_,e7,_,Z,[120000],by decide,Z,Z,Z⟩
theorem c1323y{s:Str}{fs:List Tm}{g:Tm}(hs:s.length≤1048576)(hy:rqI rdT s=some (fs,g)):MQ h1 h2 13 [aS8 s] [] (Rows (.tup [.agg [.rs 0 0 fs.length,.d (.int .i64 g.c),.rs 1 0 g.xs.length],eB true]) [gp fs,bE g.xs]):=by
 refine dG (jB 75 h1 h2 Tryd.func13 Z fun O hF=>?_)
 have hsL:s.length≤L:=by have h:=hF;simp[As.fact,A.fact,M.fact,D.fact,Ds.fact,bS_size]at h;exact h
 refine af (jl Z (aP ?_))
 refine js Z (bq (js Z (jf [14,3,2] Z (aE O Z Z Z Z (nf (s:=s) (sep:=aH) h1 h2) (ao Z) Z Z Z Z (B0:=16000) Z Z (js Z ?_)))))
 obtain⟨F,hF0⟩: ∃F,F=(Lib.cut s aH).1:=⟨_,rfl⟩
 obtain⟨G,hG0⟩: ∃G,G=(Lib.cut s aH).2.1:=⟨_,rfl⟩
 obtain⟨K,hK0⟩: ∃K,K=(Lib.cut s aH).2.2:=⟨_,rfl⟩
 rw[←hF0,←hG0,←hK0]
 have hcl:=iA s aH
 rw[←hF0,←hG0]at hcl
 refine cy Z (aj Z (jf [6,5,4,3,2] Z (jn (ag (af (aQ Z (jf [21,6,5,4,3,2] Z (aw 10 Z Z Z (fun hx=>ak hx Z (aW hx (cE (p:=F) (q:=[]) O Z Z Z Z Z Z) Z (ak hx Z (il 6 Z Z Z Z (fun hx'=>ak hx' Z (ak hx' Z (aW hx' (aO (p:=F) O Z Z Z Z Z Z Z Z Z) Z (aW hx' (vF Z) Z (aW hx' (ay (p:=F) (b:=F.getD (F.length-1) 0) O Z Z Z Z Z Z Z (lY hx') (n2 (nl hx'))) Z (ak hx' Z (AN.nil))))))) Z Z (aW hx (ah O Z Z Z Z Z) Z (AN.nil)))))) Z Z ?_))))))))
 first|refine ab (aq O Z Z Z Z Z) Z ?_|refine ab (Val.pickB O Z Z Z Z Z) Z ?_|refine ab (ah O Z Z Z Z Z) Z ?_
 refine jf [32,6,5,4,3,2] Z (jn (am Z (fun z32=>?_) (fun z32=>?_)))
 refine af (js Z (jf [33,6,5,4,3,2] Z (jo Z (aP ?_))))
 refine js Z (jr ?_)
 exact absurd (hy.symm.trans (m5 (by rw[←hF0,←hK0];exact(kx fun h=>fE h).1 z32))) (by simp)
 refine ae (af (jl Z (aP ?_)))
 refine bq ?_
 have hno:=fB z32 (kx fun h=>fE h)
 have hK1:K=true:=by cases h:K with
  | true=>rfl
  | false=>exact absurd (.inl h) hno
 have hcj:s=F++aH++G:=fX (by rw[hF0,hG0,←hK1,hK0])
 have hfl:F.length+2≤s.length:=by have h:=congrArg List.length hcj;simp only[dh]at h;have h2:aH.length=2:=rfl;omega
 have hrg0:rdT G≠none:=fun h=>absurd (hy.symm.trans (m3 (by rw[←hG0];exact h))) (by simp)
 obtain⟨gT,hrg⟩:=Option.ne_none_iff_exists'.1 hrg0
 refine js Z (jf [35,7,6,4,3,2] Z (bP O (B0:=37000) Z Z Z Z (l7 (s:=G) (t:=gT) h1 h2 (by omega) hrg) (ao Z) Z Z Z Z Z Z (aP ?_)))
 refine cy Z (jf [39,38,37,7,6,4,3,2] Z (jo Z (aP ?_)))
 refine js Z (jf [6,7,4,3,2] Z (jn (ag (af (aj Z (jn (am Z (fun z41=>?_) (fun z41=>?_))))))))
 exact kW z41
 refine ae (af ?_)
 have hpl0:=ip 59 F
 obtain⟨Q,q0,hQ,_,_,_⟩:=eE 59 F
 refine js Z (jf [43,40,6,7,4,3,2] Z (aE O Z Z Z Z ((nd (s:=F) (sep:=[59]) h1 h2 (by simp) (by rw[eQ];omega)).plain (v:=_) (u:=.c (.d (strs (fJ 59 F)))) (by rw[eQ])) (ao Z) Z Z Z Z (B0:=45000) Z Z (js Z (jf [8,40,6,7,4,3,2] Z (jn (ag (af ?_)))))))
 rw[hQ]
 have hQl:(Q++[q0]).length=Q.length+1:=by simp
 have hPL:Q.length+1≤F.length+1:=by rw[←hQl,←hQ];exact hpl0
 refine aj Z (ab ((fZ O Z Z Z Z Z Z Z Z).cast (v':=eI (Q.length+1:Nat)) (by rw[hQl])) Z (ab ((aI O Z Z (by omega) (by omega)).cast (v':=eI (Q.length:Nat)) (congrArg eI (by omega))) Z (ab (gd (a:=0) (b:=Q.length) (ys:=Q.map fun p=>[sD p]) O Z Z Z Z Z Z Z Z Z Z (by simp[nat?]) ⟨dT _,by simp⟩ (by simp)) Z ?_)))
 first|refine gl Z ?_|refine js Z ?_|refine ck Z Z ?_
 refine js Z (jf [51,50,49,40,6,7,4,3,2] Z (jn (ap (ax (X:=Nat×List Tm) (fun z=>⟨[(2,.c (.pt 2 0 0)),(7,.c (.pt 7 0 0)),(49,.c (.d (strs Q))),(50,eI Q.length),(51,eI (z.1:Nat))],[(2,.box [.d .nils,.d (.int .i64 0),.d .nils]),(7,.box [.rs 900 0 z.2.length,.d (.int .i64 gT.c),.rs 37000 0 gT.xs.length]),(37000,bE gT.xs),(900,gp z.2)]⟩) (fun z=>z.1≤Q.length∧z.2.length=z.1∧bl rdT (Q.take z.1)=some z.2) (fun z=>Q.length-z.1) (0,[]) ((fy 7 900 2 true 0 Z Z Z).trans ((aU [2,7,37000,900] (e':=[(2,_),(7,_),(49,_),(50,_),(51,_)]) Z Z ⟨Z,Z,Z,Z,Z,ar⟩ Z).trans (Ent.to ⟨Z,Z,Z,Z,Z,ar⟩ Z))) ?_ (fun z hi=>?_)))))
 exact⟨dT _,Z,Z⟩
 refine af (js Z (jn (ag (am Z (fun z52=>?_) (fun z52=>?_)))))
 refine ae (ag (ap (af ?_)))
 have hi0:z.1<Q.length:=by have:=b9 z52;omega
 have hpl:(Q.getD z.1 default).length≤1100000:=by
  have h9:(Q.getD z.1 default)∈fJ 59 F:=by rw[hQ,aJ hi0];exact List.mem_append_left _ (List.getElem_mem hi0)
  have:=lQ _ h9;omega
 have ht0:rdT (Q.getD z.1 default)≠none:=fun h=>absurd (hy.symm.trans (m4 (by rw[←hF0,hQ,List.dropLast_concat,←List.take_append_drop z.1 Q,List.drop_eq_getElem_cons hi0];exact eX (by rw[←aJ hi0];exact h)))) (by simp)
 obtain⟨t,ht⟩:=Option.ne_none_iff_exists'.1 ht0
 refine ab (c9 O Z Z Z Z Z Z Z Z (lG (by omega))) Z (aj Z (jf [10,52,2,7,49,50,51] Z (bq (js Z (jf [56,52,2,7,49,50,51] Z (bP O (B0:=58000) Z Z Z Z (l7 (s:=(Q.getD z.1 default)) (t:=t) h1 h2 hpl ht) (ao Z) Z Z Z Z Z Z (aP ?_)))))))
 refine aQ Z (jf [59,58,52,2,7,49,50,51] Z (jl Z (aP ?_)))
 refine jo Z (aP ?_)
 refine js Z (jf [12,11,52,2,7,49,50,51] Z (jn (ag (af (aj Z (jf [61,11,52,2,7,49,50,51] Z (jn (am Z (fun z61=>?_) (fun z61=>?_)))))))))
 exact kW z61
 refine ae (ac (aQ Z (jf [65,64,61,11,52,2,7,49,50,51] Z (dI (aU [2,7,37000,900,58000] (e':=[(65,_),(64,_),(2,_),(7,_),(49,_),(50,_),(51,_)]) Z Z ⟨Z,Z,Z,Z,Z,Z,Z,ar⟩ Z) (cW (lp (ds:=Tm.cells t) O Z Z Z Z Z Z Z Z Z Z (.d Z (.rs Z (dy _).symm .nil)) Z Z Z) Z (aP ?_))))))
 refine aP ?_
 refine jf [66,64,2,7,49,50,51] Z (cW (kk (zs:=(z.2++[t]).map Tm.cells) (n:=(z.2++[t]).length) O Z Z Z Z Z Z Z Z Z Z Z Z Z Z Z Z (.row Z (dy _).symm) Z Z (by decide) Z (by simp;omega) (by simp;omega) (by simp) (by simp)) Z (aP ?_))
 refine aP ?_
 refine js Z (jf [68,67,2,7,49,50,51] Z (jo Z (aP ?_)))
 refine jf [2,7,49,50,51] Z (jn (ac ?_))
 first|refine ji Z ?_|refine ck Z Z ?_
 refine js Z (jn ?_)
 refine⟨(z.1+1,z.2++[t]),((aU [2,7,37000,67] (e':=[(2,_),(7,_),(49,_),(50,_),(51,_)]) Z Z ⟨Z,Z,Z,Z,Z,ar⟩ Z).trans (eJ 67 900 Z Z)).trans (Ent.to ⟨Z,Z,Z,Z,Z,ar⟩ Z),⟨by show z.1+1≤_;omega,by show(z.2++[t]).length=z.1+1;rw[dh,hi.2.1];rfl,?_⟩,by show Q.length-(z.1+1)<Q.length-z.1;omega⟩
 show bl rdT (Q.take (z.1+1))=some (z.2++[t])
 rw[List.take_succ_eq_append_getElem hi0,←aJ hi0]
 exact ed hi.2.2 ht
 refine ba (ag (af ?_))
 have hz1:z.1=Q.length:=by have:=cw z52;omega
 have hall:=hi.2.2
 rw[hz1,List.take_length]at hall
 have hyes:=m2 (s:=s) (g:=gT) (fs:=z.2) (by rw[←hF0,←hK0];exact hno) (by rw[←hG0];exact hrg) (by rw[←hF0,hQ,List.dropLast_concat];exact hall)
 have hsq:=kF (g:=gT) (iZ hall) ((rdT_iff G gT).1 hrg).1
 refine js Z (aX O Z Z Z Z (n8 (s:=⟨z.2,gT⟩) h1 h2) (.cons (.agg (.cons (.whole Z (dy _).symm) (.cons .d (.cons (.whole Z (dy _).symm) .nil)))) .nil) Z Z Z Z Z (B0:=72000) Z (js Z (jf [72,52,2,7,49,50,51] Z (jn (am Z (fun z72=>?_) (fun z72=>?_))))))
 refine af (js Z (jo Z (aP ?_)))
 refine js Z (jr ?_)
 have h9:jI ⟨z.2,gT⟩=false:=by simpa using z72
 rw[hsq]at h9
 rw[hyes,if_neg (cw h9)]at hy
 cases hy
 refine ae (af (js Z (jo Z (aP ?_))))
 refine js Z (jr ?_)
 have h9:jI ⟨z.2,gT⟩=true:=by simpa using z72
 rw[hsq]at h9
 rw[hyes,if_pos (b9 h9)]at hy
 obtain⟨rfl,rfl⟩:=Prod.mk.inj (Option.some.inj hy)
 refine⟨.inl Z,_,e7,_,Z,[900,37000],by decide,Z,Z,Z⟩
theorem pJ{k:Int}:MQ h1 h2 46 [ew ⟨0,[]⟩,eI k] [] (Plain (eI k)):=by
 refine au ?_ Z
 refine jB 10 h1 h2 Tryd.func46 Z fun O hF=>?_
 refine af (jx Z (aP ?_))
 refine js Z (bq (aQ Z (jf [7,6,4,0,1] Z (cn Z (n7 (k:=k) h1 h2) 9000 Z (js Z (jf [1,4,0] Z (bq (aj Z (jr ?_)))))))))
 refine aC Z ?_
 rfl
theorem pM{k:Int}:MQ h1 h2 18 [my ⟨[],⟨0,[]⟩⟩,eI k] [] (Plain (eI k)):=by
 refine au ?_ Z
 refine jB 14 h1 h2 Tryd.func18 Z fun O hF=>?_
 refine af (jx Z (aP ?_))
 refine js Z (bq (aQ Z (jf [7,6,4,2,0,1] Z (cn Z (pL (k:=k) h1 h2) 9000 Z (js Z (jf [1,4,2,0] Z (bq (aQ Z (jf [11,10,1,4,2,0] Z (cn Z (pJ (k:=k) h1 h2) 13000 Z (js Z (jf [1,4,2,0] Z (bq (aj Z (jr ?_)))))))))))))))
 refine aC Z ?_
 rfl
theorem c1316v{s:Str}{r:Sq}(hcc:1+cnt nT r.facts+r.goal.xs.length≤(1073741824:Int))(hs:s.length≤1048576)(cs:MQ h1 h2 16 [aS8 s] [] (Plain (.tup [my r,eB true])))(ci:MQ h1 h2 13 [aS8 s] [] (Rows (.tup [.agg [.rs 0 0 r.facts.length,.d (.int .i64 r.goal.c),.rs 1 0 r.goal.xs.length],eB true]) [gp r.facts,bE r.goal.xs]))(hcp:1≤(1073741824:Int)):MQ h1 h2 4 [aS8 s] [] (Plain (eB true)):=by
 refine au ?_ Z
 refine jB 66 h1 h2 Tryd.func4 Z fun O hF=>?_
 have hbig:L≤9223372036854775807:=Nat.le_trans h2 (by decide)
 refine af (js Z (jn (ag (af (js Z (ab (aO (p:=s) O Z Z Z Z Z Z Z Z Z) Z (js Z (jf [13,2,0] Z (jn (am Z (fun z13=>?_) (fun z13=>?_)))))))))))
 exact absurd (b9 z13) (by omega)
 refine ae (af (js Z (jf [15,2,0] Z (aE O Z Z Z Z (cs) (ao Z) Z Z Z Z (B0:=17000) Z Z (aQ Z (jf [18,17,2,0] Z (jl Z (aP ?_))))))))
 refine jo Z (aP ?_)
 refine js Z (jf [4,3,2,0] Z (bq (js Z (bP O (B0:=22000) Z Z Z Z (ci) (.cons (.c .d) .nil) Z Z Z Z Z Z (aP ?_)))))
 refine aQ Z (jf [23,22,4,3,2,0] Z (jl Z (aP ?_)))
 refine jo Z (aP ?_)
 refine js Z (jf [6,5,4,3,2,0] Z (jn (ag (af (aj Z (aX O Z Z Z Z ((o9 (s:=r) (t:=r) h1 h2).plain (u:=eB true) (by simp)) (.cons (.agg (.cons (.whole Z (dy _).symm) (.cons .d (.cons (.whole Z (dy _).symm) .nil)))) (.cons (.agg (aL Z)) .nil)) Z Z Z Z Z (B0:=27000) Z (aj Z (jf [28,6,5,4,3,2,0] Z (lB Z (js Z (jf [29,28,5,4,3,2,0] Z (lB Z (js Z (lB Z (js Z (ab (dN O Z Z Z Z Z) Z (jf [32,5,4,3,2,0] Z (jn (am Z (fun z32=>?_) (fun z32=>?_))))))))))))))))))))
 exact kW z32
 refine ae (af (js Z (bq (aj Z (jf [34,33,7,5,4,3,2,0] Z (cQ O [22000,22001] (bin:=[gp r.facts,bE r.goal.xs]) Z Z Z Z (c38 (s:=r) (k:=1) h1 h2 (by decide) (by omega)) Z Z Z Z Z Z (B0:=36000) Z Z (aP ?_)))))))
 refine js Z (jf [7,5,4,3,2,0] Z (bq (js Z (bq (aj Z (aX O Z Z Z Z (ky (s:=r) (k:=1) h1 h2 (by decide) (by omega)) (.cons (.agg (.cons (.whole Z (by rw[dy,aB])) (.cons .d (.cons (.whole Z (by rw[dy,aB])) .nil)))) (.cons (.c .d) .nil)) Z Z Z Z Z (B0:=39000) Z (js Z (jf [8,7,5,4,3,2,0] Z (jn (ag (af (aj Z (jn (am Z (fun z40=>?_) (fun z40=>?_)))))))))))))))
 exact absurd (b9 z40) (by omega)
 refine ae (ag (af (aQ Z (jf [43,39,8,7,5,4,3,2,0] Z (jn (am Z (fun z43=>?_) (fun z43=>?_)))))))
 exact absurd z43 (by simp)
 refine ae (af (js Z (jf [45,39,8,7,5,4,3,2,0] Z (bP O (B0:=47000) Z Z Z Z (ci) (ao Z) Z Z Z Z Z Z (aP ?_)))))
 refine aQ Z (jf [48,47,39,8,7,5,4,3,2,0] Z (jl Z (aP ?_)))
 refine jo Z (aP ?_)
 refine js Z (jf [10,9,39,8,7,5,4,3,2,0] Z (jn (ag (af (aj Z (aX O Z Z Z Z ((o9 (s:=r) (t:=r) h1 h2).plain (u:=eB true) (by simp)) (.cons (.agg (.cons (.whole Z (dy _).symm) (.cons .d (.cons (.whole Z (dy _).symm) .nil)))) (.cons (.agg (aL Z)) .nil)) Z Z Z Z Z (B0:=52000) Z (aj Z (jf [53,10,9,39,8,7,5,4,3,2,0] Z (lB Z (js Z (jf [54,53,9,39,8,7,5,4,3,2,0] Z (lB Z (js Z (lB Z (js Z (ab (dN O Z Z Z Z Z) Z (jf [57,9,39,8,7,5,4,3,2,0] Z (jn (am Z (fun z57=>?_) (fun z57=>?_))))))))))))))))))))
 exact kW z57
 refine ae (af (js Z (bq (aj Z (jf [59,58,8,9,39,7,5,4,3,2,0] Z (aX O Z Z Z Z (ky (s:=r) (k:=1) h1 h2 (by decide) (by omega)) (.cons (.agg (.cons (.whole Z (by rw[dy,aB])) (.cons .d (.cons (.whole Z (by rw[dy,aB])) .nil)))) (.cons (.c .d) .nil)) Z Z Z Z Z (B0:=61000) Z (js Z (jf [8,9,39,7,5,4,3,2,0] Z (jn (ag (af (aj Z (jn (am Z (fun z62=>?_) (fun z62=>?_)))))))))))))))
 exact absurd (b9 z62) (by omega)
 refine ae (ag (af (aQ Z (jf [65,61,8,9,39,7,5,4,3,2,0] Z (jn (am Z (fun z65=>?_) (fun z65=>?_)))))))
 exact absurd z65 (by simp)
 refine ae (af (js Z (jr ?_)))
 refine aC Z ?_
 rfl
theorem c1316n{s:Str}(hs:s.length≤1048576)(cs:MQ h1 h2 16 [aS8 s] [] (Plain (.tup [my (⟨[],⟨0,[]⟩⟩:Sq),eB false])))(ci:MQ h1 h2 13 [aS8 s] [] (Rows (.tup [.agg [.d (nJ []),.d (.int .i64 0),.d (eu [])],eB false]) []))(hcp:1≤(1073741824:Int)):MQ h1 h2 4 [aS8 s] [] (Plain (eB true)):=by
 refine au ?_ Z
 refine jB 66 h1 h2 Tryd.func4 Z fun O hF=>?_
 have hbig:L≤9223372036854775807:=Nat.le_trans h2 (by decide)
 refine af (js Z (jn (ag (af (js Z (ab (aO (p:=s) O Z Z Z Z Z Z Z Z Z) Z (js Z (jf [13,2,0] Z (jn (am Z (fun z13=>?_) (fun z13=>?_)))))))))))
 exact absurd (b9 z13) (by omega)
 refine ae (af (js Z (jf [15,2,0] Z (aE O Z Z Z Z (cs) (ao Z) Z Z Z Z (B0:=17000) Z Z (aQ Z (jf [18,17,2,0] Z (jl Z (aP ?_))))))))
 refine jo Z (aP ?_)
 refine js Z (jf [4,3,2,0] Z (bq (js Z (bP O (B0:=22000) Z Z Z Z (ci) (.cons (.c .d) .nil) Z Z Z Z Z Z (aP ?_)))))
 refine aQ Z (jf [23,22,4,3,2,0] Z (jl Z (aP ?_)))
 refine jo Z (aP ?_)
 refine js Z (jf [6,5,4,3,2,0] Z (jn (ag (af (aj Z (aX O Z Z Z Z ((o9 (s:=(⟨[],⟨0,[]⟩⟩:Sq)) (t:=(⟨[],⟨0,[]⟩⟩:Sq)) h1 h2).plain (u:=eB true) (by simp)) (.cons (.agg (aL Z)) (.cons (.agg (aL Z)) .nil)) Z Z Z Z Z (B0:=27000) Z (aj Z (jf [28,6,5,4,3,2,0] Z (lB Z (js Z (jf [29,28,5,4,3,2,0] Z (lB Z (js Z (lB Z (js Z (ab (dN O Z Z Z Z Z) Z (jf [32,5,4,3,2,0] Z (jn (am Z (fun z32=>?_) (fun z32=>?_))))))))))))))))))))
 exact kW z32
 refine ae (af (js Z (bq (aj Z (jf [34,33,7,5,4,3,2,0] Z (aX O Z Z Z Z (pM (k:=1) h1 h2) (.cons (.agg (aL Z)) (.cons (.c .d) .nil)) Z Z Z Z Z (B0:=36000) Z (js Z (jf [7,5,4,3,2,0] Z (bq (js Z (bq (aj Z (aX O Z Z Z Z ((ky (s:=(⟨[],⟨0,[]⟩⟩:Sq)) (k:=1) h1 h2 (by decide) (by decide)).plain (u:=eI 1) Z) (.cons (.agg (aL Z)) (.cons (.c .d) .nil)) Z Z Z Z Z (B0:=39000) Z (js Z (jf [8,7,5,4,3,2,0] Z (jn (ag (af (aj Z (jn (am Z (fun z40=>?_) (fun z40=>?_))))))))))))))))))))))
 exact absurd (b9 z40) (by decide)
 refine ae (ag (af (aQ Z (jf [43,39,8,7,5,4,3,2,0] Z (jn (am Z (fun z43=>?_) (fun z43=>?_)))))))
 exact absurd z43 (by simp)
 refine ae (af (js Z (jf [45,39,8,7,5,4,3,2,0] Z (bP O (B0:=47000) Z Z Z Z (ci) (ao Z) Z Z Z Z Z Z (aP ?_)))))
 refine aQ Z (jf [48,47,39,8,7,5,4,3,2,0] Z (jl Z (aP ?_)))
 refine jo Z (aP ?_)
 refine js Z (jf [10,9,39,8,7,5,4,3,2,0] Z (jn (ag (af (aj Z (aX O Z Z Z Z ((o9 (s:=(⟨[],⟨0,[]⟩⟩:Sq)) (t:=(⟨[],⟨0,[]⟩⟩:Sq)) h1 h2).plain (u:=eB true) (by simp)) (.cons (.agg (aL Z)) (.cons (.agg (aL Z)) .nil)) Z Z Z Z Z (B0:=52000) Z (aj Z (jf [53,10,9,39,8,7,5,4,3,2,0] Z (lB Z (js Z (jf [54,53,9,39,8,7,5,4,3,2,0] Z (lB Z (js Z (lB Z (js Z (ab (dN O Z Z Z Z Z) Z (jf [57,9,39,8,7,5,4,3,2,0] Z (jn (am Z (fun z57=>?_) (fun z57=>?_))))))))))))))))))))
 exact kW z57
 refine ae (af (js Z (bq (aj Z (jf [59,58,8,9,39,7,5,4,3,2,0] Z (aX O Z Z Z Z ((ky (s:=(⟨[],⟨0,[]⟩⟩:Sq)) (k:=1) h1 h2 (by decide) (by decide)).plain (u:=eI 1) Z) (.cons (.agg (aL Z)) (.cons (.c .d) .nil)) Z Z Z Z Z (B0:=61000) Z (js Z (jf [8,9,39,7,5,4,3,2,0] Z (jn (ag (af (aj Z (jn (am Z (fun z62=>?_) (fun z62=>?_)))))))))))))))
 exact absurd (b9 z62) (by decide)
 refine ae (ag (af (aQ Z (jf [65,61,8,9,39,7,5,4,3,2,0] Z (jn (am Z (fun z65=>?_) (fun z65=>?_)))))))
 exact absurd z65 (by simp)
 refine ae (af (js Z (jr ?_)))
 refine aC Z ?_
 rfl
theorem c1316l{L:Nat}(h1:4096≤L)(h2:L≤9223372036854775807){s:Str}(hs:1048576<s.length):MC Tryd.prog L 4 [aS8 s] [] (Plain (eB true)):=by
 refine au ?_ Z
 have O:=np (nt:=66) h1 h2
 refine MC.body O Tryd.func4 (by kernel_rfl) Z Z (Nat.le_of_ble_eq_true Z) (fun hF=>?_)
 refine af (js Z (jn (ag (af (js Z (ab (aO (p:=s) O Z Z Z Z Z Z Z Z Z) Z (js Z (jf [13,2,0] Z (jn (am Z (fun z13=>?_) (fun z13=>?_)))))))))))
 refine af (js Z (jr ?_))
 refine aC Z ?_
 rfl
 exact absurd z13 (by simp;omega)
end Go.Al
/- What the rows of the texts share: what the package-level variables hold in every world that a row ranges over. -/
namespace Go.Proofs.YtlofbdghppgnbaaDoor
open Go.ChangeShapes Go.WideShapes Go.ChangeAt Go.RowKit Go.Al
theorem wrapLaid{H:Type}{enc:TypeId×Value→H}{a:Assume}{C:Checked}{os:Os}{f:FuncId}{fn:Func}{s:ChangeSpec}{conds:List PathCond}{apart fresh handsOn again:Bool}{X:World→Array Value→Prop}
    (hX: ∀(w w':World) (args:Array Value),w.heap=w'.heap→X w args→X w' args)
    (own:ownKnob C.prog.godebug=none) (started:os.Started) (noInit:C.prog.inits.idxOf? f=none) (hfn:C.prog.funcs[f]? = some fn)
    (witness: ∃(w:World) (tape:Tape) (i:Input),w.os=os∧(w.forCall tape i).Shaped C.prog∧i.vars=[]∧Input.okWide C.prog (w.forCall tape i) .any w.heap.size f i∧
      ((s.pre enc C.prog fn conds apart (w.forCall tape i).memory i.args∧X (w.forCall tape i).memory i.args)∧sizedMet enc C.prog fn (OpenSpec.ofChange s) apart (w.forCall tape i).memory i.args)∧a.holds C.prog (lone (Frame.enter C.prog f i.args .normal) [] (w.forCall tape i)))
    (contract: ∀(W:World) (base:Nat) (args:Array Value) (ds gs:List (DataW H)) (before:List MemPlace),
      (∀(j:Nat) t v,fn.params[j]? = some t→args[j]? = some v→Value.okWide C.prog W .any base t v)→
      DataW.Whole enc C.prog fn.params.toList s.vars apart W args.toList ds gs before→X W args→W.ShapedOpen C.prog→
      Calls C.prog f args W fun e W'=> ∃v,e= .returned v∧s.post enc C.prog fn apart fresh handsOn again W args v W') :
    ReturnsInHanded a C os f .any (fun w args=>(s.pre enc C.prog fn conds apart w args∧X w args)∧sizedMet enc C.prog fn (OpenSpec.ofChange s) apart w args) (s.post enc C.prog fn apart fresh handsOn again):=by
 refine returnsInHanded_of_calls own started noInit witness ?_
 intro w tape i _ hsh _ hok hpre hholds
 obtain⟨_,_,_,fn',hfn',_,_,_,_,hval⟩:=hok
 have e:fn'=fn:=Option.some.inj (hfn'.symm.trans hfn)
 subst e
 obtain⟨⟨⟨ds,gs,before,hw,hc⟩,hx⟩,hz⟩:=hpre
 have hw':=DataW.Whole.of_heap (w':=w.forCall tape i) (by rfl) hw
 refine(contract (w.forCall tape i) w.heap.size i.args ds gs before hval hw' (hX _ _ _ (by rfl) hx) hsh).mono fun e W' ⟨v,he,hp⟩=>?_
 subst he
 exact ChangeSpec.post_blind hp
theorem fm{P:Program}{w:World}: ∀{l:List (String×DataW Unit)} {ps:List MemPlace},DataW.LaidVars P w l ps→∀{x:String×DataW Unit},x∈l→
    ∃g t cs fuel p,P.globalNamed x.1=some g∧(P.globals[g]?).map (·.type)=some t∧w.var? P x.1=some cs∧DataW.trod (fun _=>()) P w 0 (fun _=>true) false fuel t cs.toList=some (x.2,p)
 | [],_,_,_,h=>by cases h
 | (n,d)::l,_,h,x,hx=>by
  obtain⟨g,t,cs,fuel,p,q,hg,ht,hv,hd,hr,_⟩:=h
  rcases List.mem_cons.1 hx with rfl|hx
  exact⟨g,t,cs,fuel,p,hg,ht,hv,hd⟩
  exact fm hr hx
theorem mE{P:Program}{w:World}{n:Nat}{t e:TypeId}{fuel:Nat}{cs:Array Value}{zs:List Int}{p:List MemPlace}(ht:P.underlying t=some (.array n e))(he:P.underlying e=some (.int .u64))(hc:P.cellsOf t=n)(hce:P.cellsOf e=1)(hn:zs.length=n)
    (hd:DataW.trod (fun _:TypeId×Value=>()) P w 0 (fun _=>true) false fuel t cs.toList=some (.agg (zs.map fun z=>.lit (.int .u64 z)),p)):cs=(zs.map fun z=>Value.int .u64 z).toArray:=by
 obtain⟨xs,m,_,ex,hl,hxs,hel⟩:=DataW.trod_array ht hd
 have e3:(xs.map (·.1))=zs.map fun z=>.lit (.int .u64 z):=(DataW.agg.inj (Prod.mk.inj ex).1).symm
 have key:cs.toList=zs.map fun z=>Value.int .u64 z:=by
  refine List.ext_getElem (by simp[hl,hc,hn]) fun i h1 h2=>?_
  have hi:i<n:=by simpa[hn]using h2
  have hE:=hel i hi
  rw[hce,Nat.mul_one,List.getElem?_eq_getElem (by omega)]at hE
  obtain⟨z,e1,e2,_⟩:=DataW.trod_int he hE
  have e4:(xs.map (·.1))[i]? = (zs.map fun z=>(DataW.lit (.int .u64 z):DataW Unit))[i]? := by rw[e3]
  rw[List.getElem?_map,List.getElem?_map,List.getElem?_eq_getElem (by omega:i<xs.length),List.getElem?_eq_getElem (by omega:i<zs.length),e2]at e4
  simp only[Option.map_some,dd,DataW.lit.injEq,Lit.int.injEq,true_and]at e4
  have h0:((cs.toList.drop i).take 1)[0]? = some (.int .u64 z):=by rw[e1];rfl
  have h3:cs.toList[i]? = some (.int .u64 z):=by simpa using h0
  rw[List.getElem?_eq_getElem h1]at h3
  rw[Option.some.inj h3,e4,List.getElem_map]
 rw[←key]
theorem k7:(Rows.laid_internal_strconv_uint64pow10:DataW Unit)= .agg (Lib.pow10Tab.map fun z=>.lit (.int .u64 z)):=by kernel_rfl
theorem gok{W:World}{laid:List (String×DataW Unit)}(hl:laidMet Tryd.prog laid W)(hm:("internal/strconv.uint64pow10",Rows.laid_internal_strconv_uint64pow10)∈laid)(hs:W.ShapedOpen Tryd.prog):GOk Tryd.prog W okAll:=by
 intro n g hn hg
 refine⟨trivial,?_⟩
 simp only[GN,List.mem_cons,List.mem_nil_iff,or_false]at hn
 rcases hn with rfl|rfl
 obtain⟨ps,hv,_,_⟩:=hl
 obtain⟨g',t,cs,fuel,p,hg',ht,hv,hd⟩:=fm hv (x:=("internal/strconv.uint64pow10",Rows.laid_internal_strconv_uint64pow10)) hm
 obtain rfl:=Option.some.inj ((show Tryd.prog.globalNamed "internal/strconv.uint64pow10" = some 1 by kernel_rfl).symm.trans hg')
 obtain rfl:=Option.some.inj ((show(Tryd.prog.globals[1]?).map (·.type)=some 162 by kernel_rfl).symm.trans ht)
 refine⟨cs,hv,fun _=>?_,fun h=>absurd h (by simp)⟩
 refine mE (n:=20) (e:=87) Tryd.underlying162 Tryd.underlying87 (by kernel_rfl) (by kernel_rfl) Lib.pow10Tab_length (p:=p) (fuel:=fuel) (P:=Tryd.prog) (w:=W) ?_
 rw[←k7]
 exact hd
 obtain rfl:=Option.some.inj ((show Tryd.prog.globalNamed "internal/bytealg.MaxLen" = some 0 by kernel_rfl).symm.trans hg)
 obtain⟨m,hm⟩:=cell_of_shapedOpen_int (k:=.i64) (g:=0) (t:=3) (zero:= #[.int .i64 0]) hs (b9 (by kernel_rfl)) (by kernel_rfl) rfl (by kernel_rfl) (by kernel_rfl) Tryd.underlying3
 have hm':=hm
 unfold World.cell? at hm'
 unfold World.var?
 rw[hg,Option.bind_some]
 cases hb:W.heap[0]? with
 | none=>simp[hb]at hm'
 | some o=>
  cases o with
  | cells cs c d=>exact⟨cs,Z,fun h=>absurd h (by simp),fun _=>⟨m,by simpa[hb]using hm'⟩⟩
  | _=>simp[hb]at hm'
end Go.Proofs.YtlofbdghppgnbaaDoor
