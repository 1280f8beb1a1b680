/- Texts of q8 and of sequents: plain Lean, the writers and the readers, walked; what the package-level variables hold. -/
import Derived.Lib.ItoaNum
import Derived.Lib.Split
import Derived.Test.YtlofbdghppgnbaaDoorH
import Derived.Test.YtlofbdghppgnbaaDoorC
import Derived.Test.YtlofbdghppgnbaaDoorS
set_option linter.unusedVariables false
set_option linter.unusedSimpArgs false
set_option maxRecDepth 10000
set_option maxHeartbeats 4000000
open Go.Proofs
/- Terms as texts, in plain Lean: what is written, what is read, and that a written term is read back. -/
namespace Go.Al
variable{L:Nat}(h1:4096≤L)(h2:L≤1073741824)
open Go.Lib
abbrev Str:=List UInt8
def fi(i:Nat):UInt8:=UInt8.ofNat (97+i)
def db(out:Str)(n:Int):Str:=if n<0 then[45]else if out=[]then[]else[43]
def tC(out:Str)(i:Nat)(c:Int):Str:=if c=0 then out else out++db out c++(if c.natAbs=1 then[]else decDigits c.natAbs)++[fi i]
def tX:Nat→List Int→Str→Str
  | _,[],out=>out
  | i,c::r,out=>tX (i+1) r (tC out i c)
def tK(out:Str)(c:Int):Str:=if c=0 then out else out++db out c++decDigits c.natAbs
def tZ(out:Str):Str:=if out=[]then[48]else out
def qh(c:Int)(xs:List Int):Str:=tZ (tK (tX 0 xs []) c)

def fJ(b:UInt8):Bool:=decide (48≤b.toNat)&&decide (b.toNat≤57)
def mJ(b:UInt8):Bool:=decide (97≤b.toNat)&&decide (b.toNat<107)
def bm:Nat→Int→Str→Int×Str
  | 0,n,l=>(n,l)
  | _+1,n,[]=>(n,[])
  | k+1,n,b::r=>if fJ b then bm k (10*n+(b.toNat-48:Int)) r else(n,b::r)
theorem e7{k:Nat}{n:Int}{b:UInt8}{r:Str}(h:fJ b=false):bm k n (b::r)=(n,b::r):=by
 cases k with
 | zero=>rfl
 | succ k=>rw[bm,if_neg (by simp[h])]
theorem iP{k:Nat}{n:Int}:bm k n []=(n,[]):=by cases k<;>rfl
theorem bq{d:Nat}(h:d<10):(UInt8.ofNat (48+d)).toNat=48+d:=by
 rw[UInt8.toNat_ofNat'];omega
theorem iQ{k:Nat}{n:Int}{d:Nat}(h:d<10){r:Str}:bm (k+1) n (UInt8.ofNat (48+d)::r)=bm k (10*n+d) r:=by
 rw[bm,if_pos (by unfold fJ;rw[bq h];simp;omega),bq h]
 congr 1;omega
theorem iR(m:Nat): ∀(k:Nat) (n:Int) (r:Str),nDigits m≤k→bm k n (decDigits m++r)=bm (k-nDigits m) (n*(10^nDigits m:Nat)+m) r:=by
 induction m using Nat.strongRecOn with
 | _ m ih=>
  intro k n r hk
  by_cases h:m<10
  rw[decDigits,dif_pos h,nDigits_small h]at *
  obtain⟨k,rfl⟩: ∃j,k=j+1:=⟨k-1,by omega⟩
  rw[List.singleton_append,iQ h,Nat.add_sub_cancel]
  congr 1;simp;omega
  rw[nDigits_big h]at hk ⊢
  rw[decDigits,dif_neg h,cM,List.singleton_append,ih (m/10) (by omega) k n _ (by omega)]
  obtain⟨j,hj⟩: ∃j,k-nDigits (m/10)=j+1:=⟨k-nDigits (m/10)-1,by omega⟩
  rw[hj,iQ (Nat.mod_lt _ (by decide)),show k-(nDigits (m/10)+1)=j by omega]
  congr 1
  rw[Nat.pow_succ,Int.natCast_mul]
  have:(m:Int)=10*((m/10:Nat):Int)+((m%10:Nat):Int):=by omega
  generalize (10^nDigits (m/10):Nat)=p at *
  rw[Int.mul_add,Int.add_assoc,←this]
  congr 1
  rw[show((10:Nat):Int)=10 from Z,Int.mul_comm 10 (n*_),Int.mul_assoc]
theorem dP{m k:Nat}(h:m<10^(k+1)):nDigits m≤k+1:=by
 induction k generalizing m with
 | zero=>rw[nDigits_small (by simpa using h)];exact bD _
 | succ k ih=>
  by_cases hm:m<10
  rw[nDigits_small hm];omega
  rw[nDigits_big hm]
  have:=ih (m:=m/10) (by rw[Nat.pow_succ]at h;omega)
  omega
theorem cp(m:Nat):decDigits m≠[]:=by
 rw[decDigits];split<;>simp
theorem iB(m:Nat): ∀b∈decDigits m,fJ b=true:=by
 induction m using Nat.strongRecOn with
 | _ m ih=>
  intro b hb
  rw[decDigits]at hb
  split at hb
  rename_i h
  rw[List.mem_singleton.1 hb];unfold fJ;rw[bq h];simp;omega
  rename_i h
  rcases List.mem_append.1 hb with hb|hb
  exact ih (m/10) (by omega) b hb
  rw[List.mem_singleton.1 hb];unfold fJ;rw[bq (Nat.mod_lt _ (by decide))];simp;omega
theorem jW: ∀(k:Nat) (n:Int) (l:Str),(bm k n l).2.length≤l.length
 | 0,n,l=>bD _
 | k+1,n,[]=>bD _
 | k+1,n,b::r=>by
  rw[bm]
  split
  exact Nat.le_trans (jW k _ r) (Nat.le_succ _)
  exact bD _
def gC:Str→Int×Str
  | []=>(1,[])
  | b::r=>if b=45 then(-1,r)else if b=43 then(1,r)else(1,b::r)
theorem ox(l:Str):(gC l).2.length≤l.length:=by
 cases l with
 | nil=>exact bD _
 | cons b r=>
  rw[gC]
  split
  exact Nat.le_succ _
  split
  exact Nat.le_succ _
  exact bD _
def bR(xs:List Int)(i:Nat)(n:Int):List Int:=xs.set i (xs.getD i 0+n)
def kB(l:Str):Option (Str×Option Nat×Int):=
  let a:=gC l
  let d:=bm 8 0 a.2
  match d.2 with
  | b::r=>if mJ b then some (r,some (b.toNat-97),a.1*(if d.2.length=a.2.length then 1 else d.1))else if d.2.length=a.2.length then none else some (d.2,none,a.1*d.1)
  | []=>if d.2.length=a.2.length then none else some (d.2,none,a.1*d.1)
theorem kE{l r:Str}{i:Option Nat}{n:Int}(h:kB l=some (r,i,n)):r.length<l.length:=by
 have h1:=ox l
 have h2:=jW 8 0 (gC l).2
 unfold kB at h
 simp only at h
 split at h
 rename_i b r' hd
 split at h
 cases h
 have:(bm 8 0 (gC l).2).2.length=r.length+1:=by rw[hd];rfl
 omega
 split at h
 cases h
 cases h;rename_i hne _;rw[hd]at h2;rw[hd]at *;omega
 rename_i hd
 split at h
 cases h
 cases h;rename_i hne;rw[hd]at h2;rw[hd]at *;omega
def fW(l:Str)(xs:List Int)(c:Int):Option (List Int×Int):=
  if l=[]then some (xs,c)else
  match h:kB l with
  | none=>none
  | some (r,some i,n)=>fW r (bR xs i n) c
  | some (r,none,n)=>fW r xs (c+n)
termination_by l.length
decreasing_by all_goals exact kE h
theorem dK{xs:List Int}{c:Int}:fW [] xs c=some (xs,c):=by rw[fW];simp
theorem jp{l r:Str}{xs:List Int}{c n:Int}{i:Nat}(h:kB l=some (r,some i,n)):fW l xs c=fW r (bR xs i n) c:=by
 have hl:l≠[]:=fun e=>by have:=kE h;rw[e]at this;exact absurd this (Nat.not_lt_zero _)
 rw[fW,if_neg hl]
 split
 rename_i e;rw[h]at e;cases e
 rename_i e;rw[h]at e;cases e;rfl
 rename_i e;rw[h]at e;cases e
theorem gu{l r:Str}{xs:List Int}{c n:Int}(h:kB l=some (r,none,n)):fW l xs c=fW r xs (c+n):=by
 have hl:l≠[]:=fun e=>by have:=kE h;rw[e]at this;exact absurd this (Nat.not_lt_zero _)
 rw[fW,if_neg hl]
 split
 rename_i e;rw[h]at e;cases e
 rename_i e;rw[h]at e;cases e
 rename_i e;rw[h]at e;cases e;rfl
theorem jY{l:Str}{xs:List Int}{c:Int}(hl:l≠[])(h:kB l=none):fW l xs c=none:=by
 rw[fW,if_neg hl]
 split
 rfl
 rename_i e;rw[h]at e;cases e
 rename_i e;rw[h]at e;cases e
def l6(f:Bool)(n:Int):Str:=if n<0 then[45]else if f then[43]else[]
def ln(n:Int):Str:=if n.natAbs=1 then[]else decDigits n.natAbs
def pX:Bool→Nat→List Int→Str
  | _,_,[]=>[]
  | f,i,c::r=>if c=0 then pX f (i+1) r else l6 f c++ln c++(fi i::pX true (i+1) r)
def pK(f:Bool)(c:Int):Str:=if c=0 then[]else l6 f c++decDigits c.natAbs
def ne(s:Str):Bool:=!s.isEmpty
theorem m6(out:Str)(n:Int):db out n=l6 (ne out) n:=by
 unfold db l6 ne;cases out<;>simp
theorem oR: ∀(xs:List Int) (i:Nat) (out:Str),tX i xs out=out++pX (ne out) i xs
 | [],i,out=>by simp[tX,pX]
 | c::r,i,out=>by
  rw[tX,oR r,pX]
  unfold tC
  by_cases h:c=0
  simp[h]
  rw[if_neg h,if_neg h,m6]
  have:ne (out++l6 (ne out) c++(if c.natAbs=1 then[]else decDigits c.natAbs)++[fi i])=true:=by simp[ne]
  rw[this]
  simp[ln]
theorem q9(out:Str)(c:Int):tK out c=out++pK (ne out) c:=by
 unfold tK pK
 by_cases h:c=0
 simp[h]
 rw[if_neg h,if_neg h,m6];simp
theorem mX(c:Int)(xs:List Int):qh c xs=tZ (pX false 0 xs++pK (ne (pX false 0 xs)) c):=by
 unfold qh
 rw[q9,oR];simp[ne]
theorem eA{i:Nat}(h:i<10):(fi i).toNat=97+i:=by
 unfold fi;rw[UInt8.toNat_ofNat'];omega
theorem gv{i:Nat}(h:i<10):mJ (fi i)=true:=by unfold mJ;rw[eA h];simp;omega
theorem jA{i:Nat}(h:i<10):fJ (fi i)=false:=by unfold fJ;rw[eA h];simp;omega
theorem nF{b:UInt8}(h:fJ b=true∨mJ b=true):b≠45∧b≠43:=by
 constructor<;>(rintro rfl;revert h;decide)
theorem jV{f:Bool}{n:Int}{l:Str}(h:n<0∨∃b r,l=b::r∧(fJ b=true∨mJ b=true))(hl:n<0→True):gC (l6 f n++l)=(if n<0 then -1 else 1,l):=by
 unfold l6
 by_cases hn:n<0
 rw[if_pos hn,if_pos hn];rfl
 rw[if_neg hn,if_neg hn]
 obtain⟨b,r,rfl,hb⟩:=h.resolve_left hn
 have:=nF hb
 cases f with
 | true=>rfl
 | false=>simp only[Bool.false_eq_true,if_false,List.nil_append];rw[gC,if_neg this.1,if_neg this.2]
theorem dC(n:Int):(if n<0 then -1 else 1)*(n.natAbs:Int)=n:=by
 by_cases h:n<0
 rw[if_pos h];omega
 rw[if_neg h];omega
theorem qv{m:Nat}(h:m<100000000):nDigits m≤8:=dP (k:=7) (by simpa using h)
theorem fB(m:Nat)(l:Str): ∃b r,decDigits m++l=b::r∧fJ b=true:=by
 cases h:decDigits m with
 | nil=>exact absurd h (cp m)
 | cons b r=>exact⟨b,r++l,Z,iB m b (by rw[h];simp)⟩
theorem lX(m:Nat):0<(decDigits m).length:=List.length_pos_iff.2 (cp m)
theorem kU{m:Nat}(h:m<100000000){b:UInt8}{r:Str}(hb:fJ b=false):bm 8 0 (decDigits m++b::r)=((m:Int),b::r):=by
 rw[iR m 8 0 _ (qv h),e7 hb];simp
theorem md{m:Nat}(h:m<100000000):bm 8 0 (decDigits m)=((m:Int),([]:Str)):=by
 have:=iR m 8 0 [] (qv h)
 rw[List.append_nil]at this
 rw[this,iP];simp
theorem oi{f:Bool}{c:Int}{i:Nat}{r:Str}(hi:i<10)(h0:c≠0)(hc:c.natAbs<100000000):kB (l6 f c++ln c++(fi i::r))=some (r,some i,c):=by
 have hd: ∃b q,ln c++(fi i::r)=b::q∧(fJ b=true∨mJ b=true):=by
  unfold ln
  split
  exact⟨_,_,Z,.inr (gv hi)⟩
  obtain⟨b,q,h1,h2⟩:=fB c.natAbs (fi i::r)
  exact⟨b,q,h1,.inl h2⟩
 unfold kB
 rw[cM,jV (.inr hd) (fun _=>trivial)]
 simp only
 have hr:bm 8 0 (ln c++(fi i::r))=(if c.natAbs=1 then 0 else(c.natAbs:Int),fi i::r):=by
  unfold ln
  by_cases h:c.natAbs=1
  rw[if_pos h,if_pos h];exact e7 (jA hi)
  rw[if_neg h,if_neg h];exact kU hc (jA hi)
 rw[hr]
 simp only[gv hi,if_true,eA hi,Nat.add_sub_cancel_left]
 have e:(if c<0 then -1 else 1)*(if(fi i::r).length=(ln c++fi i::r).length then 1 else if c.natAbs=1 then 0 else(c.natAbs:Int))=c:=by
  by_cases h:c.natAbs=1
  have:ln c=[]:=by unfold ln;rw[if_pos h]
  rw[this,if_pos (show(fi i::r).length=(([]:Str)++fi i::r).length from Z),Int.mul_one]
  have e2:=dC c;rw[h]at e2;simpa only[Int.natCast_one,Int.mul_one]using e2
  have:ln c=decDigits c.natAbs:=by unfold ln;rw[if_neg h]
  rw[this,if_neg h,if_neg (show¬(fi i::r).length=(decDigits c.natAbs++fi i::r).length by have:=lX c.natAbs;rw[cS];omega)]
  exact dC c
 rw[e]
theorem ol{f:Bool}{c:Int}(h0:c≠0)(hc:c.natAbs<100000000):kB (l6 f c++decDigits c.natAbs)=some ([],none,c):=by
 have hd: ∃b q,decDigits c.natAbs=b::q∧(fJ b=true∨mJ b=true):=by
  obtain⟨b,q,h1,h2⟩:=fB c.natAbs []
  rw[List.append_nil]at h1
  exact⟨b,q,h1,.inl h2⟩
 unfold kB
 rw[jV (.inr hd) (fun _=>trivial)]
 simp only
 rw[md hc]
 simp only
 rw[if_neg (show¬([]:Str).length=(decDigits c.natAbs).length by have:=lX c.natAbs;simp only[List.length_nil];omega),dC]
def f1:Nat→List Int→List Int→List Int
  | _,[],ys=>ys
  | i,c::r,ys=>f1 (i+1) r (bR ys i c)
theorem k7{ys:List Int}{i:Nat}:bR ys i 0=ys:=by
 unfold bR
 rw[Int.add_zero]
 apply List.ext_getElem?
 intro j
 rw[List.getElem?_set]
 split
 rename_i h;subst h
 split
 rename_i h;simp[List.getD_eq_getElem?_getD,h]
 rename_i h;rw[List.getElem?_eq_none (by omega)]
 rfl
theorem i8: ∀(xs:List Int) (i:Nat) (f:Bool) (ys:List Int) (c0:Int) (t:Str),i+xs.length≤10→(∀x∈xs,x.natAbs<100000000)→fW (pX f i xs++t) ys c0=fW t (f1 i xs ys) c0
 | [],i,f,ys,c0,t,_,_=>rfl
 | c::r,i,f,ys,c0,t,hi,hx=>by
  rw[pX,f1]
  simp only[er]at hi
  by_cases h:c=0
  rw[if_pos h,i8 r (i+1) f ys c0 t (by omega) (fun x hx'=>hx x (List.mem_cons_of_mem _ hx')),h,k7]
  rw[if_neg h,cM,List.cons_append,jp (oi (by omega) h (hx c (List.mem_cons_self ..))),i8 r (i+1) true _ c0 t (by omega) (fun x hx'=>hx x (List.mem_cons_of_mem _ hx'))]
theorem pP{c:Int}{xs:List Int}(hl:xs.length≤10)(hx: ∀x∈xs,x.natAbs<100000000)(hc:c.natAbs<100000000)(ys:List Int):fW (qh c xs) ys 0=some (f1 0 xs ys,c):=by
 rw[mX]
 unfold tZ
 by_cases h:pX false 0 xs++pK (ne (pX false 0 xs)) c=[]
 rw[if_pos h]
 obtain⟨h1,h2⟩:=List.append_eq_nil_iff.1 h
 have z0:c=0:=by
  unfold pK at h2
  by_cases h0:c=0
  exact h0
  rw[if_neg h0]at h2
  exact absurd (List.append_eq_nil_iff.1 h2).2 (cp _)
 have hp:=i8 xs 0 false ys 0 [] (by omega) hx
 rw[h1,List.append_nil,dK,dK]at hp
 have:kB [48]=some ([],none,0):=by decide
 rw[gu this,dK,z0]
 simp only[dc,Prod.mk.injEq]at hp
 rw[←hp.1];simp
 rw[if_neg h,i8 xs 0 false ys 0 _ (by omega) hx]
 unfold pK
 by_cases h0:c=0
 rw[if_pos h0,dK,h0]
 rw[if_neg h0,gu (ol h0 hc),dK,Int.zero_add]
end Go.Al
/- Terms as texts, in plain Lean: the reference's reader. -/
namespace Go.Al
variable{L:Nat}(h1:4096≤L)(h2:L≤1073741824)
open Go.Lib
def zr(k:Nat):List Int:=List.replicate k 0
theorem lG(k:Nat):zr (k+1)=0::zr k:=rfl
theorem mq(pre:List Int)(k:Nat)(c:Int):bR (pre++zr (k+1)) pre.length c=(pre++[c])++zr k:=by
 unfold bR
 rw[lG]
 simp[List.getD_eq_getElem?_getD]
theorem iS: ∀(xs pre:List Int) (k:Nat),xs.length≤k→f1 pre.length xs (pre++zr k)=(pre++xs)++zr (k-xs.length)
 | [],pre,k,_=>by simp[f1]
 | c::r,pre,k,h=>by
  simp only[er]at h
  obtain⟨j,rfl⟩: ∃j,k=j+1:=⟨k-1,by omega⟩
  rw[f1,mq,show pre.length+1=(pre++[c]).length by simp,iS r (pre++[c]) j (by omega)]
  simp[Nat.add_sub_add_right]
theorem nC{xs:List Int}(h:xs.length≤10):f1 0 xs (zr 10)=xs++zr (10-xs.length):=by
 have:=iS xs [] 10 h
 simpa using this
def cN:Str→List Int→Int→Int→Int→Option (List Int×Int)
  | [],xs,c,n,sg=>some (xs,if 0≤n then sg*n else c)
  | b :: r,xs,c,n,sg=>
    if fJ b then(if 2000000<n then none else cN r xs c (10*max n 0+(b.toNat-48:Int)) sg)
    else if mJ b then cN r (xs.set (b.toNat-97) (sg*(if n<0 then 1 else n))) c (-1) sg
    else if b=43∨b=45 then cN r xs (if 0≤n then sg*n else c) (-1) (if b=45 then -1 else 1)
    else none
theorem lN{d:Nat}(h:d<10){r:Str}{xs:List Int}{c n sg:Int}(hn:n≤2000000):cN (UInt8.ofNat (48+d)::r) xs c n sg=cN r xs c (10*max n 0+d) sg:=by
 rw[cN,if_pos (by unfold fJ;rw[bq h];simp;omega),if_neg (by omega),bq h]
 congr 1;omega
theorem lO(m:Nat): ∀(r:Str) (xs:List Int) (c sg:Int),m<20000000→cN (decDigits m++r) xs c (-1) sg=cN r xs c m sg:=by
 induction m using Nat.strongRecOn with
 | _ m ih=>
  intro r xs c sg hm
  rw[decDigits]
  by_cases h:m<10
  rw[dif_pos h,List.singleton_append,lN h (by decide)]
  congr 1;omega
  rw[dif_neg h,cM,List.singleton_append,ih (m/10) (by omega) _ _ _ _ (by omega),lN (Nat.mod_lt _ (by decide)) (by omega)]
  congr 1;omega
theorem oo{f:Bool}{n:Int}{r:Str}{xs:List Int}{c sg:Int}(h:f=false→sg=1):cN (l6 f n++r) xs c (-1) sg=cN r xs c (-1) (if n<0 then -1 else 1)∨(f=false∧0≤n∧l6 f n=[]):=by
 unfold l6
 by_cases hn:n<0
 left
 rw[if_pos hn,if_pos hn,List.singleton_append,cN,if_neg (by decide),if_neg (by decide),if_pos (by decide),if_neg (by decide),if_pos Z]
 rw[if_neg hn,if_neg hn]
 cases f with
 | false=>right;exact⟨rfl,by omega,rfl⟩
 | true=>
  left
  rw[if_pos Z,List.singleton_append,cN,if_neg (by decide),if_neg (by decide),if_pos (by decide),if_neg (by decide),if_neg (by decide)]
theorem m9{f:Bool}{n:Int}{r:Str}{xs:List Int}{c sg:Int}(h:f=false→sg=1):cN (l6 f n++r) xs c (-1) sg=cN r xs c (-1) (if n<0 then -1 else 1):=by
 rcases oo (n:=n) (r:=r) (xs:=xs) (c:=c) h with e|⟨hf,hn,e⟩
 exact e
 rw[e,List.nil_append,h hf,if_neg (by omega)]
theorem ki{i:Nat}(h:i<10): ¬fJ (fi i)=true:=by rw[jA h];decide
theorem oq{n:Int}{i:Nat}(hi:i<10)(hn:n.natAbs<20000000){r:Str}{xs:List Int}{c sg:Int}:cN (ln n++fi i::r) xs c (-1) sg=cN r (xs.set i (sg*n.natAbs)) c (-1) sg:=by
 unfold ln
 by_cases h:n.natAbs=1
 rw[if_pos h,List.nil_append,cN,if_neg (ki hi),if_pos (gv hi),eA hi,Nat.add_sub_cancel_left,h];rfl
 rw[if_neg h,lO _ _ _ _ _ hn,cN,if_neg (ki hi),if_pos (gv hi),eA hi,Nat.add_sub_cancel_left,if_neg (by omega)]
theorem kF: ∀(xs:List Int) (f:Bool) (pre:List Int) (k:Nat) (c sg:Int) (t:Str),xs.length≤k→pre.length+k≤10→(∀x∈xs,x.natAbs<20000000)→(f=false→sg=1)→
    ∃sg',((f||ne (pX f pre.length xs))=false→sg'=1)∧cN (pX f pre.length xs++t) (pre++zr k) c (-1) sg=cN t ((pre++xs)++zr (k-xs.length)) c (-1) sg'
 | [],f,pre,k,c,sg,t,_,_,_,h=>⟨sg,fun hf=>h (by cases f<;>simp_all[pX,ne]),by simp[pX]⟩
 | x::r,f,pre,k,c,sg,t,hk,hp,hx,h=>by
  simp only[er]at hk
  obtain⟨j,rfl⟩: ∃j,k=j+1:=⟨k-1,by omega⟩
  have hx2: ∀y∈r,y.natAbs<20000000:=fun y hy=>hx y (List.mem_cons_of_mem _ hy)
  rw[pX]
  by_cases h0:x=0
  rw[if_pos h0]
  obtain⟨sg',h1,h2⟩:=kF r f (pre++[0]) j c sg t (by omega) (by simp;omega) hx2 h
  refine⟨sg',?_,?_⟩
  simpa using h1
  rw[h0]
  simp only[cS,List.length_singleton,cM,List.singleton_append]at h2 ⊢
  rw[show(pre++zr (j+1))=pre++0::zr j from Z,h2]
  simp[Nat.add_sub_add_right]
  rw[if_neg h0,cM,cM,m9 h,cM,List.cons_append,oq (by omega) (hx x (List.mem_cons_self ..)),dC]
  have e:(pre++zr (j+1)).set pre.length x=(pre++[x])++zr j:=by rw[lG];simp
  rw[e]
  obtain⟨sg',h1,h2⟩:=kF r true (pre++[x]) j c (if x<0 then -1 else 1) t (by omega) (by simp;omega) hx2 (by simp)
  refine⟨sg',fun hf=>?_,?_⟩
  simp[ne]at hf
  simp only[cS,List.length_singleton,cM,List.singleton_append]at h2 ⊢
  rw[h2]
  simp[Nat.add_sub_add_right]
theorem pI{c:Int}{xs:List Int}(hl:xs.length≤10)(hx: ∀x∈xs,x.natAbs<20000000)(hc:c.natAbs<20000000):cN (qh c xs) (zr 10) 0 (-1) 1=some (xs++zr (10-xs.length),c):=by
 rw[mX]
 unfold tZ
 obtain⟨sg',h1,h2⟩:=kF xs false [] 10 0 1 (if pX false 0 xs++pK (ne (pX false 0 xs)) c=[]then[48]else pK (ne (pX false 0 xs)) c) hl (by simp) hx (fun _=>rfl)
 simp only[List.length_nil,List.nil_append]at h2
 by_cases h:pX false 0 xs++pK (ne (pX false 0 xs)) c=[]
 obtain⟨h3,h4⟩:=List.append_eq_nil_iff.1 h
 rw[if_pos h]
 rw[if_pos h,h3,List.nil_append]at h2
 rw[h2]
 have z0:c=0:=by
  unfold pK at h4
  by_cases h0:c=0
  exact h0
  rw[if_neg h0]at h4
  exact absurd (List.append_eq_nil_iff.1 h4).2 (cp _)
 rw[cN,if_pos (by decide),if_neg (by decide),cN,z0,show(10*max (-1:Int) 0+(((48:UInt8).toNat:Int)-48))=0 from by decide]
 simp
 rw[if_neg h]at h2 ⊢
 rw[h2]
 unfold pK
 by_cases h0:c=0
 rw[if_pos h0,cN,h0];simp
 rw[if_neg h0,m9 (fun hf=>h1 (by simpa using hf)),←List.append_nil (decDigits _),lO _ _ _ _ _ hc,cN,if_pos (by omega),dC]
end Go.Al
/- Sequents as texts, in plain Lean: cutting and splitting; both readers accept just the written sequents. -/
namespace Go.Al
variable{L:Nat}(h1:4096≤L)(h2:L≤1073741824)
open Go.Lib
def aC(c:UInt8):Str→List Str
  | []=>[[]]
  | b::r=>if b=c then[]::aC c r else(b::(aC c r).headD [])::(aC c r).tail
theorem m5(c:UInt8)(s:Str):aC c s≠[]:=by
 cases s with
 | nil=>simp[aC]
 | cons b r=>rw[aC];split<;>simp
theorem mj(c b:UInt8)(l:Str):index (b::l) [c]=if b=c then 0 else if index l [c]= -1 then -1 else index l [c]+1:=by
 rw[index]
 by_cases h:b=c
 subst h;simp
 have h2:([c].isPrefixOf (b::l))=false:=by simp[List.isPrefixOf,Ne.symm h]
 rw[h2,if_neg h];simp
theorem dq(c:UInt8): ∀s:Str,split s [c]=aC c s
 | []=>by
  have:index ([]:Str) [c]= -1:=rfl
  unfold split
  rw[count_miss this];rfl
 | b::l=>by
  have ih:=dq c l
  unfold split at ih ⊢
  have hi:=mj c b l
  by_cases h:b=c
  rw[if_pos h]at hi
  rw[count_hit (i:=0) (by simp) (by rw[hi];rfl),Nat.add_comm 1,splitK,hi,aC,if_pos h]
  simp only[show((0:Int)== -1)=false from Z]
  simp only[Bool.false_eq_true,if_false]
  simp[ih]
  rw[if_neg h]at hi
  rw[aC,if_neg h]
  by_cases h2:index l [c]= -1
  rw[if_pos h2]at hi
  rw[count_miss hi]
  rw[count_miss h2]at ih
  rw[←ih];rfl
  rw[if_neg h2]at hi
  have hge:=index_ge l [c]
  obtain⟨i,hi2⟩: ∃i:Nat,index l [c]=i:=⟨(index l [c]).toNat,by omega⟩
  rw[hi2]at hi
  rw[count_hit (i:=i) (by simp) hi2,Nat.add_comm 1,splitK,hi2]at ih
  rw[count_hit (i:=i+1) (by simp) (by rw[hi];rfl),Nat.add_comm 1,splitK,hi]
  have e1:((i:Int)== -1)=false:=by rw[beq_eq_false_iff_ne];omega
  have e2:(((i:Int)+1)== -1)=false:=by rw[beq_eq_false_iff_ne];omega
  rw[e1]at ih
  rw[e2]
  simp only[Bool.false_eq_true,if_false,Int.toNat_natCast,Nat.add_zero]at ih ⊢
  rw[←ih]
  have e3:((i:Int)+1).toNat=i+1:=by omega
  simp[e3]
theorem lJ{c:UInt8}: ∀{p:Str} (r:Str),c ∉ p→aC c (p++c::r)=p::aC c r
 | [],r,_=>by rw[List.nil_append,aC,if_pos Z]
 | b::p,r,h=>by
  rw[List.cons_append,aC,if_neg (fun e=>h (by rw[e];exact List.mem_cons_self ..)),lJ r (fun hh=>h (List.mem_cons_of_mem _ hh))]
  rfl
def gD(c:UInt8):List Str→Str
  | []=>[]
  | p::r=>p++c::gD c r
theorem jT(c:UInt8): ∀s:Str,∃ps q,aC c s=ps++[q]∧s=gD c ps++q∧c ∉ q∧∀p∈ps,c ∉ p
 | []=>⟨[],[],rfl,rfl,by simp,by simp⟩
 | b :: r=>by
  obtain⟨ps,q,h1,h2,h3,h4⟩:=jT c r
  rw[aC]
  by_cases h:b=c
  rw[if_pos h,h1]
  exact⟨[]::ps,q,Z,by rw[h2,h];rfl,h3,by simpa using h4⟩
  rw[if_neg h,h1]
  cases ps with
  | nil=>exact⟨[],b::q,Z,by rw[h2];rfl,by simp only[List.mem_cons,not_or];exact⟨Ne.symm h,h3⟩,by simp⟩
  | cons p ps=>
   refine⟨(b::p)::ps,q,Z,by rw[h2];rfl,h3,?_⟩
   intro x hx
   rcases List.mem_cons.1 hx with rfl|hx
   simp only[List.mem_cons,not_or];exact⟨Ne.symm h,h4 p (List.mem_cons_self ..)⟩
   exact h4 x (List.mem_cons_of_mem _ hx)
abbrev bp:Str:=[61,62]
section
variable{T:Type}(tx:T→Str)(ok:T→Bool)(rd:Str→Option T)
def aI : List Str→Option (List T)
  | []=>some []
  | s :: r=>match rd s with
    | none=>none
    | some t=>match aI r with
      | none=>none
      | some ts=>some (t::ts)
variable{tx ok rd}
theorem fR(hrd: ∀s t,rd s=some t↔ok t=true∧s=tx t): ∀{ss:List Str} {ts:List T},aI rd ss=some ts↔(∀t∈ts,ok t=true)∧ss=ts.map tx
 | [],ts=>by
  rw[aI]
  constructor
  intro h;cases h;simp
  rintro⟨_,h⟩;cases ts with
  | nil=>rfl
  | cons _ _=>cases h
 | s :: r,ts=>by
  rw[aI]
  constructor
  intro h
  split at h
  cases h
  rename_i t ht
  split at h
  cases h
  rename_i ts' hts
  cases h
  obtain⟨h1,h2⟩:=(fR hrd).1 hts
  obtain⟨h3,h4⟩:=(hrd s t).1 ht
  refine⟨fun x hx=>?_,by rw[h2,h4];rfl⟩
  rcases List.mem_cons.1 hx with rfl|hx
  exact h3
  exact h1 x hx
  rintro⟨h1,h2⟩
  cases ts with
  | nil=>cases h2
  | cons t ts=>
   simp only[List.map_cons,List.cons.injEq]at h2
   rw[(hrd s t).2 ⟨h1 t (List.mem_cons_self ..),h2.1⟩,(fR hrd).2 ⟨fun x hx=>h1 x (List.mem_cons_of_mem _ hx),h2.2⟩]
end
end Go.Al
/- Terms and sequents as texts: what both readers accept. -/
namespace Go.Al
variable{L:Nat}(h1:4096≤L)(h2:L≤1073741824)
open Go.Lib
abbrev tS(t:Tm):Str:=qh t.c t.xs
theorem jj{xs:List Int}: ∀k,bh (xs++zr k)=bh xs
 | 0=>by simp[zr]
 | k+1=>by
  have:zr (k+1)=zr k++[0]:=List.replicate_succ'
  rw[this,←cM,iL,jj k]
theorem lI{t:Tm}(h:t.ok=true):bh t.xs=t.xs:=by
 have h1:=(sq.1 h).2.2.2
 have:=fP (xs:=t.xs) (n:=t.xs.length) (bD _) (by
  rcases h1 with h1|h1
  · left;rw[h1];rfl
  · exact .inr h1)
 simpa using this
theorem lT{n:Int}(h:iw n=true):n.natAbs≤1000000:=by
 have:=rH.1 h;omega
theorem i9{t:Tm}(h:t.ok=true):t.c.natAbs≤1000000∧(∀x∈t.xs,x.natAbs≤1000000)∧t.xs.length≤10:=by
 obtain⟨h1,h2,h3,_⟩:=sq.1 h
 exact⟨lT h1,fun x hx=>lT (List.all_eq_true.1 h2 x hx),h3⟩
def fj(s:Str):Option Tm:=match fW s (zr 10) 0 with
  | none=>none
  | some x=>if(Tm.mk x.2 (bh x.1)).ok=true∧tS ⟨x.2,bh x.1⟩=s then some ⟨x.2,bh x.1⟩else none
theorem jm(s:Str)(t:Tm):fj s=some t↔t.ok=true∧s=tS t:=by
 unfold fj
 constructor
 intro h
 split at h
 cases h
 split at h
 rename_i hc
 cases h
 exact⟨hc.1,hc.2.symm⟩
 cases h
 rintro⟨h1,rfl⟩
 obtain⟨h2,h3,h4⟩:=i9 h1
 rw[pP h4 (fun x hx=>by have:=h3 x hx;omega) (by omega),nC h4]
 simp only
 rw[jj,lI h1,if_pos ⟨h1,rfl⟩]
def l7(s:Str):Option Tm:=match cN s (zr 10) 0 (-1) 1 with
  | none=>none
  | some x=>if(ix x.2 x.1).2=true∧tS (ix x.2 x.1).1=s then some (ix x.2 x.1).1 else none
theorem lM(s:Str)(t:Tm):l7 s=some t↔t.ok=true∧s=tS t:=by
 unfold l7
 constructor
 intro h
 split at h
 cases h
 split at h
 rename_i hc
 cases h
 exact⟨nf hc.1,hc.2.symm⟩
 cases h
 rintro⟨h1,rfl⟩
 obtain⟨h2,h3,h4⟩:=i9 h1
 rw[pI h4 (fun x hx=>by have:=h3 x hx;omega) (by omega)]
 simp only
 have:ix t.c (t.xs++zr (10-t.xs.length))=(t,true):=by
  unfold ix
  rw[jj,lI h1,if_pos h1]
 rw[this,if_pos ⟨rfl,rfl⟩]
theorem o9(s:Str):fj s=l7 s:=by
 cases h:fj s with
 | some t=>exact((lM s t).2 ((jm s t).1 h)).symm
 | none=>
  cases h2:l7 s with
  | none=>rfl
  | some t=>rw[(jm s t).2 ((lM s t).1 h2)]at h;cases h
theorem gA{m:Nat}(h:m≤1000000):(decDigits m).length≤7:=by
 rw[decDigits_eq,cz,List.length_range]
 exact dP (k:=6) (by omega)
theorem jk: ∀(xs:List Int) (i:Nat) (c:Int) (out:Str),tX i (xs++[c]) out=tC (tX i xs out) (i+xs.length) c
 | [],i,c,out=>by simp[tX]
 | x::r,i,c,out=>by
  rw[List.cons_append,tX,jk r,tX,er,show i+1+r.length=i+(r.length+1) by omega]
abbrev aS8(s:Str):A:=.c (.d (sD s))
theorem lY{m:Nat}(h:m<100000000000000000000):(Lib.decDigits m).length≤20:=by
 rw[Lib.decDigits_eq,cz,List.length_range]
 exact dP (k:=19) (by omega)
def go(m:Int):Str:=if m<0 then Lib.decDigits m.natAbs else[]
theorem mZ{m:Int}(h:m<0):m.tdiv 10= -((m.natAbs/10:Nat):Int)∧m.tmod 10= -((m.natAbs%10:Nat):Int):=by
 obtain⟨k,hk⟩: ∃k:Nat,m= -(k:Int):=⟨m.natAbs,by omega⟩
 subst hk
 rw[Int.neg_tdiv,Int.neg_tmod,Int.natAbs_neg,Int.natAbs_natCast]
 exact⟨by rw[show(10:Int)=((10:Nat):Int)from Z,←Int.ofNat_tdiv],by rw[show(10:Int)=((10:Nat):Int)from Z,←Int.ofNat_tmod]⟩
theorem me{m:Int}(h:m<0):go m=go (m.tdiv 10)++[UInt8.ofNat (48-m.tmod 10).toNat]:=by
 have e1:(m.tdiv 10).natAbs=m.natAbs/10:=by rw[Int.natAbs_tdiv];rfl
 have h3:=mZ h
 have e2:(48-m.tmod 10).toNat=48+m.natAbs%10:=by omega
 unfold go
 rw[if_pos h,Lib.decDigits,e1,e2]
 by_cases h2:m.natAbs<10
 rw[dif_pos h2,if_neg (by omega),Nat.mod_eq_of_lt h2];rfl
 rw[dif_neg h2,if_pos (by omega)]
theorem nJ{n:Int}(h:0<n):Lib.itoa n=go (-n):=by
 unfold Lib.itoa go
 rw[if_neg (by omega),if_pos (by omega)]
 congr 1;omega
theorem mi:Lib.itoa 0=[48]:=by
 unfold Lib.itoa
 rw[if_neg (by decide),Lib.decDigits,dif_pos (by decide)];rfl
theorem nK{n:Int}(h:n<0):Lib.itoa n=45::go n:=by
 unfold Lib.itoa go
 rw[if_pos h,if_pos h]
theorem j1{n:Int}(h: -9223372036854775808≤n):(go n).length≤20:=by
 unfold go
 split
 exact lY (by omega)
 simp
theorem lH{n:Int}(h0:0≤n)(h1:n≤255):IntKind.u8.wrap n=n:=cP _ _ h0 h1
theorem pA{n:Int}(h0:0≤n)(h1:n≤255):((UInt8.ofNat n.toNat).toNat:Int)=n:=by
 rw[UInt8.toNat_ofNat'];omega
variable{n:Int}
theorem lB(hn0: -9223372036854775807≤n)(hn1:n≤9223372036854775807):MQ h1 h2 85 [eI n] [] (Plain (aS8 (Lib.itoa n))):=by
 refine aA ?_ Z
 refine jB 29 h1 h2 Tryd.func85 Z fun O hF=>?_
 refine ac (js Z (jn (ag (ac (ae Z (jn (ak Z (fun z6=>?_) (fun z6=>?_))))))))
 refine ac (js Z (jr ?_))
 refine az Z ?_
 have h0:n=0:=bf z6
 rw[h0,mi];rfl
 refine af (ac (ae Z (jf [3,5,2,0] Z (jn (ag (ac (ae Z (jn ?_))))))))
 have hne:n≠0:=bB z6
 obtain⟨N,hN⟩: ∃N:Int,N=if 0<n then -n else n:=⟨_,rfl⟩
 have hN2:N<0∧ -9223372036854775808≤N:=by rw[hN];split<;>omega
 refine bk ⟨[(0,eI n),(3,eI N)],[]⟩ ?_ ?_
 refine ak Z (fun z9=>?_) (fun z9=>?_)
 refine ab (js Z (ji Z (js Z (jf [3,8,5,2,0] Z (jn ?_)))))
 exact⟨Z,Ent.to ⟨Z,congrArg (fun z=>some (eI z)) (show 0-n=N by rw[hN,if_pos (bf z9)];omega),aq⟩ Z⟩
 refine af ?_
 exact⟨Z,Ent.to ⟨Z,congrArg (fun z=>some (eI z)) (show n=N by rw[hN,if_neg (bB z9)]),aq⟩ Z⟩
 refine ac (js Z (jn (ag (am (ax (X:=Int×Str) (fun z=>⟨[(0,eI n),(3,eI z.1),(4,aS8 z.2)],[]⟩) (fun z=>z.1≤0∧ -9223372036854775808≤z.1∧go N=go z.1++z.2) (fun z=>z.1.natAbs) (N,[]) (Ent.to ⟨Z,Z,Z,aq⟩ Z) ?_ (fun z hi=>?_))))))
 exact⟨by show N≤0;omega,hN2.2,by simp⟩
 refine ag (ac (ae Z (jn (ak Z (fun z13=>?_) (fun z13=>?_)))))
 refine af (am (ac (js Z ?_)))
 have hz:z.1<0:=bf z13
 have h3:=mZ hz
 have hr: -9≤z.1.tmod 10∧z.1.tmod 10≤0:=by omega
 have hlen:z.2.length≤20:=by have h:=j1 hN2.2;rw[hi.2.2,cS]at h;omega
 refine aa (mu O Z Z Z Z (by decide) (by omega) (by omega)) Z (aa (aM O Z Z (by omega) (by omega)) Z (aa ((Val.conv (b:=true) (dt:=.int .i64) O Z Z Z (by kernel_rfl) (by kernel_rfl)).cast (v':=.c (.d (.int .u8 ((UInt8.ofNat (48-z.1.tmod 10).toNat).toNat:Int)))) (by rw[lH (by omega) (by omega),pA (by omega) (by omega)])) Z (jf [17,13,12,0,3,4] Z (bc (dj O Z Z Z Z Z Z Z Z Z Z Z) Z (aD ?_)))))
 refine aa (ik (p:=[UInt8.ofNat (48-z.1.tmod 10).toNat]) O Z Z Z (.whole Z Z (.inl (km _))) Z Z (by kernel_rfl) (by kernel_rfl)) Z (js Z (aa (aW (p:=[UInt8.ofNat (48-z.1.tmod 10).toNat]) (q:=z.2) O Z Z Z Z Z Z (by show 1+z.2.length≤L;omega) (by show L≤_;omega)) Z (js Z (jf [4,13,12,0,3] Z (jn (ab (js Z (aa (mv O Z Z Z Z (by decide) (by omega) (by omega)) Z (js Z (jf [3,4,13,12,0] Z (jn ?_)))))))))))
 refine⟨(z.1.tdiv 10,UInt8.ofNat (48-z.1.tmod 10).toNat::z.2),(aE [] (e':=[(0,_),(3,_),(4,_)]) Z Z ⟨Z,Z,Z,aq⟩ Z),⟨by show z.1.tdiv 10≤0;omega,by show -9223372036854775808≤z.1.tdiv 10;omega,?_⟩,by show(z.1.tdiv 10).natAbs<z.1.natAbs;omega⟩
 rw[hi.2.2,me hz];simp
 refine aZ (ag (ac (js Z ?_)))
 have hz0:z.1=0:=by have:=bB z13;omega
 have hp:=hi.2.2
 rw[hz0,show go 0=[]from Z,List.nil_append]at hp
 have hlen:z.2.length≤20:=by have h:=j1 hN2.2;rw[hp]at h;exact h
 refine js Z (jn (ak Z (fun z25=>?_) (fun z25=>?_)))
 refine ac (js Z (aa (aW (p:=[45]) (q:=z.2) O Z Z Z Z Z Z (by show 1+z.2.length≤L;omega) (by show L≤_;omega)) Z (js Z (jf [2,25,24,13,12,0,3,4] Z (jr ?_)))))
 refine az Z ?_
 have hn:n<0:=bf z25
 rw[nK hn,show n=N by rw[hN,if_neg (by omega)],hp];rfl
 refine af (ac (ae Z (jr ?_)))
 refine az Z ?_
 have hn: ¬n<0:=bB z25
 rw[nJ (by omega),show -n=N by rw[hN,if_pos (by omega)],hp]
def oI(t:Tm)(i:Nat):Str:=if i≤t.xs.length then tX 0 (t.xs.take i) []else tK (tX 0 t.xs []) t.c
def oS(o:Str)(n:Int)(nm:Str):Str:=if n=0 then o else o++db o n++(if n.natAbs=1∧nm≠[]then[]else Lib.decDigits n.natAbs)++nm
theorem pR{t:Tm}{i:Nat}(h:i<t.xs.length):oI t (i+1)=oS (oI t i) (t.xs.getD i default) [fi i]:=by
 unfold oS
 rw[show oI t (i+1)=tX 0 (t.xs.take (i+1)) []from if_pos (by omega),show oI t i=tX 0 (t.xs.take i) []from if_pos (by omega),List.take_succ_eq_append_getElem h,jk,List.length_take,Nat.min_eq_left (by omega),Nat.zero_add,av h]
 unfold tC
 simp
theorem pS{t:Tm}:oI t (t.xs.length+1)=oS (oI t t.xs.length) t.c []:=by
 unfold oS
 rw[show oI t (t.xs.length+1)=tK (tX 0 t.xs []) t.c from if_neg (by omega),show oI t t.xs.length=tX 0 (t.xs.take t.xs.length) []from if_pos (bD _),List.take_length]
 unfold tK
 simp
theorem gL{o:Str}{n:Int}:(db o n).length≤1:=by
 unfold db
 split
 simp
 split<;>simp
theorem dA(a:Nat):Lib.itoa (a:Int)=Lib.decDigits a:=by
 unfold Lib.itoa
 rw[if_neg (by omega),Int.toNat_natCast]
theorem oT{t:Tm}:tS t=tZ (oI t (t.xs.length+1)):=by
 unfold oI;rw[if_neg (by omega)];rfl
variable{t:Tm}
theorem pj(ht:t.ok=true):MQ h1 h2 76 [ptr t.cells] [] (Plain (aS8 (tS t))):=by
 refine aA ?_ Z
 refine jB 67 h1 h2 Tryd.func76 Z fun O hF=>?_
 obtain⟨z6,hx6,hl10⟩:=i9 ht
 have hl:t.xs.length≤L:=by omega
 refine ac (js Z (bM (js Z (jn (ag (ac (js Z (jn (am (ax (X:=Nat×Str) (fun z=>⟨[(0,ptr t.cells),(3,aS8 z.2),(4,eI (z.1:Nat))],[]⟩) (fun z=>z.1≤t.xs.length+1∧z.2=oI t z.1∧z.2.length≤9*z.1) (fun z=>t.xs.length+1-z.1) (0,[]) (Ent.to ⟨Z,Z,Z,aq⟩ Z) ?_ (fun z hi=>?_)))))))))))
 exact⟨dU _,by show[]=oI t 0;unfold oI;simp[tX],bD _⟩
 refine ag (ac (bn Z (js Z ?_)))
 first|refine et Z ?_|refine js Z ?_|refine bv Z Z ?_
 refine js Z (jf [13,0,3,4] Z (jn (ak Z (fun z13=>?_) (fun z13=>?_))))
 refine af (ag (am (ac (bn Z (js Z (jf [5,13,0,3,4] Z (bM (js Z (jn (ag (ac (bn Z (js Z ?_)))))))))))))
 first|refine et Z ?_|refine js Z ?_|refine bv Z Z ?_
 refine js Z (jf [26,6,5,13,0,3,4] Z (jn ?_))
 have hz1:z.1≤t.xs.length:=by have:=bf z13;omega
 obtain⟨n,nm,hn1,hn2⟩: ∃(n:Int) (nm:Str),(z.1<t.xs.length→n=t.xs.getD z.1 default∧nm=[fi z.1])∧(¬z.1<t.xs.length→n=t.c∧nm=[]):=by
  by_cases h:z.1<t.xs.length
  exact⟨_,_,fun _=>⟨Z,Z⟩,fun h2=>absurd h h2⟩
  exact⟨_,_,fun h2=>absurd h2 h,fun _=>⟨Z,Z⟩⟩
 have hstep:oI t (z.1+1)=oS z.2 n nm:=by
  rw[hi.2.1]
  by_cases h:z.1<t.xs.length
  rw[(hn1 h).1,(hn1 h).2,pR h]
  rw[(hn2 h).1,(hn2 h).2,show z.1=t.xs.length by omega,pS]
 have hna:n.natAbs≤1000000∧nm.length≤1:=by
  by_cases h:z.1<t.xs.length
  rw[(hn1 h).1,(hn1 h).2,av h];exact⟨hx6 _ (List.getElem_mem h),by simp⟩
  rw[(hn2 h).1,(hn2 h).2];exact⟨z6,by simp⟩
 refine bk ⟨[(0,ptr t.cells),(3,aS8 z.2),(4,eI (z.1:Nat)),(5,eI n),(6,aS8 nm)],[]⟩ ?_ ?_
 refine ak Z (fun z26=>?_) (fun z26=>?_)
 refine ac ?_
 have hc26t:z.1<t.xs.length:=by have:=bf z26;omega
 refine bn Z (js Z ?_)
 first|refine rL Z Z ?_|refine n3 Z Z ?_|refine bv Z Z ?_
 refine ae Z (jf [5,26,6,13,0,3,4] Z (jn (ab (js Z ?_))))
 first|refine ji Z ?_|refine bv Z Z ?_
 refine aa ((Val.conv (b:=true) (dt:=.int .i64) O Z Z Z (by kernel_rfl) (by kernel_rfl)).cast (v':=.c (.d (.int .u8 ((fi z.1).toNat:Int)))) (by rw[lH (by omega) (by omega),eA (by omega)];rfl)) Z (jf [36,5,26,6,13,0,3,4] Z (bc (dj O Z Z Z Z Z Z Z Z Z Z Z) Z (aD ?_)))
 refine aa (ik (p:=[fi z.1]) O Z Z Z (.whole Z Z (.inl (km _))) Z Z (by kernel_rfl) (by kernel_rfl)) Z (js Z (jf [6,5,26,13,0,3,4] Z (jn ?_)))
 exact⟨Z,(aE [] (e':=[(0,_),(3,_),(4,_),(5,_),(6,_)]) Z Z ⟨Z,Z,Z,Z,Z,aq⟩ Z).trans (Ent.to ⟨Z,Z,Z,congrArg (fun z=>some (eI z)) ((hn1 hc26t).1.symm),congrArg (fun s=>some (aS8 s)) ((hn1 hc26t).2.symm),aq⟩ Z)⟩
 refine af ?_
 have hc26t: ¬z.1<t.xs.length:=by have:=bB z26;omega
 exact⟨Z,(aE [] (e':=[(0,_),(3,_),(4,_),(5,_),(6,_)]) Z Z ⟨Z,Z,Z,Z,Z,aq⟩ Z).trans (Ent.to ⟨Z,Z,Z,congrArg (fun z=>some (eI z)) ((hn2 hc26t).1.symm),congrArg (fun s=>some (aS8 s)) ((hn2 hc26t).2.symm),aq⟩ Z)⟩
 refine ag (ac (ae Z (jn (ak Z (fun z40=>?_) (fun z40=>?_)))))
 refine aZ (ab (js Z ?_))
 first|refine ji Z ?_|refine bv Z Z ?_
 refine js Z (jf [4,40,39,0,3,5,6] Z (jn ?_))
 have hst:oI t (z.1+1)=z.2:=by rw[hstep];unfold oS;rw[if_pos (bf z40)]
 refine⟨(z.1+1,z.2),(aE [] (e':=[(0,_),(3,_),(4,_)]) Z Z ⟨Z,Z,Z,aq⟩ Z),⟨by show z.1+1≤_;omega,hst.symm,by show z.2.length≤9*(z.1+1);omega⟩,by show t.xs.length+1-(z.1+1)<t.xs.length+1-z.1;omega⟩
 refine af (ag (ac (ae Z (jn ?_))))
 obtain⟨o2,ho2⟩: ∃o,o=z.2++db z.2 n:=⟨_,rfl⟩
 obtain⟨a,ha⟩: ∃a:Nat,a=n.natAbs:=⟨_,rfl⟩
 have hzl:z.2.length≤99:=by have:=hi.2.2;omega
 have h2l:o2.length≤z.2.length+1:=by have:=gL (o:=z.2) (n:=n);rw[ho2,cS];omega
 refine bk ⟨[(0,ptr t.cells),(3,aS8 o2),(4,eI (z.1:Nat)),(5,eI (a:Nat)),(6,aS8 nm)],[]⟩ ?_ ?_
 refine ak Z (fun z42=>?_) (fun z42=>?_)
 refine ac (js Z (aa (aW (p:=z.2) (q:=[45]) O Z Z Z Z Z Z (by show z.2.length+1≤L;omega) (by show L≤_;omega)) Z (js Z (jf [3,42,41,40,39,0,4,5,6] Z (jn (ab (js Z (ji Z (js Z (jf [5,3,42,41,40,39,0,4,6] Z (jn ?_)))))))))))
 exact⟨Z,(aE [] (e':=[(0,_),(3,_),(4,_),(5,_),(6,_)]) Z Z ⟨Z,Z,Z,Z,Z,aq⟩ Z).trans (Ent.to ⟨Z,congrArg (fun s=>some (aS8 s)) (show z.2++[45]=o2 by rw[ho2];unfold db;rw[if_pos (bf z42)]),Z,congrArg (fun z=>some (eI z)) (show 0-n=(a:Int) by have:=bf z42;omega),Z,aq⟩ Z)⟩
 refine ac (js Z (aa (dN (p:=z.2) (q:=[]) O Z Z Z Z Z Z) Z (jn (ak Z (fun z48=>?_) (fun z48=>?_)))))
 refine ab (js Z (aa (aW (p:=z.2) (q:=[43]) O Z Z Z Z Z Z (by show z.2.length+1≤L;omega) (by show L≤_;omega)) Z (js Z (jf [3,48,47,42,41,40,39,0,4,5,6] Z (jn ?_)))))
 exact⟨Z,(aE [] (e':=[(0,_),(3,_),(4,_),(5,_),(6,_)]) Z Z ⟨Z,Z,Z,Z,Z,aq⟩ Z).trans (Ent.to ⟨Z,congrArg (fun s=>some (aS8 s)) (show z.2++[43]=o2 by rw[ho2];unfold db;rw[if_neg (bB z42),if_neg (by simpa using z48)]),Z,congrArg (fun z=>some (eI z)) (show n=(a:Int) by have:=bB z42;omega),Z,aq⟩ Z)⟩
 refine af ?_
 exact⟨Z,(aE [] (e':=[(0,_),(3,_),(4,_),(5,_),(6,_)]) Z Z ⟨Z,Z,Z,Z,Z,aq⟩ Z).trans (Ent.to ⟨Z,congrArg (fun s=>some (aS8 s)) (show z.2=o2 by rw[ho2];unfold db;rw[if_neg (bB z42),if_pos (by simpa using z48),List.append_nil]),Z,congrArg (fun z=>some (eI z)) (show n=(a:Int) by have:=bB z42;omega),Z,aq⟩ Z)⟩
 refine ag (ac (aP Z (jf [53,0,3,4,5,6] Z (ar 2 Z Z Z (fun hx=>ap hx Z (bg hx (Val.seq (p:=nm) (q:=[]) O Z Z Z Z Z Z) Z (AN.nil))) Z Z ?_))))
 first|refine aa (ao O Z Z Z Z Z) Z ?_|refine aa (Val.pickB O Z Z Z Z Z) Z ?_|refine aa (aj O Z Z Z Z Z) Z ?_
 refine jf [56,0,3,4,5,6] Z (jn ?_)
 obtain⟨o3,ho3⟩: ∃o,o=o2++(if a=1∧nm≠[]then[]else Lib.decDigits a):=⟨_,rfl⟩
 have hdl:(Lib.decDigits a).length≤7:=gA (by omega)
 have h3l:o3.length≤o2.length+7:=by rw[ho3,cS];split<;>simp<;>omega
 refine bk ⟨[(0,ptr t.cells),(3,aS8 o3),(4,eI (z.1:Nat)),(5,eI (a:Nat)),(6,aS8 nm)],[]⟩ ?_ ?_
 refine ak Z (fun z56=>?_) (fun z56=>?_)
 refine ab (ae Z (cH Z (lB (n:=(a:Int)) h1 h2 (by omega) (by omega)) 60000 Z (aa (aW (p:=o2) (q:=Lib.itoa (a:Int)) O Z Z Z Z Z Z (by rw[dA];show o2.length+(Lib.decDigits a).length≤L;omega) (by show L≤_;omega)) Z (js Z (jf [3,56,0,4,5,6] Z (jn ?_))))))
 exact⟨rfl,(aE [] (e':=[(0,_),(3,_),(4,_),(5,_),(6,_)]) rfl rfl ⟨rfl,rfl,rfl,rfl,rfl,aq⟩ rfl).trans (Ent.to ⟨rfl,congrArg (fun s=>some (aS8 s)) (show o2++Lib.itoa (a:Int)=o3 by rw[ho3,dA,if_neg];rintro⟨e1,e2⟩;revert z56;simp[e1,e2]),rfl,rfl,rfl,aq⟩ rfl)⟩
 refine af ?_
 exact⟨rfl,(aE [] (e':=[(0,_),(3,_),(4,_),(5,_),(6,_)]) rfl rfl ⟨rfl,rfl,rfl,rfl,rfl,aq⟩ rfl).trans (Ent.to ⟨rfl,congrArg (fun s=>some (aS8 s)) (show o2=o3 by rw[ho3,if_pos,List.append_nil];revert z56;cases h:decide ((a:Int)=1)<;>simp_all<;>omega),rfl,rfl,rfl,aq⟩ rfl)⟩
 refine ab (ae Z (aa (aW (p:=o3) (q:=nm) O Z Z Z Z Z Z (by show o3.length+nm.length≤L;omega) (by show L≤_;omega)) Z (js Z (jf [3,0,4,5,6] Z (jn (ab (js Z ?_)))))))
 first|refine ji Z ?_|refine bv Z Z ?_
 refine js Z (jf [4,3,0,5,6] Z (jn ?_))
 refine⟨(z.1+1,o3++nm),(aE [] (e':=[(0,_),(3,_),(4,_)]) Z Z ⟨Z,Z,Z,aq⟩ Z),⟨by show z.1+1≤_;omega,?_,by show(o3++nm).length≤9*(z.1+1);rw[cS];omega⟩,by show t.xs.length+1-(z.1+1)<t.xs.length+1-z.1;omega⟩
 show o3++nm=oI t (z.1+1)
 rw[hstep,ho3,ho2,ha]
 unfold oS
 rw[if_neg (bB z40)]
 refine aZ (ag (ac ?_))
 have hz1:z.1=t.xs.length+1:=by have:=bB z13;omega
 have ho:=hi.2.1
 rw[hz1]at ho
 refine js Z (aa (Val.seq (p:=z.2) (q:=[]) O Z Z Z Z Z Z) Z (jn (ak Z (fun z65=>?_) (fun z65=>?_))))
 refine ac (js Z (jr ?_))
 refine az Z ?_
 rw[oT,←ho]
 unfold tZ
 rw[if_pos (bf z65)];rfl
 refine af (ac (ae Z (jr ?_)))
 refine az Z ?_
 rw[oT,←ho]
 unfold tZ
 rw[if_neg (bB z65)]
end Go.Al
/- What three functions of Go's library answer, as contracts of the abstract logic. -/
namespace Go.Al
variable{L:Nat}(h1:4096≤L)(h2:L≤1073741824)
theorem kZ{w:World}{k:Nat}{os:Array Obj}:Frame w (Go.Sort.grow (w.drewN k) os) []:=by
 refine⟨Z,Z,Z,?_,fun b hb _=>?_⟩
 show w.heap.size≤(w.heap++os).size
 rw[Array.size_append];omega
 show(w.heap++os)[b]? = w.heap[b]?
 exact Array.getElem?_append_left hb
theorem kR{P:Program}{L f:Nat}{args:List A}{v:A}(hc:dB P f)
    (h: ∀(w:World) (ok:Nat→Prop) (m:Nat→Loc) (vs:List Value),GOk P w ok→RAs L w ok m args vs→Calls P f vs.toArray w (i4 fun x w'=>Frame w w' []∧∀ok' m',(∀b,w.heap.size≤b→ok' b)→RA L w' ok' m' v x)):MC P L f args [] (Plain v):=by
 refine⟨hc,fun w m F ok vs h0 h1 h2 h3 h4 h5=>?_⟩
 cases h1
 refine Calls.mono (h w ok m vs h0 h5) fun e w' he=>?_
 cases e with
 | returned x=>
  obtain⟨hf,hx⟩:=he
  exact⟨v,[],m,[],⟨Z,Z⟩,.nil,List.nodup_nil,(by simp),hx _ _ (fun b hb=>⟨by simp,.inr (.inl hb)⟩),hf,fun _ _ _=>rfl,h4⟩
 | _=>exact he
theorem RA.str_inv{L w ok m}{s:ByteArray}{x:Value}(h:RA L w ok m (.c (.d (.str s))) x):x= .string s∧s.size≤L:=by
 cases h with|c h=>cases h with|d h=>cases h with|str h=>exact⟨rfl,h⟩
theorem gh{L w ok m}{k:IntKind}{n:Int}{x:Value}(h:RA L w ok m (.c (.d (.int k n))) x):x= .int k n:=by
 cases h with|c h=>cases h with|d h=>cases h with|int h1 h2=>rfl
theorem GOk.tab{P:Program}{w:World}{ok:Nat→Prop}(h:GOk P w ok){g:Nat}(hg:P.globalNamed "internal/strconv.uint64pow10" = some g):Lib.TabIs P w "internal/strconv.uint64pow10" .u64 Lib.pow10Tab:=by
 obtain⟨_,cs,h1,h2⟩:=h "internal/strconv.uint64pow10" g (by simp[GN]) hg
 rw[GF.tab h2 Z]at h1
 exact h1
theorem GOk.maxLen{P:Program}{w:World}{ok:Nat→Prop}(h:GOk P w ok){g:Nat}(hg:P.globalNamed "internal/bytealg.MaxLen" = some g): ∃m,w.cell? ⟨g,0,none⟩=some (.int .i64 m):=by
 obtain⟨_,cs,h1,h2⟩:=h "internal/bytealg.MaxLen" g (by simp[GN]) hg
 obtain⟨m,hm⟩:=GF.len h2 rfl
 refine⟨m,?_⟩
 unfold World.var? at h1
 rw[hg,Option.bind_some]at h1
 split at h1
 rename_i cs' _ _ hb
 cases h1
 simp[World.cell?,hb,hm]
 cases h1
variable{n:Int}
theorem ro(hn0: -9223372036854775808≤n)(hn1:n≤9223372036854775807):MQ h1 h2 90 [eI n,eI 10] [] (Plain (aS8 (Lib.itoa n))):=by
 refine kR ⟨_,_,Tryd.func90,by kernel_rfl,Z⟩ fun w ok m vs h0 h5=>?_
 cases h5 with
 | cons a1 a2=>cases a2 with
  | cons a3 a4=>
   cases a4
   rw[gh a1,gh a3]
   refine Calls.mono (Tryd.strconv_FormatInt_10 n hn0 hn1 w (h0.tab (g:=1) (by kernel_rfl))) fun e w' ⟨he,k,os,hw⟩=>?_
   subst he hw
   refine⟨kZ,fun ok' m' _=>.c (.d (.str ?_))⟩
   show(bS (Lib.itoa n)).size≤L
   rw[bS_size]
   have hd: ∀m:Nat,m≤9223372036854775808→(Lib.decDigits m).length≤20:=fun m hm=>lY (by omega)
   unfold Lib.itoa
   split
   ·
    have:=hd n.natAbs (by omega);rw[er];omega
   ·
    have:=hd n.toNat (by omega);omega
theorem iF(s:Str):(bS s).data.toList=s:=by simp[bS]
theorem e5{sep:Str}: ∀{k:Nat} {s:Str},∀p∈Lib.splitK sep 0 k s,p.length≤s.length
 | 0,s,p,hp=>by rw[List.mem_singleton.1 hp];exact bD _
 | k+1,s,p,hp=>by
  rw[Lib.splitK]at hp
  split at hp
  rw[List.mem_singleton.1 hp];exact bD _
  rcases List.mem_cons.1 hp with rfl|hp
  rw[List.length_take];omega
  have:=e5 p hp
  rw[List.length_drop]at this;omega
abbrev strs(ss:List Str):D:=.slc 1 (ss.map fun p=>[sD p])
theorem kp{L:Nat}{w:World}{ok:Nat→Prop}{b:Nat}: ∀{ss:List Str} {o:Nat},(∀p∈ss,p.length≤L)→(∀j p,ss[j]? = some p→w.cell? ⟨b,o+j,none⟩=some (.string (bS p)))→RDs L w ok (ss.map fun p=>[sD p]).flatten b o []
 | [],o,_,_=>.nil
 | p::r,o,h1,h2=>by
  simp only[List.map_cons,List.flatten_cons,List.singleton_append]
  refine .cons (F1:=[]) (F2:=[]) (h2 0 p Z) (.str (by rw[bS_size];exact h1 p (List.mem_cons_self ..))) (kp (fun q hq=>h1 q (List.mem_cons_of_mem _ hq)) fun j q hq=>?_)
  have:=h2 (j+1) q hq
  rwa[show o+1+j=o+(j+1) by omega]
theorem lC{s sep:Str}(hne:sep≠[])(hl:(Lib.split s sep).length≤L):MQ h1 h2 39 [aS8 s,aS8 sep] [] (Plain (.c (.d (strs (Lib.split s sep))))):=by
 refine kR ⟨_,_,Tryd.func39,by kernel_rfl,Z⟩ fun w ok m vs h0 h5=>?_
 cases h5 with
 | cons a1 a2=>cases a2 with
  | cons a3 a4=>
   cases a4
   obtain⟨rfl,l1⟩:=a1.str_inv
   obtain⟨rfl,l2⟩:=a3.str_inv
   obtain⟨k,hk⟩:=h0.maxLen (g:=0) (by kernel_rfl)
   rw[bS_size]at l1
   refine Calls.mono (Tryd.strings_Split (bS s) (bS sep) k w (by rw[bS_size];omega) hk (by rw[bS_size];exact List.length_pos_iff.2 hne)) fun e w' ⟨he,hw⟩=>?_
   subst he hw
   have hd:=Lib.splitB_data (bS sep) 0 (Lib.countB (bS s) (bS sep)) (bS s)
   have hc:Lib.countB (bS s) (bS sep)=Lib.count s sep:=by show Lib.count (bS s).data.toList (bS sep).data.toList=_;rw[iF,iF]
   rw[hc]at hd ⊢
   rw[iF,iF]at hd
   have hd2:Lib.splitB (bS sep) 0 (Lib.count s sep) (bS s)=(Lib.split s sep).map bS:=by
    have:=congrArg (List.map bS) hd
    rw[List.map_map]at this
    rw[show(Lib.split s sep)=Lib.splitK sep 0 (Lib.count s sep) s from Z,←this]
    conv=>lhs;rw[←List.map_id (Lib.splitB (bS sep) 0 (Lib.count s sep) (bS s))]
    exact List.map_congr_left fun x _=>(oM x).symm
   have hall:=Lib.splitB_all (bS sep) (by rw[bS_size];exact List.length_pos_iff.2 hne) 0 _ (bS s) Z
   rw[hc,hd2,cz]at hall
   refine⟨⟨Z,Z,Z,by show w.heap.size≤(w.heap.push _).size;rw[Array.size_push];omega,fun b hb _=>by show(w.heap.push _)[b]? = _;rw[Array.getElem?_push,if_neg (by omega)]⟩,fun ok' m' hok=>.c (.d ?_)⟩
   rw[hd2,←hall]
   rw[show(Lib.split s sep).length=((Lib.split s sep).map fun p=>[sD p]).length by rw[cz]]
   refine .slc (by rw[cz];exact hl) (bD _) (by intro e he;obtain⟨p,_,rfl⟩:=List.mem_map.1 he;rfl) (hok _ (bD _)) (by show w.heap.size<(w.heap.push _).size;rw[Array.size_push];omega) (kp (fun p hp=>Nat.le_trans (e5 p hp) l1) fun j p hj=>?_)
   rw[Nat.zero_add]
   have hb:(w.alloc (.cells (((Lib.split s sep).map bS).map Value.string).toArray 9)).heap[w.heap.size]? = some (.cells (((Lib.split s sep).map bS).map Value.string).toArray 9):=by
    show(w.heap.push _)[w.heap.size]? = _
    rw[Array.getElem?_push_size]
   rw[cell_of_row _ _ _ _ _ _ hb]
   simp[hj]
theorem mW(hn0: -9223372036854775808≤n)(hn1:n≤9223372036854775807):MQ h1 h2 70 [eI n] [] (Plain (aS8 (Lib.itoa n))):=by
 refine aA ?_ Z
 refine jB 5 h1 h2 Tryd.func70 Z fun O hF=>?_
 refine ac (js Z (bM (js Z (jf [3,2] Z (cH Z (ro (n:=n) h1 h2 hn0 hn1) 5000 Z (js Z (jf [2] Z (jr ?_))))))))
 refine az Z ?_
 rfl
theorem pk{o:Str}(ho:o.length≤1000):MQ h1 h2 68 [eI n,.c (.pt 0 0 0)] [(0,.box [.d (sD o)])] (kD (.tup []) [(0,.box [.d (sD (o++db o n))])]):=by
 refine jH 11 [0] h1 h2 Tryd.func68 Z fun O hF=>?_
 refine ac (ae Z (jf [4,1] Z (jn (ak Z (fun z4=>?_) (fun z4=>?_)))))
 refine ab (js Z (aa (aW (p:=o) (q:=[45]) O Z Z Z Z Z Z (by show o.length+1≤L;omega) (by show L≤_;omega)) Z (jf [6,1] Z (jo Z (aD ?_)))))
 refine jn ?_
 show _∧_
 refine⟨.inr Z,_,dd,_,Z,Z,?_⟩
 rw[show db o n=[45] by unfold db;rw[if_pos (bf z4)]]
 refine ac (js Z (aa (dN (p:=o) (q:=[]) O Z Z Z Z Z Z) Z (jf [8,1] Z (jn (ak Z (fun z8=>?_) (fun z8=>?_))))))
 refine ab (js Z (aa (aW (p:=o) (q:=[43]) O Z Z Z Z Z Z (by show o.length+1≤L;omega) (by show L≤_;omega)) Z (jf [10,1] Z (jo Z (aD ?_)))))
 refine jn ?_
 show _∧_
 refine⟨.inr Z,_,dd,_,Z,Z,?_⟩
 rw[show db o n=[43] by unfold db;rw[if_neg (bB z4),if_neg (by simpa using z8)]]
 refine af ?_
 show _∧_
 refine⟨.inr Z,_,dd,_,Z,Z,?_⟩
 rw[show db o n=[] by unfold db;rw[if_neg (bB z4),if_pos (by simpa using z8)],List.append_nil]
theorem og{o:Str}{i:Nat}{c:Int}(h:c=0):tC o i c=o:=by unfold tC;rw[if_pos h]
theorem pC{o:Str}{i:Nat}{c:Int}(h: ¬c=0):tC o i c=(o++db o c++(if c.natAbs=1 then[]else Lib.decDigits c.natAbs))++[fi i]:=by unfold tC;rw[if_neg h]
variable{t:Tm}
theorem pm(ht:t.ok=true):MQ h1 h2 34 [gE t] [] (Plain (aS8 (tS t))):=by
 refine aA ?_ Z
 refine jB 52 h1 h2 Tryd.func34 Z fun O hF=>?_
 obtain⟨z6,hx6,hl10⟩:=i9 ht
 have hl:t.xs.length≤L:=by omega
 refine ac (jx Z (aD ?_))
 refine js Z (bM (jl Z (aD ?_)))
 refine jo Z (aD ?_)
 refine bM (ae Z (jn (ag (ac (ae Z ?_)))))
 first|refine et Z ?_|refine js Z ?_|refine bv Z Z ?_
 refine js Z (jn (am (ax (X:=Nat×Str) (fun z=>⟨[(1,.c (.pt 1 0 0)),(3,.c (.pt 3 0 0)),(4,.c (.fn 68 [.pt 3 0 0])),(9,bP t.xs),(10,eI t.xs.length),(11,eI (z.1:Nat))],[(1,.box [.d (.int .i64 t.c),.d (bl t.xs)]),(3,.box [.d (sD z.2)])]⟩) (fun z=>z.1≤t.xs.length∧z.2=tX 0 (t.xs.take z.1) []∧z.2.length≤9*z.1) (fun z=>t.xs.length-z.1) (0,[]) (Ent.to ⟨Z,Z,Z,Z,Z,Z,aq⟩ Z) ?_ (fun z hi=>?_))))
 exact⟨dU _,by show[]=tX 0 (t.xs.take 0) [];simp[tX],bD _⟩
 refine ac (js Z (jn (ag (ak Z (fun z12=>?_) (fun z12=>?_)))))
 refine af (ag (am (ac (js Z ?_))))
 first|refine rL Z Z ?_|refine n3 Z Z ?_|refine bv Z Z ?_
 refine aP Z (jf [6,5,12,1,3,4,9,10,11] Z (jn (ag (ac ?_))))
 have hz1:z.1<t.xs.length:=by have:=bf z12;omega
 obtain⟨n,hn⟩: ∃n,n=(t.xs.getD z.1 default):=⟨_,rfl⟩
 rw[←hn]
 have hna:n.natAbs≤1000000:=by rw[hn,av hz1];exact hx6 _ (List.getElem_mem hz1)
 have hstep:tX 0 (t.xs.take (z.1+1)) []=tC z.2 z.1 n:=by rw[List.take_succ_eq_append_getElem hz1,jk,List.length_take,Nat.min_eq_left (by omega),Nat.zero_add,hi.2.1,hn,av hz1]
 have hzl:z.2.length≤90:=by have:=hi.2.2;omega
 refine ae Z (jn (ak Z (fun z17=>?_) (fun z17=>?_)))
 refine aZ (ab ?_)
 first|refine ji Z ?_|refine bv Z Z ?_
 refine js Z (jn ?_)
 refine⟨(z.1+1,z.2),Ent.to ⟨Z,Z,Z,Z,Z,Z,aq⟩ Z,⟨by show z.1+1≤_;omega,?_,by show z.2.length≤9*(z.1+1);omega⟩,by show t.xs.length-(z.1+1)<t.xs.length-z.1;omega⟩
 show z.2=_
 rw[hstep,og (bf z17)]
 refine af (ac (ae Z (gW O [3] (bin:=[.box [.d (sD z.2)]]) Z Z Z Z (pk (n:=n) (o:=z.2) h1 h2 (by omega)) Z Z Z Z Z Z (B0:=21000) Z Z (aD ?_))))
 obtain⟨o2,ho2⟩: ∃o,o=z.2++db z.2 n:=⟨_,rfl⟩
 rw[←ho2]
 have h2l:o2.length≤z.2.length+1:=by have:=gL (o:=z.2) (n:=n);rw[ho2,cS];omega
 refine jf [17,16,6,5,12,1,3,4,9,10,11] Z (jn (ag (ac (js Z (cH Z (px (x:=n) h1 h2 (by omega)) 23000 Z (js Z (jf [23,17,16,6,5,12,1,3,4,9,10,11] Z (jn ?_))))))))
 obtain⟨o3,ho3⟩: ∃o,o=o2++(if n.natAbs=1 then[]else Lib.decDigits n.natAbs):=⟨_,rfl⟩
 have hdl:(Lib.decDigits n.natAbs).length≤7:=gA hna
 have h3l:o3.length≤o2.length+7:=by rw[ho3,cS];split<;>simp<;>omega
 refine bk ⟨[(1,.c (.pt 1 0 0)),(3,.c (.pt 3 0 0)),(4,.c (.fn 68 [.pt 3 0 0])),(9,bP t.xs),(10,eI t.xs.length),(11,eI (z.1:Nat)),(5,eI (z.1:Nat)),(6,eI n)],[(1,.box [.d (.int .i64 t.c),.d (bl t.xs)]),(3,.box [.d (sD o3)])]⟩ ?_ ?_
 refine ak Z (fun z23=>?_) (fun z23=>?_)
 refine nX [_,_,_,_,_,_] [pn [] 0 2,cO,pe [1] 0,pe [1,2] 1,pn (rg 0 4) 2 2,pe (rg 0 5) 2] [2,3,5] [_,_,_,_] (ai (kc Z (kc Z (V Z))) (kc Z (ai (cZ O (B0:=27000) Z Z Z Z (px (x:=n) h1 h2 (by omega)) (al Z) Z Z Z Z Z) (ai (cZ O (B0:=28000) Z Z Z Z (mW (n:=(n.natAbs:Int)) h1 h2 (by omega) (by omega)) (al Z) Z Z Z Z Z) (ai (aW (p:=o2) (q:=Lib.itoa (n.natAbs:Int)) O Z Z Z Z Z Z (by rw[dA];have:=gA hna;show o2.length+(Lib.decDigits n.natAbs).length≤L;omega) (by show L≤_;omega)) (ai (eS Z Z Z) trivial)))))) ?_
 refine sE ?_
 exact⟨Z,Ent.to ⟨Z,Z,Z,Z,Z,Z,Z,Z,aq⟩ (by rw[ho3,if_neg (by have:=z23;simp at this;omega),dA])⟩
 refine af ?_
 exact⟨Z,dd.trans (Ent.to ⟨Z,Z,Z,Z,Z,Z,Z,Z,aq⟩ (by rw[ho3,if_pos (by have:=z23;simp at this;omega),List.append_nil];rfl))⟩
 refine ab (ae Z ?_)
 first|refine ji Z ?_|refine bv Z Z ?_
 refine aa ((Val.conv (b:=true) (dt:=.int .i64) O Z Z Z (by kernel_rfl) (by kernel_rfl)).cast (v':=.c (.d (.int .i32 (97+z.1:Int)))) (by rw[cP .i32 _ (by show(-2147483648:Int)≤_;omega) (by show _≤(2147483647:Int);omega)])) Z (aa ((mt (dt:=.int .i32) O Z Z Z (by kernel_rfl) (by kernel_rfl) (by omega) (by omega)).cast (v':=aS8 [fi z.1]) (by rw[show(97+(z.1:Int)).toNat=97+z.1 by omega];rfl)) Z (aa (aW (p:=o3) (q:=[fi z.1]) O Z Z Z Z Z Z (by show o3.length+1≤L;omega) (by show L≤_;omega)) Z (jf [34,1,3,4,9,10,11,6] Z (jo Z (aD ?_)))))
 refine jn (ab ?_)
 first|refine ji Z ?_|refine bv Z Z ?_
 refine js Z (jn ?_)
 refine⟨(z.1+1,o3++[fi z.1]),Ent.to ⟨Z,Z,Z,Z,Z,Z,aq⟩ Z,⟨by show z.1+1≤_;omega,?_,by show(o3++[fi z.1]).length≤9*(z.1+1);rw[cS,List.length_singleton];omega⟩,by show t.xs.length-(z.1+1)<t.xs.length-z.1;omega⟩
 show o3++[fi z.1]=_
 rw[hstep,pC (bB z17),ho3,ho2]
 refine aZ (ag (ac ?_))
 obtain hz1:z.1=t.xs.length:=by have:=bB z12;omega
 have hzl:z.2.length≤90:=by have:=hi.2.2;omega
 have ho:=hi.2.1
 rw[hz1,List.take_length]at ho
 refine aP Z (jf [38,12,1,3,4,9,10,11] Z (jn ?_))
 obtain⟨o5,ho5⟩: ∃o,o=tK z.2 t.c:=⟨_,rfl⟩
 refine bk ⟨[(1,.c (.pt 1 0 0)),(3,.c (.pt 3 0 0))],[(1,.box [.d (.int .i64 t.c),.d (bl t.xs)]),(3,.box [.d (sD o5)])]⟩ ?_ ?_
 refine ak Z (fun z38=>?_) (fun z38=>?_)
 refine ac (aP Z (jf [41,39,38,12,1,3,4,9,10,11] Z (gW O [3] (bin:=[.box [.d (sD z.2)]]) Z Z Z Z (pk (n:=t.c) (o:=z.2) h1 h2 (by omega)) Z Z Z Z Z Z (B0:=43000) Z Z (aD ?_))))
 refine jf [38,12,1,3,4,9,10,11] Z (jn (nX [_,_,_,_,_,_,_] [pn [] 0 2,cO,cd [1],pe [1,2] 0,pe [1,2,3] 1,pn (rg 0 5) 2 2,pe (rg 0 6) 2] [3,4,6] [_,_,_,_] (ai (kc Z (kc Z (V Z))) (kc Z (kc Z (ai (cZ O (B0:=47000) Z Z Z Z (px (x:=t.c) h1 h2 (by omega)) (al Z) Z Z Z Z Z) (ai (cZ O (B0:=48000) Z Z Z Z (mW (n:=(t.c.natAbs:Int)) h1 h2 (by omega) (by omega)) (al Z) Z Z Z Z Z) (ai (aW (p:=(z.2++db z.2 t.c)) (q:=Lib.itoa (t.c.natAbs:Int)) O Z Z Z Z Z Z (by rw[dA];have:=gA z6;have h7:=gL (o:=z.2) (n:=t.c);show(z.2++db z.2 t.c).length+(Lib.decDigits t.c.natAbs).length≤L;rw[cS];omega) (by show L≤_;omega)) (ai (eS Z Z Z) trivial))))))) ?_))
 refine sE ?_
 exact⟨Z,Ent.to ⟨Z,Z,aq⟩ (by rw[ho5,dA];unfold tK;rw[if_neg (by simpa using z38)])⟩
 refine af ?_
 exact⟨Z,dd.trans (Ent.to ⟨Z,Z,aq⟩ (by rw[ho5];unfold tK;rw[if_pos (by simpa using z38)]))⟩
 refine ag (ac (js Z (aa (Val.seq (p:=o5) (q:=[]) O Z Z Z Z Z Z) Z (jn (ak Z (fun z50=>?_) (fun z50=>?_))))))
 refine ac (js Z (jr ?_))
 refine az Z ?_
 rw[show tS t=tZ o5 by rw[ho5,ho];rfl]
 unfold tZ
 rw[if_pos (bf z50)];rfl
 refine af (ac (ae Z (jr ?_)))
 refine az Z ?_
 rw[show tS t=tZ o5 by rw[ho5,ho];rfl]
 unfold tZ
 rw[if_neg (bB z50)]
end Go.Al
/- Lemmas for the walk of the program's reader of q8. -/
namespace Go.Al
variable{L:Nat}(h1:4096≤L)(h2:L≤1073741824)
open Go.Lib
theorem aS{s:Str}{i:Nat}(h:i<s.length):s[((i:Nat):Int).toNat]? = some (s.getD i 0):=by
 rw[Int.toNat_natCast,List.getElem?_eq_getElem h];simp[h]
theorem bT{s:Str}{i:Nat}(h:i<s.length):s.drop i=s.getD i 0::s.drop (i+1):=by
 rw[List.drop_eq_getElem_cons h];simp[h]
theorem fp{b:UInt8}{n:Nat}(hn:n<256):((b.toNat:Int)=n)↔b=UInt8.ofNat n:=by
 constructor
 intro h
 apply UInt8.toNat_inj.1
 rw[UInt8.toNat_ofNat'];omega
 rintro rfl
 rw[UInt8.toNat_ofNat'];omega
abbrev bt(s:Str)(i:Nat):Int:=((s.getD i 0).toNat:Int)
theorem iE(s:Str)(i:Nat):0≤bt s i∧bt s i≤255:=by
 have:=(s.getD i 0).toNat_lt
 unfold bt;omega
theorem oy{s:Str}{i:Nat}(h:i<s.length):gC (s.drop i)=if bt s i=45 then(-1,s.drop (i+1))else if bt s i=43 then(1,s.drop (i+1))else(1,s.drop i):=by
 rw[bT h,gC]
 have h1:bt s i=45↔s.getD i 0=45:=fp (b:=s.getD i 0) (n:=45) (by decide)
 have h2:bt s i=43↔s.getD i 0=43:=fp (b:=s.getD i 0) (n:=43) (by decide)
 by_cases e1:bt s i=45
 rw[if_pos e1,if_pos (h1.1 e1)]
 rw[if_neg e1,if_neg (fun e=>e1 (h1.2 e))]
 by_cases e2:bt s i=43
 rw[if_pos e2,if_pos (h2.1 e2)]
 rw[if_neg e2,if_neg (fun e=>e2 (h2.2 e)),←bT h]
theorem lQ{s:Str}{i:Nat}(h:i<s.length): ∃(sg:Int) (i1:Nat),gC (s.drop i)=(sg,s.drop i1)∧(i≤i1∧i1≤i+1∧i1≤s.length)∧(sg=1∨sg= -1)∧(if bt s i=45 then sg= -1∧i1=i+1 else if bt s i=43 then sg=1∧i1=i+1 else sg=1∧i1=i):=by
 rw[oy h]
 split
 exact⟨-1,i+1,Z,⟨by omega,by omega,by omega⟩,.inr Z,Z,Z⟩
 split
 exact⟨1,i+1,Z,⟨by omega,by omega,by omega⟩,.inl Z,Z,Z⟩
 exact⟨1,i,Z,⟨by omega,by omega,by omega⟩,.inl Z,Z,Z⟩
theorem gI{s:Str}{i:Nat}:fJ (s.getD i 0)=(decide (48≤bt s i)&&decide (bt s i≤57)):=by
 unfold fJ bt
 congr 1<;>(apply Bool.eq_iff_iff.2;simp;omega)
theorem kL{s:Str}{i:Nat}:mJ (s.getD i 0)=(decide (97≤bt s i)&&decide (bt s i<107)):=by
 unfold mJ bt
 congr 1<;>(apply Bool.eq_iff_iff.2;simp;omega)
theorem jX{s:Str}{i k:Nat}{n:Int}(h:i<s.length)(h1:48≤bt s i)(h2:bt s i≤57):bm (k+1) n (s.drop i)=bm k (10*n+(bt s i-48)) (s.drop (i+1)):=by
 rw[bT h,bm,if_pos (by rw[gI];simp[h1,h2])]
theorem gZ{s:Str}{i i1:Nat}{n:Int}(h: ¬(i<s.length∧48≤bt s i∧bt s i≤57∧i<i1+8))(h0:i1≤i)(h8:i≤i1+8)(hl:i≤s.length):bm (8-(i-i1)) n (s.drop i)=(n,s.drop i):=by
 by_cases h1:i<s.length
 by_cases h2:i<i1+8
 rw[bT h1,e7]
 rw[gI]
 by_cases h3:48≤bt s i
 by_cases h4:bt s i≤57
 exact absurd ⟨h1,h3,h4,h2⟩ h
 simp[h4]
 simp[h3]
 rw[show 8-(i-i1)=0 by omega,bm]
 rw[List.drop_eq_nil_of_le (by omega),iP]
theorem m2{s:Str}{i i1 i2:Nat}{sg n:Int}(hs:gC (s.drop i)=(sg,s.drop i1))(hn:bm 8 0 (s.drop i1)=(n,s.drop i2))(h1:i1≤i2)(h2:i2≤s.length) :
    kB (s.drop i)=if i2<s.length∧97≤bt s i2∧bt s i2<107 then some (s.drop (i2+1),some ((s.getD i2 0).toNat-97),sg*(if i2=i1 then 1 else n))else if i2=i1 then none else some (s.drop i2,none,sg*n):=by
 unfold kB
 simp only[hs,hn]
 have hl:((s.drop i2).length=(s.drop i1).length)↔i2=i1:=by rw[List.length_drop,List.length_drop];omega
 by_cases h:i2<s.length
 rw[bT h]at hl ⊢
 simp only[hl,kL]
 by_cases h3:97≤bt s i2
 by_cases h4:bt s i2<107
 simp[h,h3,h4]
 simp[h4]
 simp[h3]
 have he:s.drop i2=[]:=List.drop_eq_nil_of_le (by omega)
 rw[if_neg (show¬(i2<s.length∧97≤bt s i2∧bt s i2<107)from fun e=>h e.1)]
 rw[he]at hl ⊢
 simp only[hl]
theorem j5{k:Nat}{n d:Int}(h:n<10^k)(hd:d≤9):10*n+d<10^(k+1):=by
 rw[Int.pow_succ];omega
theorem lv{k:Nat}(h:k≤8):(10:Int)^k≤100000000:=by
 have:10^k≤10^8:=Nat.pow_le_pow_right (by decide) h
 have e:((10^k:Nat):Int)=(10:Int)^k:=by rw[Int.natCast_pow];rfl
 rw[←e];omega
theorem iZ{xs:List Int}{i:Nat}{n:Int}:(bR xs i n).length=xs.length:=by unfold bR;rw[List.length_set]
theorem kn{xs:List Int}{i:Nat}{n B M:Int}(hB:0≤B)(h: ∀y∈xs,-B≤y∧y≤B)(h1: -M≤n)(h2:n≤M): ∀y∈bR xs i n,-(B+M)≤y∧y≤B+M:=by
 intro y hy
 unfold bR at hy
 rcases List.mem_or_eq_of_mem_set hy with hy|rfl
 have:=h y hy;omega
 by_cases hi:i<xs.length
 have:=h _ (List.getElem_mem hi)
 rw[show xs.getD i 0=xs[i] by simp[hi]];omega
 rw[show xs.getD i 0=0 by simp[Nat.not_lt.1 hi]];omega
theorem nj{xs:List Int}{i:Nat}{B:Int}(hB:0≤B)(h: ∀y∈xs,-B≤y∧y≤B): -B≤xs.getD i 0∧xs.getD i 0≤B:=by
 by_cases hi:i<xs.length
 rw[show xs.getD i 0=xs[i] by simp[hi]];exact h _ (List.getElem_mem hi)
 rw[show xs.getD i 0=0 by simp[Nat.not_lt.1 hi]];omega
theorem sI{a b c d:Prop}[Decidable a][Decidable b][Decidable c][Decidable d]:(bif (bif (bif decide a then decide b else false)then decide c else false)then decide d else false)=true↔a∧b∧c∧d:=by
 by_cases a<;>by_cases b<;>by_cases c<;>by_cases d<;>simp_all
theorem rC{a b c:Prop}[Decidable a][Decidable b][Decidable c]:(bif (bif decide a then decide b else false)then decide c else false)=true↔a∧b∧c:=by
 by_cases a<;>by_cases b<;>by_cases c<;>simp_all
theorem fL{x:Bool}{p:Prop}(h:x=false)(hx:x=true↔p): ¬p:=fun hp=>by rw[hx.2 hp]at h;cases h
theorem oP{a:Prop}[Decidable a](h:(decide a==true)=true):a:=by simpa using h
theorem qe{a:Prop}[Decidable a]{b:Bool}(h:((bif decide a then b else false)==true)=true):a:=by
 by_cases a<;>simp_all
def fo(r:Option Tm):Tm×Bool:=match r with
  | none=>(⟨0,[]⟩,false)
  | some t=>(t,true)
theorem i7{s:Str}{ys:List Int}{c:Int}(h:fW s (zr 10) 0=some (ys,c)):fj s=if(Tm.mk c (bh ys)).ok=true∧tS ⟨c,bh ys⟩=s then some ⟨c,bh ys⟩else none:=by
 unfold fj;rw[h]
theorem nc{s:Str}(h:fW s (zr 10) 0=none):fj s=none:=by
 unfold fj;rw[h]
theorem rx{s:Str}(hs:s.length≤1100000):MQ h1 h2 12 [aS8 s] [] (Plain (mV (fo (fj s)))):=by
 refine MC.data (jB 120 h1 h2 Tryd.func12 Z fun O hF=>?_)
 refine ac (jl Z (aD ?_))
 refine js Z (bM (bc (jE O Z Z Z Z Z Z Z Z Z (by first|omega|(simp at *;omega)) (by first|omega|(simp at *;omega)) (by first|omega|(simp at *;omega)) (by first|omega|(dsimp only;omega)|(simp only[bj]at *;omega)) (by first|omega|(simp at *;omega)) Z Z Z) Z (aD ?_)))
 refine js Z (jf [10,3,2,0] Z (jl Z (aD ?_)))
 refine jo Z (aD ?_)
 refine jn (ag (ac (js Z (jn (am (ax (X:=Nat×List Int×Int) (fun z=>⟨[(0,aS8 s),(2,.c (.pt 2 0 0)),(4,.c (.pt 4 0 0)),(5,eI (z.1:Nat))],[(2,.box [.d (.int .i64 0),.d .nils]),(4,.box [.d (.int .i64 z.2.2),.rs 9 0 10]),(9,cU z.2.1)]⟩) (fun z=>z.1≤s.length∧z.2.1.length=10∧(∀y∈z.2.1,-(100000000*(z.1:Int))≤y∧y≤100000000*(z.1:Int))∧(-(100000000*(z.1:Int))≤z.2.2∧z.2.2≤100000000*(z.1:Int))∧fW (s.drop z.1) z.2.1 z.2.2=fW s (zr 10) 0) (fun z=>s.length-z.1) (0,zr 10,0) (Ent.to ⟨Z,Z,Z,Z,aq⟩ Z) ?_ (fun z hi=>?_)))))))
 exact⟨dU _,Z,fun y hy=>by rw[show y=0 from List.eq_of_mem_replicate hy];simp,by simp,Z⟩
 refine ag (ac (ae Z (aa (aV (p:=s) O Z Z Z Z Z Z Z Z Z) Z (js Z (jf [14,0,2,4,5] Z (jn (ak Z (fun z14=>?_) (fun z14=>?_))))))))
 refine af (am (ac (js Z (jn (ag (ac (ae Z ?_)))))))
 have hz0:z.1<s.length:=by have:=bf z14;omega
 have hiz:=hi
 obtain⟨sg,i1,hsg,hi1,hsg1,hsv⟩:=lQ hz0
 refine aa (aw (p:=s) (b:=s.getD z.1 0) O Z Z Z Z Z Z Z (by omega) (aS hz0)) Z (jf [17,6,14,0,2,4,5] Z (jn (bk ⟨[(0,aS8 s),(2,.c (.pt 2 0 0)),(4,.c (.pt 4 0 0)),(5,eI (i1:Nat)),(6,eI sg)],[(2,.box [.d (.int .i64 0),.d .nils]),(4,.box [.d (.int .i64 z.2.2),.rs 9 0 10]),(9,cU z.2.1)]⟩ ?_ ?_)))
 refine am (ac (ae Z (jn (ak Z (fun z18=>?_) (fun z18=>?_)))))
 refine ac (js Z (jn (ab (js Z ?_))))
 first|refine ji Z ?_|refine bv Z Z ?_
 refine js Z (jf [5,6,18,19,17,14,0,2,4] Z (jn ?_))
 exact⟨Z,Ent.to ⟨Z,Z,Z,congrArg (fun z=>some (eI z)) (show(z.1:Int)+1=(i1:Int) by rw[if_pos (bf z18)]at hsv;omega),congrArg (fun z=>some (eI z)) (show(-1:Int)=sg by rw[if_pos (bf z18)]at hsv;omega),aq⟩ Z⟩
 refine ac (ae Z (jn (ak Z (fun z22=>?_) (fun z22=>?_))))
 refine ab (js Z ?_)
 first|refine ji Z ?_|refine bv Z Z ?_
 refine js Z (jf [5,22,23,18,19,17,6,14,0,2,4] Z (jn ?_))
 exact⟨Z,Ent.to ⟨Z,Z,Z,congrArg (fun z=>some (eI z)) (show(z.1:Int)+1=(i1:Int) by rw[if_neg (bB z18),if_pos (bf z22)]at hsv;omega),congrArg (fun z=>some (eI z)) (show(1:Int)=sg by rw[if_neg (bB z18),if_pos (bf z22)]at hsv;omega),aq⟩ Z⟩
 refine af ?_
 exact⟨Z,Ent.to ⟨Z,Z,Z,congrArg (fun z=>some (eI z)) (show(z.1:Int)=(i1:Int) by rw[if_neg (bB z18),if_neg (bB z22)]at hsv;omega),congrArg (fun z=>some (eI z)) (show(1:Int)=sg by rw[if_neg (bB z18),if_neg (bB z22)]at hsv;omega),aq⟩ Z⟩
 refine ac (aP Z (jn (ag (am (ax (X:=Nat×Int) (fun y=>⟨[(0,aS8 s),(2,.c (.pt 2 0 0)),(4,.c (.pt 4 0 0)),(5,eI (y.1:Nat)),(6,eI sg),(7,eI (i1:Nat)),(8,eI y.2)],[(2,.box [.d (.int .i64 0),.d .nils]),(4,.box [.d (.int .i64 z.2.2),.rs 9 0 10]),(9,cU z.2.1)]⟩) (fun y=>i1≤y.1∧y.1≤s.length∧y.1≤i1+8∧0≤y.2∧y.2<10^(y.1-i1)∧bm (8-(y.1-i1)) y.2 (s.drop y.1)=bm 8 0 (s.drop i1)) (fun y=>s.length-y.1) (i1,0) (Ent.to ⟨Z,Z,Z,Z,Z,Z,Z,aq⟩ Z) ?_ (fun y hi=>?_))))))
 exact⟨bD _,hi1.2.2,by show i1≤i1+8;omega,Int.le_refl _,by show(0:Int)<10^(i1-i1);rw[Nat.sub_self];decide,by show bm (8-(i1-i1)) 0 _=_;rw[Nat.sub_self]⟩
 refine ag (ac (ae Z (aa (aV (p:=s) O Z Z Z Z Z Z Z Z Z) Z (ae Z (jf [31,0,2,4,5,6,7,8] Z (ar 4 Z Z Z (fun hx=>ap hx Z (ap hx Z (bg hx (aw (p:=s) (b:=s.getD y.1 0) O Z Z Z Z Z Z Z (by omega) (aS (by have:=oP hx;omega))) Z (ap hx Z (AN.nil))))) Z Z ?_))))))
 first|refine aa (aj O Z Z Z Z Z) Z ?_|refine aa (ao O Z Z Z Z Z) Z ?_|refine aa (Val.pickB O Z Z Z Z Z) Z ?_
 refine js Z (jf [37,0,2,4,5,6,7,8] Z (ar 4 Z Z Z (fun hx=>ap hx Z (ap hx Z (bg hx (aw (p:=s) (b:=s.getD y.1 0) O Z Z Z Z Z Z Z (by omega) (aS (by have:=qe hx;omega))) Z (ap hx Z (AN.nil))))) Z Z ?_))
 first|refine aa (aj O Z Z Z Z Z) Z ?_|refine aa (ao O Z Z Z Z Z) Z ?_|refine aa (Val.pickB O Z Z Z Z Z) Z ?_
 refine js Z (jf [43,0,2,4,5,6,7,8] Z (ar 4 Z Z Z (fun hx=>ap hx Z (ap hx Z (bg hx (vF Z) Z (ap hx Z (AN.nil))))) Z Z ?_))
 first|refine aa (aj O Z Z Z Z Z) Z ?_|refine aa (ao O Z Z Z Z Z) Z ?_|refine aa (Val.pickB O Z Z Z Z Z) Z ?_
 refine jf [48,0,2,4,5,6,7,8] Z (jn (ak Z (fun z48=>?_) (fun z48=>?_)))
 refine af (ag (am (ab ?_)))
 have z4:=sI.1 z48
 have hc4n:y.1<s.length:=by have:=z4.1;omega
 have hp8:=lv (k:=y.1-i1) (by omega)
 have hby:0≤((s.getD y.1 0).toNat:Int)∧((s.getD y.1 0).toNat:Int)≤255:=iE s y.1
 refine js Z ?_
 first|refine ji Z ?_|refine bv Z Z ?_
 refine ae Z (aa (aw (p:=s) (b:=s.getD y.1 0) O Z Z Z Z Z Z Z (by omega) (aS hc4n)) Z (aa (cm (k:=.u8) (n:=((s.getD y.1 0).toNat:Int)-48) O Z Z (by show(0:Int)≤_;omega) (by show _≤(255:Int);omega)) Z (aa ((Val.conv (b:=true) (dt:=.int .u8) O Z Z Z (by kernel_rfl) (by kernel_rfl)).cast (v':=eI (((s.getD y.1 0).toNat:Int)-48)) (by rw[cP .i64 _ (by show(-9223372036854775808:Int)≤_;omega) (by show _≤(9223372036854775807:Int);omega)])) Z ?_)))
 first|refine ji Z ?_|refine bv Z Z ?_
 refine js Z (jf [8,48,0,2,4,5,6,7] Z (jn (ab (js Z ?_))))
 first|refine ji Z ?_|refine bv Z Z ?_
 refine js Z (jf [5,8,48,0,2,4,6,7] Z (jn ?_))
 refine⟨(y.1+1,10*y.2+(((s.getD y.1 0).toNat:Int)-48)),Ent.to ⟨Z,Z,Z,Z,Z,Z,Z,aq⟩ Z,⟨by show i1≤y.1+1;omega,by show y.1+1≤_;omega,by show y.1+1≤i1+8;omega,by show 0≤10*y.2+(((s.getD y.1 0).toNat:Int)-48);omega,?_,?_⟩,by show s.length-(y.1+1)<s.length-y.1;omega⟩
 show 10*y.2+(((s.getD y.1 0).toNat:Int)-48)<10^(y.1+1-i1)
 rw[show y.1+1-i1=(y.1-i1)+1 by omega]
 exact j5 hi.2.2.2.2.1 (by omega)
 show bm (8-(y.1+1-i1)) (10*y.2+(((s.getD y.1 0).toNat:Int)-48)) (s.drop (y.1+1))=_
 rw[←hi.2.2.2.2.2,show 8-(y.1-i1)=(8-(y.1+1-i1))+1 by omega,jX hc4n z4.2.1 z4.2.2.1]
 refine aZ (am (ac ?_))
 have hend:=gZ (s:=s) (i:=y.1) (i1:=i1) (n:=y.2) (fun hh=>fL z48 sI ⟨by omega,hh.2.1,hh.2.2.1,by omega⟩) hi.1 hi.2.2.1 hi.2.1
 rw[hi.2.2.2.2.2]at hend
 have hst0:=m2 hsg hend hi.1 hi.2.1
 have hp8:=lv (k:=y.1-i1) (by omega)
 have hby:0≤((s.getD y.1 0).toNat:Int)∧((s.getD y.1 0).toNat:Int)≤255:=iE s y.1
 refine ae Z ?_
 have hiy:=hi
 refine aa (aV (p:=s) O Z Z Z Z Z Z Z Z Z) Z (ae Z (jf [71,48,0,2,4,5,6,7,8] Z (ar 4 Z Z Z (fun hx=>ap hx Z (ap hx Z (bg hx (aw (p:=s) (b:=s.getD y.1 0) O Z Z Z Z Z Z Z (by omega) (aS (by have:=oP hx;omega))) Z (ap hx Z (AN.nil))))) Z Z ?_)))
 first|refine aa (aj O Z Z Z Z Z) Z ?_|refine aa (ao O Z Z Z Z Z) Z ?_|refine aa (Val.pickB O Z Z Z Z Z) Z ?_
 refine js Z (jf [77,48,0,2,4,5,6,7,8] Z (ar 4 Z Z Z (fun hx=>ap hx Z (ap hx Z (bg hx (aw (p:=s) (b:=s.getD y.1 0) O Z Z Z Z Z Z Z (by omega) (aS (by have:=qe hx;omega))) Z (ap hx Z (AN.nil))))) Z Z ?_))
 first|refine aa (aj O Z Z Z Z Z) Z ?_|refine aa (ao O Z Z Z Z Z) Z ?_|refine aa (Val.pickB O Z Z Z Z Z) Z ?_
 refine js Z (jf [66,48,0,2,4,5,6,7,8] Z (jn (ak Z (fun z66=>?_) (fun z66=>?_))))
 refine ag (ac ?_)
 have z3:=rC.1 z66
 have hc3n:y.1<s.length:=by have:=z3.1;omega
 refine aP Z (jf [85,66,48,0,2,4,5,6,7,8] Z (jn ?_))
 obtain⟨n1,hn1⟩: ∃n1,n1=if y.1=i1 then 1 else y.2:=⟨_,rfl⟩
 have hnb:0≤n1∧n1≤100000000:=by rw[hn1];split<;>omega
 have hm1: -100000000≤sg*n1:=by rcases hsg1 with e|e<;>rw[e]<;>omega
 have hm2:sg*n1≤100000000:=by rcases hsg1 with e|e<;>rw[e]<;>omega
 obtain⟨j,hj⟩: ∃j:Nat,((s.getD y.1 0).toNat:Int)-97=(j:Int):=⟨(((s.getD y.1 0).toNat:Int)-97).toNat,by omega⟩
 have hj10:j<10:=by omega
 have hgj:=nj (i:=j) (B:=100000000*(z.1:Int)) (by omega) hiz.2.2.1
 have hst:kB (s.drop z.1)=some (s.drop (y.1+1),some j,sg*n1):=by rw[hst0,if_pos ⟨hc3n,z3.2.1,z3.2.2⟩,←hn1,show(s.getD y.1 0).toNat-97=j by omega]
 refine bk ⟨[(0,aS8 s),(2,.c (.pt 2 0 0)),(4,.c (.pt 4 0 0)),(5,eI (y.1:Nat)),(6,eI sg),(8,eI n1)],[(2,.box [.d (.int .i64 0),.d .nils]),(4,.box [.d (.int .i64 z.2.2),.rs 9 0 10]),(9,cU z.2.1)]⟩ ?_ ?_
 refine ak Z (fun z85=>?_) (fun z85=>?_)
 refine ab (js Z (jn ?_))
 exact⟨Z,Ent.to ⟨Z,Z,Z,Z,Z,congrArg (fun z=>some (eI z)) (show(1:Int)=n1 by rw[hn1,if_pos (by have:=bf z85;omega)]),aq⟩ Z⟩
 refine af ?_
 exact⟨Z,Ent.to ⟨Z,Z,Z,Z,Z,congrArg (fun z=>some (eI z)) (show y.2=n1 by rw[hn1,if_neg (by have:=bB z85;omega)]),aq⟩ Z⟩
 refine ag ?_
 have hi:=hiz
 refine nX [_,_,_,_,_,_,_,_,_,_,_,_,_,_] [cO,cd [0],cO,cO,cd [2,3],cd [2,3,4],cd (rg 0 6),cd (rg 0 7),cO,cO,cd [8,9],cd (rg 0 11),cd (rg 0 12),pe (rg 0 13) 0] [13] [_,_] (qs Z (ai (aw (p:=s) (b:=s.getD y.1 0) O Z Z Z Z Z Z Z (by omega) (aS hc3n)) (ai ((cm (k:=.u8) (n:=((s.getD y.1 0).toNat:Int)-97) O Z Z (by show(0:Int)≤_;omega) (by show _≤(255:Int);omega)).cast (v':=.c (.d (.int .u8 (j:Int)))) (by rw[hj])) (ai (bH (c:=0≤(j:Int)∧(j:Int)<((10:Nat):Int)) (v:=.c (.pt 9 (0+(j:Int).toNat) 0)) O Z Z (by omega)) (ai (dm O (ex:=[.int .i64 (z.2.1.getD j 0)]) Z Z Z Z (by simp[hi.2.1,hj10]) Z) (kc Z (kc Z (ai (aM O Z Z (by omega) (by omega)) (ai (aM O Z Z (by omega) (by omega)) (ai (bH (c:=0≤(j:Int)∧(j:Int)<((10:Nat):Int)) (v:=.c (.pt 9 (0+(j:Int).toNat) 0)) O Z Z (by omega)) (ai (fG (ex:=[.int .i64 (z.2.1.getD j 0)]) (xs':=(bR z.2.1 j (sg*n1)).map (fun n=>[D.int .i64 n])) O Z Z Z Z Z Z Z Z Z Z Z Z Z Z Z (by simp[hi.2.1,hj10]) (by unfold bR;rw[List.map_set];simp only[Int.toNat_natCast,Nat.zero_add];rfl) Z) trivial))))))))))) ?_
 refine ab (js Z ?_)
 first|refine ji Z ?_|refine bv Z Z ?_
 refine js Z (jf [5,98,97,96,95,94,93,92,91,90,89,88,87,86,0,2,4,6,8] Z (jn ?_))
 refine⟨(y.1+1,bR z.2.1 j (sg*n1),z.2.2),Ent.to ⟨Z,Z,Z,Z,aq⟩ Z,⟨by show y.1+1≤_;omega,by show(bR _ _ _).length=10;rw[iZ];exact hiz.2.1,?_,?_,?_⟩,by show s.length-(y.1+1)<s.length-z.1;omega⟩
 exact fun q hq=>by have:=kn (B:=100000000*(z.1:Int)) (M:=100000000) (by omega) hiz.2.2.1 hm1 hm2 q hq;show -(100000000*((y.1+1:Nat):Int))≤q∧q≤100000000*((y.1+1:Nat):Int);omega
 show -(100000000*((y.1+1:Nat):Int))≤z.2.2∧z.2.2≤100000000*((y.1+1:Nat):Int);have:=hiz.2.2.2.1;omega
 show fW (s.drop (y.1+1)) (bR z.2.1 j (sg*n1)) z.2.2=_
 rw[←jp hst,hiz.2.2.2.2]
 refine ac ?_
 have z3:=fL z66 rC
 rw[if_neg (fun hh=>z3 ⟨by omega,hh.2.1,hh.2.2⟩)]at hst0
 refine bn Z (jf [101,66,48,0,2,4,5,6,7,8] Z (jn (ak Z (fun z101=>?_) (fun z101=>?_))))
 refine ac (js Z (jo Z (aD ?_)))
 refine js Z (jr ?_)
 refine az Z ?_
 rw[nc (by rw[←hiz.2.2.2.2,jY (by rw[bT hz0];simp) (by rw[hst0,if_pos (by have:=bf z101;omega)])])]
 exact .tup (.cons (.agg (.cons .d (.cons .nils .nil))) (.cons (.c .d) .nil))
 refine ab ?_
 have hne: ¬y.1=i1:=by have:=bB z101;omega
 have hst:=hst0
 rw[if_neg hne]at hst
 have hm1: -100000000≤sg*y.2:=by rcases hsg1 with e|e<;>rw[e]<;>omega
 have hm2:sg*y.2≤100000000:=by rcases hsg1 with e|e<;>rw[e]<;>omega
 have hi:=hiz
 refine bn Z ?_
 first|refine ji Z ?_|refine bv Z Z ?_
 first|refine ji Z ?_|refine bv Z Z ?_
 refine js Z (jf [65,64,101,66,48,0,2,4,5,6,7,8] Z (jo Z (aD ?_)))
 refine jf [101,66,48,0,2,4,5,6,7,8] Z (jn ?_)
 refine⟨(y.1,z.2.1,z.2.2+sg*y.2),Ent.to ⟨Z,Z,Z,Z,aq⟩ Z,⟨by show y.1≤_;omega,hiz.2.1,?_,?_,?_⟩,by show s.length-y.1<s.length-z.1;omega⟩
 exact fun q hq=>by have:=hiz.2.2.1 q hq;show -(100000000*(y.1:Int))≤q∧q≤100000000*(y.1:Int);omega
 show -(100000000*(y.1:Int))≤z.2.2+sg*y.2∧z.2.2+sg*y.2≤100000000*(y.1:Int);have:=hiz.2.2.2.1;omega
 show fW (s.drop y.1) z.2.1 (z.2.2+sg*y.2)=_
 rw[←gu hst,hiz.2.2.2.2]
 refine aZ (ac ?_)
 have hz1:z.1=s.length:=by have:=bB z14;omega
 have hr:=hi.2.2.2.2
 rw[hz1,List.drop_length,dK]at hr
 refine aU (Ent.freeze 9 (e':=[(0,_),(2,_),(4,_)]) Z (fe [0,2,4] Z) (pp Z (.cons Z (.box (qt Z (.cons (.row Z (by rw[cz,hi.2.1])) .nil))) (.skip .nil)))) ?_
 refine js Z (au O Z Z Z Z (qB (t:=(⟨z.2.2,z.2.1⟩:Tm)) h1 h2) (al Z) Z Z Z Z (B0:=108000) Z Z (jf [107,0,2,4] Z (jo Z (aD ?_))))
 refine jn (ag (ac (js Z (cH Z (py (t:=(⟨z.2.2,bh z.2.1⟩:Tm)) h1 h2) 110000 Z (ae Z (jf [111,107,0,2,4] Z (ar 4 Z Z Z (fun hx=>ap hx Z (bO O hx Z Z Z Z (pm (t:=(⟨z.2.2,bh z.2.1⟩:Tm)) h1 h2 (by simpa using hx)) (al Z) Z Z Z Z Z Z Z (B0:=114000) Z (ap hx Z (bg hx (dN (p:=tS (⟨z.2.2,bh z.2.1⟩:Tm)) (q:=s) O Z Z Z Z Z Z) Z (AN.nil))))) Z Z ?_)))))))
 first|refine aa (ao O Z Z Z Z Z) Z ?_|refine aa (Val.pickB O Z Z Z Z Z) Z ?_|refine aa (aj O Z Z Z Z Z) Z ?_
 refine jf [116,107,0,2,4] Z (jn (ak Z (fun z116=>?_) (fun z116=>?_)))
 refine ac (js Z (jo Z (aD ?_)))
 refine js Z (jr ?_)
 refine az Z ?_
 have hno:fj s=none:=by rw[i7 hr.symm,if_neg];intro hh;revert z116;simp[hh.1,hh.2]
 rw[hno]
 exact .tup (.cons (.agg (.cons .d (.cons .nils .nil))) (.cons (.c .d) .nil))
 refine af (ac (js Z (au O Z Z Z Z (sk (t:=(⟨z.2.2,bh z.2.1⟩:Tm)) h1 h2) (al Z) Z Z Z Z (B0:=120000) Z Z (jf [119,116,107,0,2,4] Z (jo Z (aD ?_))))))
 refine js Z (jr ?_)
 refine az Z ?_
 have hyes:fj s=some (⟨z.2.2,bh z.2.1⟩:Tm):=by rw[i7 hr.symm,if_pos];revert z116;cases h7:Tm.ok (⟨z.2.2,bh z.2.1⟩:Tm)<;>simp
 rw[hyes]
 exact .tup (.cons (.agg (bK Z)) (.cons (.c .d) .nil))
end Go.Al
/- Lemmas for the walk of the reference's reader of q8. -/
namespace Go.Al
variable{L:Nat}(h1:4096≤L)(h2:L≤1073741824)
open Go.Lib
theorem na{s:Str}{i:Nat}{ys:List Int}{c n sg:Int}(h:i<s.length)(h1:48≤bt s i)(h2:bt s i≤57):cN (s.drop i) ys c n sg=if 2000000<n then none else cN (s.drop (i+1)) ys c (10*max n 0+(bt s i-48)) sg:=by
 rw[bT h,cN,if_pos (by rw[gI];simp[h1,h2])]
theorem jd{s:Str}{i:Nat}(h: ¬(48≤bt s i∧bt s i≤57)): ¬fJ (s.getD i 0)=true:=by
 rw[gI];simpa using h
theorem pL{s:Str}{i:Nat}{ys:List Int}{c n sg:Int}(h:i<s.length)(h0: ¬(48≤bt s i∧bt s i≤57))(h1:97≤bt s i)(h2:bt s i≤106):cN (s.drop i) ys c n sg=cN (s.drop (i+1)) (ys.set ((s.getD i 0).toNat-97) (sg*(if n<0 then 1 else n))) c (-1) sg:=by
 rw[bT h,cN,if_neg (jd h0),if_pos (by rw[kL];simp only[bb,decide_eq_true_eq];omega)]
theorem ng{s:Str}{i:Nat}(h: ¬(97≤bt s i∧bt s i≤106)): ¬mJ (s.getD i 0)=true:=by
 rw[kL];simp only[bb,decide_eq_true_eq];omega
theorem pJ{s:Str}{i:Nat}{ys:List Int}{c n sg:Int}(h:i<s.length)(h0: ¬(48≤bt s i∧bt s i≤57))(h1: ¬(97≤bt s i∧bt s i≤106))(h2:bt s i=43∨bt s i=45):cN (s.drop i) ys c n sg=cN (s.drop (i+1)) ys (if 0≤n then sg*n else c) (-1) (if bt s i=45 then -1 else 1):=by
 have e1:bt s i=43↔s.getD i 0=43:=fp (n:=43) (by decide)
 have e2:bt s i=45↔s.getD i 0=45:=fp (n:=45) (by decide)
 rw[bT h,cN,if_neg (jd h0),if_neg (ng h1),if_pos (by rw[←e1,←e2];exact h2)]
 by_cases h3:bt s i=45
 rw[if_pos h3,if_pos (e2.1 h3)]
 rw[if_neg h3,if_neg (fun e=>h3 (e2.2 e))]
theorem ou{s:Str}{i:Nat}{ys:List Int}{c n sg:Int}(h:i<s.length)(h0: ¬(48≤bt s i∧bt s i≤57))(h1: ¬(97≤bt s i∧bt s i≤106))(h2: ¬(bt s i=43∨bt s i=45)):cN (s.drop i) ys c n sg=none:=by
 have e1:bt s i=43↔s.getD i 0=43:=fp (n:=43) (by decide)
 have e2:bt s i=45↔s.getD i 0=45:=fp (n:=45) (by decide)
 rw[bT h,cN,if_neg (jd h0),if_neg (ng h1),if_neg (by rw[←e1,←e2];exact h2)]
theorem ot{s:Str}{ys:List Int}{c n sg:Int}:cN (s.drop s.length) ys c n sg=some (ys,if 0≤n then sg*n else c):=by
 rw[List.drop_length,cN]
theorem pF{xs:List Int}{i:Nat}{n B:Int}(h: ∀y∈xs,-B≤y∧y≤B)(h1: -B≤n)(h2:n≤B): ∀y∈xs.set i n,-B≤y∧y≤B:=by
 intro y hy
 rcases List.mem_or_eq_of_mem_set hy with hy|rfl
 exact h y hy
 exact⟨h1,h2⟩
theorem c3o{a b c:Prop}[Decidable a][Decidable b][Decidable c]:(bif (bif decide a then true else decide b)then true else decide c)=true↔a∨b∨c:=by
 by_cases a<;>by_cases b<;>by_cases c<;>simp_all
theorem rE{a b:Prop}[Decidable a][Decidable b]:(bif decide a then decide b else false)=true↔a∧b:=by
 by_cases a<;>by_cases b<;>simp_all
theorem r9{a:Prop}[Decidable a](h:(decide a==false)=true): ¬a:=by simpa using h
theorem r8{a:Prop}[Decidable a]{b:Bool}(h:((bif decide a then true else b)==false)=true): ¬a:=by
 by_cases a<;>simp_all
theorem pE{a b:Prop}[Decidable a][Decidable b](h: ¬(a∧b)):(if a then(if b then(-1:Int)else 1)else 1)=1:=by
 by_cases a<;>by_cases b<;>simp_all
theorem ja{sg n B:Int}(h:sg=1∨sg= -1)(h0:0≤n)(hB:n≤B): -B≤sg*n∧sg*n≤B:=by
 rcases h with e|e<;>rw[e]<;>omega
theorem m7{s:Str}{ys:List Int}{c:Int}(h:cN s (zr 10) 0 (-1) 1=some (ys,c)):l7 s=if(ix c ys).2=true∧tS (ix c ys).1=s then some (ix c ys).1 else none:=by
 unfold l7;rw[h]
theorem m8{s:Str}(h:cN s (zr 10) 0 (-1) 1=none):l7 s=none:=by
 unfold l7;rw[h]
theorem rv{s:Str}(hs:s.length≤1100000):MQ h1 h2 42 [aS8 s] [] (Plain (mV (fo (l7 s)))):=by
 refine MC.data (jB 123 h1 h2 Tryd.func42 Z fun O hF=>?_)
 refine ac (jl Z (aD ?_))
 refine js Z (bM (bc (jE O Z Z Z Z Z Z Z Z Z (by first|omega|(simp at *;omega)) (by first|omega|(simp at *;omega)) (by first|omega|(simp at *;omega)) (by first|omega|(dsimp only;omega)|(simp only[bj]at *;omega)) (by first|omega|(simp at *;omega)) Z Z Z) Z (aD ?_)))
 refine js Z (bM (js Z (bM (js Z (bM (js Z (jn (ag (ac (js Z (jn (am (ax (X:=Nat×List Int×Int×Int×Int) (fun z=>⟨[(0,aS8 s),(2,.c (.pt 2 0 0)),(4,.c (.rs 11 0 10)),(5,eI z.2.2.1),(6,eI z.2.2.2.1),(7,eI z.2.2.2.2),(8,eI (z.1:Nat))],[(2,.box [.d (.int .i64 0),.d .nils]),(11,cU z.2.1)]⟩) (fun z=>z.1≤s.length+1∧z.2.1.length=10∧(∀y∈z.2.1,-20000009≤y∧y≤20000009)∧(-20000009≤z.2.2.1∧z.2.2.1≤20000009)∧(-1≤z.2.2.2.1∧z.2.2.2.1≤20000009)∧(z.2.2.2.2=1∨z.2.2.2.2= -1)∧(z.1≤s.length→cN (s.drop z.1) z.2.1 z.2.2.1 z.2.2.2.1 z.2.2.2.2=cN s (zr 10) 0 (-1) 1)∧(z.1=s.length+1→cN s (zr 10) 0 (-1) 1=some (z.2.1,z.2.2.1))) (fun z=>s.length+1-z.1) (0,zr 10,0,-1,1) (Ent.to ⟨Z,Z,Z,Z,Z,Z,Z,aq⟩ Z) ?_ (fun z hi=>?_))))))))))))))
 exact⟨dU _,Z,fun y hy=>by rw[show y=0 from List.eq_of_mem_replicate hy];simp,by simp,by simp,.inl Z,fun _=>rfl,fun h=>by have h9:0=s.length+1:=h;omega⟩
 refine ag (ac (ae Z (aa (aV (p:=s) O Z Z Z Z Z Z Z Z Z) Z (js Z (jf [15,0,2,4,5,6,7,8] Z (jn (ak Z (fun z15=>?_) (fun z15=>?_))))))))
 refine af (ag (am (am (ac (ae Z ?_)))))
 have hzl:z.1≤s.length:=by have:=bf z15;omega
 have hr:=hi.2.2.2.2.2.2.1 hzl
 have hby:0≤((s.getD z.1 0).toNat:Int)∧((s.getD z.1 0).toNat:Int)≤255:=iE s z.1
 refine aa (aV (p:=s) O Z Z Z Z Z Z Z Z Z) Z (ae Z (jf [24,15,0,2,4,5,6,7,8] Z (ar 4 Z Z Z (fun hx=>ap hx Z (ap hx Z (bg hx (aw (p:=s) (b:=s.getD z.1 0) O Z Z Z Z Z Z Z (by omega) (aS (by have:=oP hx;omega))) Z (ap hx Z (AN.nil))))) Z Z ?_)))
 first|refine aa (aj O Z Z Z Z Z) Z ?_|refine aa (ao O Z Z Z Z Z) Z ?_|refine aa (Val.pickB O Z Z Z Z Z) Z ?_
 refine js Z (jf [30,15,0,2,4,5,6,7,8] Z (ar 4 Z Z Z (fun hx=>ap hx Z (ap hx Z (bg hx (aw (p:=s) (b:=s.getD z.1 0) O Z Z Z Z Z Z Z (by omega) (aS (by have:=qe hx;omega))) Z (ap hx Z (AN.nil))))) Z Z ?_))
 first|refine aa (aj O Z Z Z Z Z) Z ?_|refine aa (ao O Z Z Z Z Z) Z ?_|refine aa (Val.pickB O Z Z Z Z Z) Z ?_
 refine js Z (jf [19,15,0,2,4,5,6,7,8] Z (jn (ak Z (fun z19=>?_) (fun z19=>?_))))
 refine ag (ac ?_)
 have z3:=rC.1 z19
 have hin:z.1<s.length:=by have:=z3.1;omega
 refine ae Z (jn (ak Z (fun z37=>?_) (fun z37=>?_)))
 refine ac (js Z (jo Z (aD ?_)))
 refine js Z (jr ?_)
 refine az Z ?_
 rw[m8 (by rw[←hr,na hin z3.2.1 z3.2.2,if_pos (bf z37)])]
 exact .tup (.cons (.agg (.cons .d (.cons .nils .nil))) (.cons (.c .d) .nil))
 refine af ?_
 have hmx:mx z.2.2.2.1 0=max z.2.2.2.1 0:=by unfold mx;split<;>omega
 have hn2: ¬2000000<z.2.2.2.1:=bB z37
 refine nX [_,_,_,_,_,_,_,_,_,_] [cO,pe [0] 0,pn [0,1] 1 1,pn [] 0 1,pn [] 0 1,pn [3,4] 0 1,pn [3,4,5] 0 1,pn (rg 3 4) 0 1,pn (rg 0 8) 1 1,pn (rg 0 9) 1 1] [1] [_,_] (kc Z (ai (cZ O (B0:=41000) Z Z Z Z ((sb (a:=z.2.2.2.1) (b:=0) h1 h2).plain (congrArg eI hmx)) (al Z) Z Z Z Z Z) (ai (aM O Z Z (by omega) (by omega)) (ai (kc Z (V Z)) (ai (kc Z (V Z)) (ai (ai (aw (p:=s) (b:=s.getD z.1 0) O Z Z Z Z Z Z Z (by omega) (aS hin)) (aw (p:=s) (b:=s.getD z.1 0) O Z Z Z Z Z Z Z (by omega) (aS hin))) (ai (ai (cm (k:=.u8) (n:=((s.getD z.1 0).toNat:Int)-48) O Z Z (by have:=z3.2.1;show(0:Int)≤_;omega) (by show _≤(255:Int);omega)) (cm (k:=.u8) (n:=((s.getD z.1 0).toNat:Int)-48) O Z Z (by have:=z3.2.1;show(0:Int)≤_;omega) (by show _≤(255:Int);omega))) (ai (ai ((Val.conv (b:=true) (dt:=.int .u8) O Z Z Z (by kernel_rfl) (by kernel_rfl)).cast (v':=eI (((s.getD z.1 0).toNat:Int)-48)) (by rw[cP .i64 _ (by show(-9223372036854775808:Int)≤_;omega) (by show _≤(9223372036854775807:Int);omega)])) ((Val.conv (b:=true) (dt:=.int .u8) O Z Z Z (by kernel_rfl) (by kernel_rfl)).cast (v':=eI (((s.getD z.1 0).toNat:Int)-48)) (by rw[cP .i64 _ (by show(-9223372036854775808:Int)≤_;omega) (by show _≤(9223372036854775807:Int);omega)]))) (ai (aM O Z Z (by omega) (by omega)) (kc Z trivial)))))))))) ?_
 refine ab (js Z ?_)
 first|refine ji Z ?_|refine bv Z Z ?_
 refine js Z (jf [8,6,47,46,45,44,43,42,41,40,39,37,36,19,15,0,2,4,5,7] Z (jn ?_))
 refine⟨(z.1+1,z.2.1,z.2.2.1,10*max z.2.2.2.1 0+(((s.getD z.1 0).toNat:Int)-48),z.2.2.2.2),Ent.to ⟨Z,Z,Z,Z,Z,Z,Z,aq⟩ Z,⟨by show z.1+1≤_;omega,hi.2.1,hi.2.2.1,hi.2.2.2.1,by show -1≤10*max z.2.2.2.1 0+(((s.getD z.1 0).toNat:Int)-48)∧10*max z.2.2.2.1 0+(((s.getD z.1 0).toNat:Int)-48)≤20000009;omega,hi.2.2.2.2.2.1,fun _=>?_,fun h=>by have h9:z.1+1=s.length+1:=h;omega⟩,by show s.length+1-(z.1+1)<s.length+1-z.1;omega⟩
 show cN (s.drop (z.1+1)) z.2.1 z.2.2.1 (10*max z.2.2.2.1 0+(((s.getD z.1 0).toNat:Int)-48)) z.2.2.2.2=_
 rw[←hr,na hin z3.2.1 z3.2.2,if_neg (bB z37)]
 refine ac (ae Z ?_)
 have hnd0:=fL z19 rC
 refine aa (aV (p:=s) O Z Z Z Z Z Z Z Z Z) Z (ae Z (jf [53,19,15,0,2,4,5,6,7,8] Z (ar 4 Z Z Z (fun hx=>ap hx Z (ap hx Z (bg hx (aw (p:=s) (b:=s.getD z.1 0) O Z Z Z Z Z Z Z (by omega) (aS (by have:=oP hx;omega))) Z (ap hx Z (AN.nil))))) Z Z ?_)))
 first|refine aa (aj O Z Z Z Z Z) Z ?_|refine aa (ao O Z Z Z Z Z) Z ?_|refine aa (Val.pickB O Z Z Z Z Z) Z ?_
 refine js Z (jf [59,19,15,0,2,4,5,6,7,8] Z (ar 4 Z Z Z (fun hx=>ap hx Z (ap hx Z (bg hx (aw (p:=s) (b:=s.getD z.1 0) O Z Z Z Z Z Z Z (by omega) (aS (by have:=qe hx;omega))) Z (ap hx Z (AN.nil))))) Z Z ?_))
 first|refine aa (aj O Z Z Z Z Z) Z ?_|refine aa (ao O Z Z Z Z Z) Z ?_|refine aa (Val.pickB O Z Z Z Z Z) Z ?_
 refine js Z (jf [48,19,15,0,2,4,5,6,7,8] Z (jn (ak Z (fun z48=>?_) (fun z48=>?_))))
 refine ag (ac ?_)
 have hl3:=rC.1 z48
 have hin:z.1<s.length:=by have:=hl3.1;omega
 have hnd: ¬(48≤bt s z.1∧bt s z.1≤57):=fun h=>hnd0 ⟨by omega,h.1,h.2⟩
 refine ae Z (jn ?_)
 obtain⟨n1,hn1⟩: ∃n1:Int,n1=if z.2.2.2.1<0 then 1 else z.2.2.2.1:=⟨_,rfl⟩
 have hnb:0≤n1∧n1≤20000009:=by rw[hn1];split<;>omega
 have hm:=ja hi.2.2.2.2.2.1 hnb.1 hnb.2
 obtain⟨j,hj⟩: ∃j:Nat,((s.getD z.1 0).toNat:Int)-97=(j:Int):=⟨(((s.getD z.1 0).toNat:Int)-97).toNat,by have:=hl3.2.1;have:=hl3.2.2;omega⟩
 have hj10:j<10:=by have:=hl3.2.2;omega
 refine bk ⟨[(0,aS8 s),(2,.c (.pt 2 0 0)),(4,.c (.rs 11 0 10)),(5,eI z.2.2.1),(6,eI n1),(7,eI z.2.2.2.2),(8,eI (z.1:Nat))],[(2,.box [.d (.int .i64 0),.d .nils]),(11,cU z.2.1)]⟩ ?_ ?_
 refine ak Z (fun z66=>?_) (fun z66=>?_)
 refine ab (js Z (jn ?_))
 exact⟨Z,Ent.to ⟨Z,Z,Z,Z,congrArg (fun z=>some (eI z)) (show(1:Int)=n1 by rw[hn1,if_pos (bf z66)]),Z,Z,aq⟩ Z⟩
 refine af ?_
 exact⟨Z,Ent.to ⟨Z,Z,Z,Z,congrArg (fun z=>some (eI z)) (show z.2.2.2.1=n1 by rw[hn1,if_neg (bB z66)]),Z,Z,aq⟩ Z⟩
 refine ac (aP Z (aa (aw (p:=s) (b:=s.getD z.1 0) O Z Z Z Z Z Z Z (by omega) (aS hin)) Z (aa ((cm (k:=.u8) (n:=((s.getD z.1 0).toNat:Int)-97) O Z Z (by have:=hl3.2.1;show(0:Int)≤_;omega) (by show _≤(255:Int);omega)).cast (v':=.c (.d (.int .u8 (j:Int)))) (by rw[hj])) Z (ae Z (aa (aM O Z Z (by omega) (by omega)) Z (aa (bH (c:=0≤(j:Int)∧(j:Int)<((10:Nat):Int)) (v:=.c (.pt 11 (0+(j:Int).toNat) 0)) O Z Z (by omega)) Z (jf [75,74,0,2,4,5,6,7,8] Z (bc (b9 (ex:=[.int .i64 (z.2.1.getD j 0)]) (xs':=(z.2.1.set j (z.2.2.2.2*n1)).map (fun n=>[D.int .i64 n])) O Z Z Z Z Z Z Z Z Z Z Z Z Z Z (by simp[hi.2.1,hj10]) (by rw[List.map_set];simp only[Int.toNat_natCast,Nat.zero_add];rfl)) Z (aD ?_)))))))))
 refine aD ?_
 refine jf [0,2,4,5,6,7,8] Z (jn (ab (js Z (jn (ab (js Z ?_))))))
 first|refine ji Z ?_|refine bv Z Z ?_
 refine js Z (jf [8,6,0,2,4,5,7] Z (jn ?_))
 refine⟨(z.1+1,z.2.1.set j (z.2.2.2.2*n1),z.2.2.1,-1,z.2.2.2.2),Ent.to ⟨Z,Z,Z,Z,Z,Z,Z,aq⟩ Z,⟨by show z.1+1≤_;omega,by show(z.2.1.set j _).length=10;rw[List.length_set];exact hi.2.1,pF hi.2.2.1 hm.1 hm.2,hi.2.2.2.1,by show -1≤(-1:Int)∧(-1:Int)≤20000009;omega,hi.2.2.2.2.2.1,fun _=>?_,fun h=>by have h9:z.1+1=s.length+1:=h;omega⟩,by show s.length+1-(z.1+1)<s.length+1-z.1;omega⟩
 show cN (s.drop (z.1+1)) (z.2.1.set j (z.2.2.2.2*n1)) z.2.2.1 (-1) z.2.2.2.2=_
 rw[←hr,pL hin hnd hl3.2.1 hl3.2.2,←hn1,show(s.getD z.1 0).toNat-97=j by omega]
 refine ac (ae Z ?_)
 have hnl0:=fL z48 rC
 refine aa (aV (p:=s) O Z Z Z Z Z Z Z Z Z) Z (ae Z (jf [81,48,19,15,0,2,4,5,6,7,8] Z (ar 4 Z Z Z (fun hx=>ap hx Z (ap hx Z (bg hx (aw (p:=s) (b:=s.getD z.1 0) O Z Z Z Z Z Z Z (by omega) (aS (by have:=r9 hx;omega))) Z (ap hx Z (AN.nil))))) Z Z ?_)))
 first|refine aa (ao O Z Z Z Z Z) Z ?_|refine aa (Val.pickB O Z Z Z Z Z) Z ?_|refine aa (aj O Z Z Z Z Z) Z ?_
 refine js Z (jf [87,48,19,15,0,2,4,5,6,7,8] Z (ar 4 Z Z Z (fun hx=>ap hx Z (ap hx Z (bg hx (aw (p:=s) (b:=s.getD z.1 0) O Z Z Z Z Z Z Z (by omega) (aS (by have:=r8 hx;omega))) Z (ap hx Z (AN.nil))))) Z Z ?_))
 first|refine aa (ao O Z Z Z Z Z) Z ?_|refine aa (Val.pickB O Z Z Z Z Z) Z ?_|refine aa (aj O Z Z Z Z Z) Z ?_
 refine js Z (jf [76,48,19,15,0,2,4,5,6,7,8] Z (jn (ak Z (fun z76=>?_) (fun z76=>?_))))
 refine ag (ac ?_)
 have ht0:=c3o.1 z76
 have ht3:z.1<s.length→bt s z.1=43∨bt s z.1=45:=fun h=>ht0.resolve_left (fun e=>by omega)
 have hnd:z.1<s.length→¬(48≤bt s z.1∧bt s z.1≤57):=fun q h=>hnd0 ⟨by omega,h.1,h.2⟩
 have hnl:z.1<s.length→¬(97≤bt s z.1∧bt s z.1≤106):=fun q h=>hnl0 ⟨by omega,h.1,h.2⟩
 refine ae Z (jn ?_)
 obtain⟨c1,z1⟩: ∃c1:Int,c1=if 0≤z.2.2.2.1 then z.2.2.2.2*z.2.2.2.1 else z.2.2.1:=⟨_,rfl⟩
 have hc1b: -20000009≤c1∧c1≤20000009:=by
  rw[z1];split
  exact ja hi.2.2.2.2.2.1 (by omega) hi.2.2.2.2.1.2
  exact hi.2.2.2.1
 refine bk ⟨[(0,aS8 s),(2,.c (.pt 2 0 0)),(4,.c (.rs 11 0 10)),(5,eI c1),(6,eI z.2.2.2.1),(7,eI z.2.2.2.2),(8,eI (z.1:Nat))],[(2,.box [.d (.int .i64 0),.d .nils]),(11,cU z.2.1)]⟩ ?_ ?_
 refine ak Z (fun z94=>?_) (fun z94=>?_)
 refine ab (ae Z (aa (aM O Z Z (by have:=ja hi.2.2.2.2.2.1 (bf z94) hi.2.2.2.2.1.2;omega) (by have:=ja hi.2.2.2.2.2.1 (bf z94) hi.2.2.2.2.1.2;omega)) Z (js Z (jf [5,94,93,76,48,19,15,0,2,4,6,7,8] Z (jn ?_)))))
 exact⟨Z,Ent.to ⟨Z,Z,Z,congrArg (fun z=>some (eI z)) (show z.2.2.2.2*z.2.2.2.1=c1 by rw[z1,if_pos (bf z94)]),Z,Z,Z,aq⟩ Z⟩
 refine af ?_
 exact⟨Z,Ent.to ⟨Z,Z,Z,congrArg (fun z=>some (eI z)) (show z.2.2.1=c1 by rw[z1,if_neg (bB z94)]),Z,Z,Z,aq⟩ Z⟩
 refine ac (js Z (bM (js Z (bM (ae Z (aa (aV (p:=s) O Z Z Z Z Z Z Z Z Z) Z (ae Z (jf [102,7,6,0,2,4,5,8] Z (ar 4 Z Z Z (fun hx=>ap hx Z (ap hx Z (bg hx (aw (p:=s) (b:=s.getD z.1 0) O Z Z Z Z Z Z Z (by omega) (aS (by have:=oP hx;omega))) Z (ap hx Z (AN.nil))))) Z Z ?_)))))))))
 first|refine aa (aj O Z Z Z Z Z) Z ?_|refine aa (ao O Z Z Z Z Z) Z ?_|refine aa (Val.pickB O Z Z Z Z Z) Z ?_
 refine jf [107,7,6,0,2,4,5,8] Z (jn ?_)
 obtain⟨sg1,hsgv⟩: ∃sg1:Int,sg1=if z.1<s.length then(if bt s z.1=45 then -1 else 1)else 1:=⟨_,rfl⟩
 have hsg1:sg1=1∨sg1= -1:=by
  rw[hsgv];split
  split
  exact .inr Z
  exact .inl Z
  exact .inl Z
 refine bk ⟨[(0,aS8 s),(2,.c (.pt 2 0 0)),(4,.c (.rs 11 0 10)),(5,eI c1),(6,eI (-1)),(7,eI sg1),(8,eI (z.1:Nat))],[(2,.box [.d (.int .i64 0),.d .nils]),(11,cU z.2.1)]⟩ ?_ ?_
 refine ak Z (fun z107=>?_) (fun z107=>?_)
 refine ab (js Z (jn ?_))
 exact⟨Z,Ent.to ⟨Z,Z,Z,Z,Z,congrArg (fun z=>some (eI z)) (show(-1:Int)=sg1 by have h9:=rE.1 z107;rw[hsgv,if_pos (by omega),if_pos h9.2]),Z,aq⟩ Z⟩
 refine af ?_
 exact⟨Z,Ent.to ⟨Z,Z,Z,Z,Z,congrArg (fun z=>some (eI z)) (show(1:Int)=sg1 by rw[hsgv,pE (fun e=>fL z107 rE ⟨by have:=e.1;omega,e.2⟩)]),Z,aq⟩ Z⟩
 refine ab (js Z ?_)
 first|refine ji Z ?_|refine bv Z Z ?_
 refine js Z (jf [8,0,2,4,5,6,7] Z (jn ?_))
 refine⟨(z.1+1,z.2.1,c1,-1,sg1),Ent.to ⟨Z,Z,Z,Z,Z,Z,Z,aq⟩ Z,⟨by show z.1+1≤_;omega,hi.2.1,hi.2.2.1,hc1b,by show -1≤(-1:Int)∧(-1:Int)≤20000009;omega,hsg1,fun h=>?_,fun h=>?_⟩,by show s.length+1-(z.1+1)<s.length+1-z.1;omega⟩
 have h9:z.1+1≤s.length:=h
 show cN (s.drop (z.1+1)) z.2.1 c1 (-1) sg1=_
 have hsn:=ht3 (by omega)
 rw[←hr,pJ (by omega) (hnd (by omega)) (hnl (by omega)) hsn,←z1,hsgv,if_pos (by omega)]
 have h9:z.1+1=s.length+1:=h
 show cN s (zr 10) 0 (-1) 1=some (z.2.1,c1)
 rw[←hr,show z.1=s.length by omega,ot,←z1]
 refine ac ?_
 have ht0:=fL z76 c3o
 have hin:z.1<s.length:=by have: ¬(z.1:Int)=(s.length:Int):=fun e=>ht0 (.inl e);omega
 have hnone:cN s (zr 10) 0 (-1) 1=none:=by
  rw[←hr,ou hin (fun h=>hnd0 ⟨by omega,h.1,h.2⟩) (fun h=>hnl0 ⟨by omega,h.1,h.2⟩)]
  exact fun h=>ht0 (.inr h)
 refine js Z (jo Z (aD ?_))
 refine js Z (jr ?_)
 refine az Z ?_
 rw[m8 hnone]
 exact .tup (.cons (.agg (.cons .d (.cons .nils .nil))) (.cons (.c .d) .nil))
 refine aZ (ac ?_)
 have hz1:z.1=s.length+1:=by have:=bB z15;omega
 have hr:=hi.2.2.2.2.2.2.2 hz1
 refine aU (Ent.freeze 11 (e':=[(0,_),(2,_),(4,_),(5,_)]) Z (.cons Z (.keep Z) (.cons Z (.keep Z) (.cons Z (.c (.row Z (by rw[cz,hi.2.1]))) (fe [5] Z)))) (pp Z (.skip .nil))) ?_
 refine ae Z (au O Z Z Z Z (se (c:=z.2.2.1) (xs:=z.2.1) h1 h2) (al Z) Z Z Z Z (B0:=112000) Z Z (aP Z (jf [113,112,0,2,4,5] Z (jl Z (aD ?_)))))
 refine jo Z (aD ?_)
 refine js Z (jf [10,9,0,2,4,5] Z (jn (ag (ac (aP Z (jf [116,9,0,2,4,5] Z (ar 3 Z Z Z (fun hx=>bO O hx Z Z Z Z (pj (t:=(ix z.2.2.1 z.2.1).1) h1 h2 (nf (by simpa using hx))) (.cons (.c (.pb (cs:=(ix z.2.2.1 z.2.1).1.cells) Z (bK Z))) .nil) Z Z Z Z Z Z Z (B0:=118000) Z (ap hx Z (bg hx (dN (p:=tS (ix z.2.2.1 z.2.1).1) (q:=s) O Z Z Z Z Z Z) Z (AN.nil)))) Z Z ?_)))))))
 first|refine aa (ao O Z Z Z Z Z) Z ?_|refine aa (Val.pickB O Z Z Z Z Z) Z ?_|refine aa (aj O Z Z Z Z Z) Z ?_
 refine jf [120,9,0,2,4,5] Z (jn (ak Z (fun z120=>?_) (fun z120=>?_)))
 refine ac (js Z (jo Z (aD ?_)))
 refine js Z (jr ?_)
 refine az Z ?_
 have hno:l7 s=none:=by rw[m7 hr,if_neg];intro hh;revert z120;simp[hh.1,hh.2]
 rw[hno]
 exact .tup (.cons (.agg (.cons .d (.cons .nils .nil))) (.cons (.c .d) .nil))
 refine af (ac (js Z (jo Z (aD ?_))))
 refine js Z (jr ?_)
 refine az Z ?_
 have hyes:l7 s=some (ix z.2.2.1 z.2.1).1:=by rw[m7 hr,if_pos];revert z120;cases h7:(ix z.2.2.1 z.2.1).2<;>simp
 rw[hyes]
 exact .tup (.cons (.agg (bK Z)) (.cons (.c .d) .nil))
end Go.Al
/- Lemmas for the walks of both readers of sequents. -/
namespace Go.Al
variable{L:Nat}(h1:4096≤L)(h2:L≤1073741824)
open Go.Lib
theorem dJ(c:UInt8): ∀s:Str,(aC c s).length≤s.length+1
 | []=>bD _
 | b::r=>by
  have ih:=dJ c r
  rw[aC]
  split
  simp only[er];omega
  simp only[er,List.length_tail];omega
theorem gH{c:UInt8}{s:Str}: ∀p∈aC c s,p.length≤s.length:=by
 intro p hp
 rw[←dq]at hp
 exact e5 p hp
theorem cw{T:Type}{rd:Str→Option T}: ∀{a:List Str} {ts:List T} {x:Str} {t:T},aI rd a=some ts→rd x=some t→aI rd (a++[x])=some (ts++[t])
 | [],ts,x,t,h1,h2=>by
  rw[aI]at h1;cases h1
  rw[List.nil_append,aI,h2,aI];rfl
 | y::r,ts,x,t,h1,h2=>by
  rw[aI]at h1
  rw[List.cons_append,aI]
  split at h1
  cases h1
  rename_i t' ht
  split at h1
  cases h1
  rename_i ts' hts
  cases h1
  rw[cw hts h2];rfl
theorem cT{T:Type}{rd:Str→Option T}: ∀{a b:List Str} {x:Str},rd x=none→aI rd (a++x::b)=none
 | [],b,x,h=>by rw[List.nil_append,aI,h]
 | y::r,b,x,h=>by
  rw[List.cons_append,aI]
  split
  rfl
  rw[cT h]
theorem pN{r:Option Tm}(h:(fo r).2=true):r=some (fo r).1:=by
 cases r with
 | none=>cases h
 | some t=>rfl
theorem pO{r:Option Tm}(h:(fo r).2=false):r=none:=by
 cases r with
 | none=>rfl
 | some t=>cases h
variable{t:Tm}
theorem p8{s:Str}(hs:s.length≤1100000)(hy:fj s=some t):MQ h1 h2 12 [aS8 s] [] (Rows (.tup [.agg [.d (.int .i64 t.c),.rs 0 0 t.xs.length],eB true]) [cU t.xs]):=by
 refine di (jB 120 h1 h2 Tryd.func12 Z fun O hF=>?_)
 refine ac (jl Z (aD ?_))
 refine js Z (bM (bc (jE O Z Z Z Z Z Z Z Z Z (by first|omega|(simp at *;omega)) (by first|omega|(simp at *;omega)) (by first|omega|(simp at *;omega)) (by first|omega|(dsimp only;omega)|(simp only[bj]at *;omega)) (by first|omega|(simp at *;omega)) Z Z Z) Z (aD ?_)))
 refine js Z (jf [10,3,2,0] Z (jl Z (aD ?_)))
 refine jo Z (aD ?_)
 refine jn (ag (ac (js Z (jn (am (ax (X:=Nat×List Int×Int) (fun z=>⟨[(0,aS8 s),(2,.c (.pt 2 0 0)),(4,.c (.pt 4 0 0)),(5,eI (z.1:Nat))],[(2,.box [.d (.int .i64 0),.d .nils]),(4,.box [.d (.int .i64 z.2.2),.rs 9 0 10]),(9,cU z.2.1)]⟩) (fun z=>z.1≤s.length∧z.2.1.length=10∧(∀y∈z.2.1,-(100000000*(z.1:Int))≤y∧y≤100000000*(z.1:Int))∧(-(100000000*(z.1:Int))≤z.2.2∧z.2.2≤100000000*(z.1:Int))∧fW (s.drop z.1) z.2.1 z.2.2=fW s (zr 10) 0) (fun z=>s.length-z.1) (0,zr 10,0) (Ent.to ⟨Z,Z,Z,Z,aq⟩ Z) ?_ (fun z hi=>?_)))))))
 exact⟨dU _,Z,fun y hy=>by rw[show y=0 from List.eq_of_mem_replicate hy];simp,by simp,Z⟩
 refine ag (ac (ae Z (aa (aV (p:=s) O Z Z Z Z Z Z Z Z Z) Z (js Z (jf [14,0,2,4,5] Z (jn (ak Z (fun z14=>?_) (fun z14=>?_))))))))
 refine af (am (ac (js Z (jn (ag (ac (ae Z ?_)))))))
 have hz0:z.1<s.length:=by have:=bf z14;omega
 have hiz:=hi
 obtain⟨sg,i1,hsg,hi1,hsg1,hsv⟩:=lQ hz0
 refine aa (aw (p:=s) (b:=s.getD z.1 0) O Z Z Z Z Z Z Z (by omega) (aS hz0)) Z (jf [17,6,14,0,2,4,5] Z (jn (bk ⟨[(0,aS8 s),(2,.c (.pt 2 0 0)),(4,.c (.pt 4 0 0)),(5,eI (i1:Nat)),(6,eI sg)],[(2,.box [.d (.int .i64 0),.d .nils]),(4,.box [.d (.int .i64 z.2.2),.rs 9 0 10]),(9,cU z.2.1)]⟩ ?_ ?_)))
 refine am (ac (ae Z (jn (ak Z (fun z18=>?_) (fun z18=>?_)))))
 refine ac (js Z (jn (ab (js Z ?_))))
 first|refine ji Z ?_|refine bv Z Z ?_
 refine js Z (jf [5,6,18,19,17,14,0,2,4] Z (jn ?_))
 exact⟨Z,Ent.to ⟨Z,Z,Z,congrArg (fun z=>some (eI z)) (show(z.1:Int)+1=(i1:Int) by rw[if_pos (bf z18)]at hsv;omega),congrArg (fun z=>some (eI z)) (show(-1:Int)=sg by rw[if_pos (bf z18)]at hsv;omega),aq⟩ Z⟩
 refine ac (ae Z (jn (ak Z (fun z22=>?_) (fun z22=>?_))))
 refine ab (js Z ?_)
 first|refine ji Z ?_|refine bv Z Z ?_
 refine js Z (jf [5,22,23,18,19,17,6,14,0,2,4] Z (jn ?_))
 exact⟨Z,Ent.to ⟨Z,Z,Z,congrArg (fun z=>some (eI z)) (show(z.1:Int)+1=(i1:Int) by rw[if_neg (bB z18),if_pos (bf z22)]at hsv;omega),congrArg (fun z=>some (eI z)) (show(1:Int)=sg by rw[if_neg (bB z18),if_pos (bf z22)]at hsv;omega),aq⟩ Z⟩
 refine af ?_
 exact⟨Z,Ent.to ⟨Z,Z,Z,congrArg (fun z=>some (eI z)) (show(z.1:Int)=(i1:Int) by rw[if_neg (bB z18),if_neg (bB z22)]at hsv;omega),congrArg (fun z=>some (eI z)) (show(1:Int)=sg by rw[if_neg (bB z18),if_neg (bB z22)]at hsv;omega),aq⟩ Z⟩
 refine ac (aP Z (jn (ag (am (ax (X:=Nat×Int) (fun y=>⟨[(0,aS8 s),(2,.c (.pt 2 0 0)),(4,.c (.pt 4 0 0)),(5,eI (y.1:Nat)),(6,eI sg),(7,eI (i1:Nat)),(8,eI y.2)],[(2,.box [.d (.int .i64 0),.d .nils]),(4,.box [.d (.int .i64 z.2.2),.rs 9 0 10]),(9,cU z.2.1)]⟩) (fun y=>i1≤y.1∧y.1≤s.length∧y.1≤i1+8∧0≤y.2∧y.2<10^(y.1-i1)∧bm (8-(y.1-i1)) y.2 (s.drop y.1)=bm 8 0 (s.drop i1)) (fun y=>s.length-y.1) (i1,0) (Ent.to ⟨Z,Z,Z,Z,Z,Z,Z,aq⟩ Z) ?_ (fun y hi=>?_))))))
 exact⟨bD _,hi1.2.2,by show i1≤i1+8;omega,Int.le_refl _,by show(0:Int)<10^(i1-i1);rw[Nat.sub_self];decide,by show bm (8-(i1-i1)) 0 _=_;rw[Nat.sub_self]⟩
 refine ag (ac (ae Z (aa (aV (p:=s) O Z Z Z Z Z Z Z Z Z) Z (ae Z (jf [31,0,2,4,5,6,7,8] Z (ar 4 Z Z Z (fun hx=>ap hx Z (ap hx Z (bg hx (aw (p:=s) (b:=s.getD y.1 0) O Z Z Z Z Z Z Z (by omega) (aS (by have:=oP hx;omega))) Z (ap hx Z (AN.nil))))) Z Z ?_))))))
 first|refine aa (aj O Z Z Z Z Z) Z ?_|refine aa (ao O Z Z Z Z Z) Z ?_|refine aa (Val.pickB O Z Z Z Z Z) Z ?_
 refine js Z (jf [37,0,2,4,5,6,7,8] Z (ar 4 Z Z Z (fun hx=>ap hx Z (ap hx Z (bg hx (aw (p:=s) (b:=s.getD y.1 0) O Z Z Z Z Z Z Z (by omega) (aS (by have:=qe hx;omega))) Z (ap hx Z (AN.nil))))) Z Z ?_))
 first|refine aa (aj O Z Z Z Z Z) Z ?_|refine aa (ao O Z Z Z Z Z) Z ?_|refine aa (Val.pickB O Z Z Z Z Z) Z ?_
 refine js Z (jf [43,0,2,4,5,6,7,8] Z (ar 4 Z Z Z (fun hx=>ap hx Z (ap hx Z (bg hx (vF Z) Z (ap hx Z (AN.nil))))) Z Z ?_))
 first|refine aa (aj O Z Z Z Z Z) Z ?_|refine aa (ao O Z Z Z Z Z) Z ?_|refine aa (Val.pickB O Z Z Z Z Z) Z ?_
 refine jf [48,0,2,4,5,6,7,8] Z (jn (ak Z (fun z48=>?_) (fun z48=>?_)))
 refine af (ag (am (ab ?_)))
 have z4:=sI.1 z48
 have hc4n:y.1<s.length:=by have:=z4.1;omega
 have hp8:=lv (k:=y.1-i1) (by omega)
 have hby:0≤((s.getD y.1 0).toNat:Int)∧((s.getD y.1 0).toNat:Int)≤255:=iE s y.1
 refine js Z ?_
 first|refine ji Z ?_|refine bv Z Z ?_
 refine ae Z (aa (aw (p:=s) (b:=s.getD y.1 0) O Z Z Z Z Z Z Z (by omega) (aS hc4n)) Z (aa (cm (k:=.u8) (n:=((s.getD y.1 0).toNat:Int)-48) O Z Z (by show(0:Int)≤_;omega) (by show _≤(255:Int);omega)) Z (aa ((Val.conv (b:=true) (dt:=.int .u8) O Z Z Z (by kernel_rfl) (by kernel_rfl)).cast (v':=eI (((s.getD y.1 0).toNat:Int)-48)) (by rw[cP .i64 _ (by show(-9223372036854775808:Int)≤_;omega) (by show _≤(9223372036854775807:Int);omega)])) Z ?_)))
 first|refine ji Z ?_|refine bv Z Z ?_
 refine js Z (jf [8,48,0,2,4,5,6,7] Z (jn (ab (js Z ?_))))
 first|refine ji Z ?_|refine bv Z Z ?_
 refine js Z (jf [5,8,48,0,2,4,6,7] Z (jn ?_))
 refine⟨(y.1+1,10*y.2+(((s.getD y.1 0).toNat:Int)-48)),Ent.to ⟨Z,Z,Z,Z,Z,Z,Z,aq⟩ Z,⟨by show i1≤y.1+1;omega,by show y.1+1≤_;omega,by show y.1+1≤i1+8;omega,by show 0≤10*y.2+(((s.getD y.1 0).toNat:Int)-48);omega,?_,?_⟩,by show s.length-(y.1+1)<s.length-y.1;omega⟩
 show 10*y.2+(((s.getD y.1 0).toNat:Int)-48)<10^(y.1+1-i1)
 rw[show y.1+1-i1=(y.1-i1)+1 by omega]
 exact j5 hi.2.2.2.2.1 (by omega)
 show bm (8-(y.1+1-i1)) (10*y.2+(((s.getD y.1 0).toNat:Int)-48)) (s.drop (y.1+1))=_
 rw[←hi.2.2.2.2.2,show 8-(y.1-i1)=(8-(y.1+1-i1))+1 by omega,jX hc4n z4.2.1 z4.2.2.1]
 refine aZ (am (ac ?_))
 have hend:=gZ (s:=s) (i:=y.1) (i1:=i1) (n:=y.2) (fun hh=>fL z48 sI ⟨by omega,hh.2.1,hh.2.2.1,by omega⟩) hi.1 hi.2.2.1 hi.2.1
 rw[hi.2.2.2.2.2]at hend
 have hst0:=m2 hsg hend hi.1 hi.2.1
 have hp8:=lv (k:=y.1-i1) (by omega)
 have hby:0≤((s.getD y.1 0).toNat:Int)∧((s.getD y.1 0).toNat:Int)≤255:=iE s y.1
 refine ae Z ?_
 have hiy:=hi
 refine aa (aV (p:=s) O Z Z Z Z Z Z Z Z Z) Z (ae Z (jf [71,48,0,2,4,5,6,7,8] Z (ar 4 Z Z Z (fun hx=>ap hx Z (ap hx Z (bg hx (aw (p:=s) (b:=s.getD y.1 0) O Z Z Z Z Z Z Z (by omega) (aS (by have:=oP hx;omega))) Z (ap hx Z (AN.nil))))) Z Z ?_)))
 first|refine aa (aj O Z Z Z Z Z) Z ?_|refine aa (ao O Z Z Z Z Z) Z ?_|refine aa (Val.pickB O Z Z Z Z Z) Z ?_
 refine js Z (jf [77,48,0,2,4,5,6,7,8] Z (ar 4 Z Z Z (fun hx=>ap hx Z (ap hx Z (bg hx (aw (p:=s) (b:=s.getD y.1 0) O Z Z Z Z Z Z Z (by omega) (aS (by have:=qe hx;omega))) Z (ap hx Z (AN.nil))))) Z Z ?_))
 first|refine aa (aj O Z Z Z Z Z) Z ?_|refine aa (ao O Z Z Z Z Z) Z ?_|refine aa (Val.pickB O Z Z Z Z Z) Z ?_
 refine js Z (jf [66,48,0,2,4,5,6,7,8] Z (jn (ak Z (fun z66=>?_) (fun z66=>?_))))
 refine ag (ac ?_)
 have z3:=rC.1 z66
 have hc3n:y.1<s.length:=by have:=z3.1;omega
 refine aP Z (jf [85,66,48,0,2,4,5,6,7,8] Z (jn ?_))
 obtain⟨n1,hn1⟩: ∃n1,n1=if y.1=i1 then 1 else y.2:=⟨_,rfl⟩
 have hnb:0≤n1∧n1≤100000000:=by rw[hn1];split<;>omega
 have hm1: -100000000≤sg*n1:=by rcases hsg1 with e|e<;>rw[e]<;>omega
 have hm2:sg*n1≤100000000:=by rcases hsg1 with e|e<;>rw[e]<;>omega
 obtain⟨j,hj⟩: ∃j:Nat,((s.getD y.1 0).toNat:Int)-97=(j:Int):=⟨(((s.getD y.1 0).toNat:Int)-97).toNat,by omega⟩
 have hj10:j<10:=by omega
 have hgj:=nj (i:=j) (B:=100000000*(z.1:Int)) (by omega) hiz.2.2.1
 have hst:kB (s.drop z.1)=some (s.drop (y.1+1),some j,sg*n1):=by rw[hst0,if_pos ⟨hc3n,z3.2.1,z3.2.2⟩,←hn1,show(s.getD y.1 0).toNat-97=j by omega]
 refine bk ⟨[(0,aS8 s),(2,.c (.pt 2 0 0)),(4,.c (.pt 4 0 0)),(5,eI (y.1:Nat)),(6,eI sg),(8,eI n1)],[(2,.box [.d (.int .i64 0),.d .nils]),(4,.box [.d (.int .i64 z.2.2),.rs 9 0 10]),(9,cU z.2.1)]⟩ ?_ ?_
 refine ak Z (fun z85=>?_) (fun z85=>?_)
 refine ab (js Z (jn ?_))
 exact⟨Z,Ent.to ⟨Z,Z,Z,Z,Z,congrArg (fun z=>some (eI z)) (show(1:Int)=n1 by rw[hn1,if_pos (by have:=bf z85;omega)]),aq⟩ Z⟩
 refine af ?_
 exact⟨Z,Ent.to ⟨Z,Z,Z,Z,Z,congrArg (fun z=>some (eI z)) (show y.2=n1 by rw[hn1,if_neg (by have:=bB z85;omega)]),aq⟩ Z⟩
 refine ag ?_
 have hi:=hiz
 refine nX [_,_,_,_,_,_,_,_,_,_,_,_,_,_] [cO,cd [0],cO,cO,cd [2,3],cd [2,3,4],cd (rg 0 6),cd (rg 0 7),cO,cO,cd [8,9],cd (rg 0 11),cd (rg 0 12),pe (rg 0 13) 0] [13] [_,_] (qs Z (ai (aw (p:=s) (b:=s.getD y.1 0) O Z Z Z Z Z Z Z (by omega) (aS hc3n)) (ai ((cm (k:=.u8) (n:=((s.getD y.1 0).toNat:Int)-97) O Z Z (by show(0:Int)≤_;omega) (by show _≤(255:Int);omega)).cast (v':=.c (.d (.int .u8 (j:Int)))) (by rw[hj])) (ai (bH (c:=0≤(j:Int)∧(j:Int)<((10:Nat):Int)) (v:=.c (.pt 9 (0+(j:Int).toNat) 0)) O Z Z (by omega)) (ai (dm O (ex:=[.int .i64 (z.2.1.getD j 0)]) Z Z Z Z (by simp[hi.2.1,hj10]) Z) (kc Z (kc Z (ai (aM O Z Z (by omega) (by omega)) (ai (aM O Z Z (by omega) (by omega)) (ai (bH (c:=0≤(j:Int)∧(j:Int)<((10:Nat):Int)) (v:=.c (.pt 9 (0+(j:Int).toNat) 0)) O Z Z (by omega)) (ai (fG (ex:=[.int .i64 (z.2.1.getD j 0)]) (xs':=(bR z.2.1 j (sg*n1)).map (fun n=>[D.int .i64 n])) O Z Z Z Z Z Z Z Z Z Z Z Z Z Z Z (by simp[hi.2.1,hj10]) (by unfold bR;rw[List.map_set];simp only[Int.toNat_natCast,Nat.zero_add];rfl) Z) trivial))))))))))) ?_
 refine ab (js Z ?_)
 first|refine ji Z ?_|refine bv Z Z ?_
 refine js Z (jf [5,98,97,96,95,94,93,92,91,90,89,88,87,86,0,2,4,6,8] Z (jn ?_))
 refine⟨(y.1+1,bR z.2.1 j (sg*n1),z.2.2),Ent.to ⟨Z,Z,Z,Z,aq⟩ Z,⟨by show y.1+1≤_;omega,by show(bR _ _ _).length=10;rw[iZ];exact hiz.2.1,?_,?_,?_⟩,by show s.length-(y.1+1)<s.length-z.1;omega⟩
 exact fun q hq=>by have:=kn (B:=100000000*(z.1:Int)) (M:=100000000) (by omega) hiz.2.2.1 hm1 hm2 q hq;show -(100000000*((y.1+1:Nat):Int))≤q∧q≤100000000*((y.1+1:Nat):Int);omega
 show -(100000000*((y.1+1:Nat):Int))≤z.2.2∧z.2.2≤100000000*((y.1+1:Nat):Int);have:=hiz.2.2.2.1;omega
 show fW (s.drop (y.1+1)) (bR z.2.1 j (sg*n1)) z.2.2=_
 rw[←jp hst,hiz.2.2.2.2]
 refine ac ?_
 have z3:=fL z66 rC
 rw[if_neg (fun hh=>z3 ⟨by omega,hh.2.1,hh.2.2⟩)]at hst0
 refine bn Z (jf [101,66,48,0,2,4,5,6,7,8] Z (jn (ak Z (fun z101=>?_) (fun z101=>?_))))
 refine ac (js Z (jo Z (aD ?_)))
 refine js Z (jr ?_)
 exact absurd (hy.symm.trans (nc (by rw[←hiz.2.2.2.2,jY (by rw[bT hz0];simp) (by rw[hst0,if_pos (by have:=bf z101;omega)])]))) (by simp)
 refine ab ?_
 have hne: ¬y.1=i1:=by have:=bB z101;omega
 have hst:=hst0
 rw[if_neg hne]at hst
 have hm1: -100000000≤sg*y.2:=by rcases hsg1 with e|e<;>rw[e]<;>omega
 have hm2:sg*y.2≤100000000:=by rcases hsg1 with e|e<;>rw[e]<;>omega
 have hi:=hiz
 refine bn Z ?_
 first|refine ji Z ?_|refine bv Z Z ?_
 first|refine ji Z ?_|refine bv Z Z ?_
 refine js Z (jf [65,64,101,66,48,0,2,4,5,6,7,8] Z (jo Z (aD ?_)))
 refine jf [101,66,48,0,2,4,5,6,7,8] Z (jn ?_)
 refine⟨(y.1,z.2.1,z.2.2+sg*y.2),Ent.to ⟨Z,Z,Z,Z,aq⟩ Z,⟨by show y.1≤_;omega,hiz.2.1,?_,?_,?_⟩,by show s.length-y.1<s.length-z.1;omega⟩
 exact fun q hq=>by have:=hiz.2.2.1 q hq;show -(100000000*(y.1:Int))≤q∧q≤100000000*(y.1:Int);omega
 show -(100000000*(y.1:Int))≤z.2.2+sg*y.2∧z.2.2+sg*y.2≤100000000*(y.1:Int);have:=hiz.2.2.2.1;omega
 show fW (s.drop y.1) z.2.1 (z.2.2+sg*y.2)=_
 rw[←gu hst,hiz.2.2.2.2]
 refine aZ (ac ?_)
 have hz1:z.1=s.length:=by have:=bB z14;omega
 have hr:=hi.2.2.2.2
 rw[hz1,List.drop_length,dK]at hr
 refine aU (Ent.freeze 9 (e':=[(0,_),(2,_),(4,_)]) Z (fe [0,2,4] Z) (pp Z (.cons Z (.box (qt Z (.cons (.row Z (by rw[cz,hi.2.1])) .nil))) (.skip .nil)))) ?_
 refine js Z (au O Z Z Z Z (qB (t:=(⟨z.2.2,z.2.1⟩:Tm)) h1 h2) (al Z) Z Z Z Z (B0:=108000) Z Z (jf [107,0,2,4] Z (jo Z (aD ?_))))
 refine jn (ag (ac (js Z (cH Z (py (t:=(⟨z.2.2,bh z.2.1⟩:Tm)) h1 h2) 110000 Z (ae Z (jf [111,107,0,2,4] Z (ar 4 Z Z Z (fun hx=>ap hx Z (bO O hx Z Z Z Z (pm (t:=(⟨z.2.2,bh z.2.1⟩:Tm)) h1 h2 (by simpa using hx)) (al Z) Z Z Z Z Z Z Z (B0:=114000) Z (ap hx Z (bg hx (dN (p:=tS (⟨z.2.2,bh z.2.1⟩:Tm)) (q:=s) O Z Z Z Z Z Z) Z (AN.nil))))) Z Z ?_)))))))
 first|refine aa (ao O Z Z Z Z Z) Z ?_|refine aa (Val.pickB O Z Z Z Z Z) Z ?_|refine aa (aj O Z Z Z Z Z) Z ?_
 refine jf [116,107,0,2,4] Z (jn (ak Z (fun z116=>?_) (fun z116=>?_)))
 refine ac (js Z (jo Z (aD ?_)))
 refine js Z (jr ?_)
 have hno:fj s=none:=by rw[i7 hr.symm,if_neg];intro hh;revert z116;simp[hh.1,hh.2]
 exact absurd (hy.symm.trans hno) (by simp)
 refine af (ac (js Z (ba O (B0:=120000) Z Z Z Z (rn (t:=(⟨z.2.2,bh z.2.1⟩:Tm)) h1 h2) (al Z) Z Z Z Z Z Z (aD ?_))))
 refine jf [119,116,107,0,2,4] Z (jo Z (aD ?_))
 refine js Z (jr ?_)
 have hyes:fj s=some (⟨z.2.2,bh z.2.1⟩:Tm):=by rw[i7 hr.symm,if_pos];revert z116;cases h7:Tm.ok (⟨z.2.2,bh z.2.1⟩:Tm)<;>simp
 obtain rfl:=Option.some.inj (hy.symm.trans hyes)
 refine⟨.inl Z,_,dd,_,Z,[120000],by decide,Z,Z,Z⟩
end Go.Al
