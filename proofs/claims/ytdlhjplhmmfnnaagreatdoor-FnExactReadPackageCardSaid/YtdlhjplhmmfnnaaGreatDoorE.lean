/- Texts of terms, proofs and instructions: plain Lean, the readers of both sides, walked. -/
import Derived.Lib.ItoaNum
import Derived.Lib.Split
import Derived.Test.YtdlhjplhmmfnnaaGreatDoorH
import Derived.Test.YtdlhjplhmmfnnaaGreatDoorC
import Derived.Test.YtdlhjplhmmfnnaaGreatDoorS
import Derived.Lib.ParseIntBTie
import Derived.WalkKit
import Derived.Deep.QuietTactic
import Derived.BigQuiet
set_option linter.unusedVariables false
set_option linter.unusedSimpArgs false
set_option maxRecDepth 10000
set_option maxHeartbeats 4000000
open Go.Proofs
/- Terms as texts, in plain Lean: what is written, what is read, and that a written term is read back. -/
namespace Go.Al
variable{L:Nat}(h1:4096≤L)(h2:L≤1073741824)
open Go.Lib
abbrev Str:=List UInt8
def io(i:Nat):UInt8:=UInt8.ofNat (97+i)
def dT(out:Str)(n:Int):Str:=if n<0 then[45]else if out=[]then[]else[43]
def tC(out:Str)(i:Nat)(c:Int):Str:=if c=0 then out else out++dT out c++(if c.natAbs=1 then[]else decDigits c.natAbs)++[io i]
def tX:Nat→List Int→Str→Str
  | _,[],out=>out
  | i,c::r,out=>tX (i+1) r (tC out i c)
def tK(out:Str)(c:Int):Str:=if c=0 then out else out++dT out c++decDigits c.natAbs
def tZ(out:Str):Str:=if out=[]then[48]else out
def w4(c:Int)(xs:List Int):Str:=tZ (tK (tX 0 xs []) c)

def iY(b:UInt8):Bool:=decide (48≤b.toNat)&&decide (b.toNat≤57)
def sk(b:UInt8):Bool:=decide (97≤b.toNat)&&decide (b.toNat<107)
def bW:Nat→Int→Str→Int×Str
  | 0,n,l=>(n,l)
  | _+1,n,[]=>(n,[])
  | k+1,n,b::r=>if iY b then bW k (10*n+(b.toNat-48:Int)) r else(n,b::r)
theorem gX{k:Nat}{n:Int}{b:UInt8}{r:Str}(h:iY b=false):bW k n (b::r)=(n,b::r):=by
 cases k with
 | zero=>rfl
 | succ k=>rw[bW,if_neg (by simp[h])]
theorem lX{k:Nat}{n:Int}:bW k n []=(n,[]):=by cases k<;>rfl
theorem cj{d:Nat}(h:d<10):(UInt8.ofNat (48+d)).toNat=48+d:=by
 rw[UInt8.toNat_ofNat'];omega
theorem lY{k:Nat}{n:Int}{d:Nat}(h:d<10){r:Str}:bW (k+1) n (UInt8.ofNat (48+d)::r)=bW k (10*n+d) r:=by
 rw[bW,if_pos (by unfold iY;rw[cj h];simp;omega),cj h]
 congr 1;omega
theorem lZ(m:Nat): ∀(k:Nat) (n:Int) (r:Str),nDigits m≤k→bW k n (decDigits m++r)=bW (k-nDigits m) (n*(10^nDigits m:Nat)+m) r:=by
 induction m using Nat.strongRecOn with
 | _ m ih=>
  intro k n r hk
  by_cases h:m<10
  rw[decDigits,dif_pos h,nDigits_small h]at *
  obtain⟨k,rfl⟩: ∃j,k=j+1:=⟨k-1,by omega⟩
  rw[List.singleton_append,lY h,Nat.add_sub_cancel]
  congr 1;simp;omega
  rw[nDigits_big h]at hk ⊢
  rw[decDigits,dif_neg h,dh,List.singleton_append,ih (m/10) (by omega) k n _ (by omega)]
  obtain⟨j,hj⟩: ∃j,k-nDigits (m/10)=j+1:=⟨k-nDigits (m/10)-1,by omega⟩
  rw[hj,lY (Nat.mod_lt _ (by decide)),show k-(nDigits (m/10)+1)=j by omega]
  congr 1
  rw[Nat.pow_succ,Int.natCast_mul]
  have:(m:Int)=10*((m/10:Nat):Int)+((m%10:Nat):Int):=by omega
  generalize (10^nDigits (m/10):Nat)=p at *
  rw[Int.mul_add,Int.add_assoc,←this]
  congr 1
  rw[show((10:Nat):Int)=10 from Z,Int.mul_comm 10 (n*_),Int.mul_assoc]
theorem fL{m k:Nat}(h:m<10^(k+1)):nDigits m≤k+1:=by
 induction k generalizing m with
 | zero=>rw[nDigits_small (by simpa using h)];exact bQ _
 | succ k ih=>
  by_cases hm:m<10
  rw[nDigits_small hm];omega
  rw[nDigits_big hm]
  have:=ih (m:=m/10) (by rw[Nat.pow_succ]at h;omega)
  omega
theorem dy(m:Nat):decDigits m≠[]:=by
 rw[decDigits];split<;>simp
theorem fi(m:Nat): ∀b∈decDigits m,iY b=true:=by
 induction m using Nat.strongRecOn with
 | _ m ih=>
  intro b hb
  rw[decDigits]at hb
  split at hb
  rename_i h
  rw[List.mem_singleton.1 hb];unfold iY;rw[cj h];simp;omega
  rename_i h
  rcases List.mem_append.1 hb with hb|hb
  exact ih (m/10) (by omega) b hb
  rw[List.mem_singleton.1 hb];unfold iY;rw[cj (Nat.mod_lt _ (by decide))];simp;omega
theorem nM: ∀(k:Nat) (n:Int) (l:Str),(bW k n l).2.length≤l.length
 | 0,n,l=>bQ _
 | k+1,n,[]=>bQ _
 | k+1,n,b::r=>by
  rw[bW]
  split
  exact Nat.le_trans (nM k _ r) (Nat.le_succ _)
  exact bQ _
def kv:Str→Int×Str
  | []=>(1,[])
  | b::r=>if b=45 then(-1,r)else if b=43 then(1,r)else(1,b::r)
theorem vm(l:Str):(kv l).2.length≤l.length:=by
 cases l with
 | nil=>exact bQ _
 | cons b r=>
  rw[kv]
  split
  exact Nat.le_succ _
  split
  exact Nat.le_succ _
  exact bQ _
def cw(xs:List Int)(i:Nat)(n:Int):List Int:=xs.set i (xs.getD i 0+n)
def oP(l:Str):Option (Str×Option Nat×Int):=
  let a:=kv l
  let d:=bW 8 0 a.2
  match d.2 with
  | b::r=>if sk b then some (r,some (b.toNat-97),a.1*(if d.2.length=a.2.length then 1 else d.1))else if d.2.length=a.2.length then none else some (d.2,none,a.1*d.1)
  | []=>if d.2.length=a.2.length then none else some (d.2,none,a.1*d.1)
theorem pi{l r:Str}{i:Option Nat}{n:Int}(h:oP l=some (r,i,n)):r.length<l.length:=by
 have h1:=vm l
 have h2:=nM 8 0 (kv l).2
 unfold oP at h
 simp only at h
 split at h
 rename_i b r' hd
 split at h
 cases h
 have:(bW 8 0 (kv l).2).2.length=r.length+1:=by rw[hd];rfl
 omega
 split at h
 cases h
 cases h;rename_i hne _;rw[hd]at h2;rw[hd]at *;omega
 rename_i hd
 split at h
 cases h
 cases h;rename_i hne;rw[hd]at h2;rw[hd]at *;omega
def il(l:Str)(xs:List Int)(c:Int):Option (List Int×Int):=
  if l=[]then some (xs,c)else
  match h:oP l with
  | none=>none
  | some (r,some i,n)=>il r (cw xs i n) c
  | some (r,none,n)=>il r xs (c+n)
termination_by l.length
decreasing_by all_goals exact pi h
theorem eU{xs:List Int}{c:Int}:il [] xs c=some (xs,c):=by rw[il];simp
theorem kj{l r:Str}{xs:List Int}{c n:Int}{i:Nat}(h:oP l=some (r,some i,n)):il l xs c=il r (cw xs i n) c:=by
 have hl:l≠[]:=fun e=>by have:=pi h;rw[e]at this;exact absurd this (Nat.not_lt_zero _)
 rw[il,if_neg hl]
 split
 rename_i e;rw[h]at e;cases e
 rename_i e;rw[h]at e;cases e;rfl
 rename_i e;rw[h]at e;cases e
theorem iz{l r:Str}{xs:List Int}{c n:Int}(h:oP l=some (r,none,n)):il l xs c=il r xs (c+n):=by
 have hl:l≠[]:=fun e=>by have:=pi h;rw[e]at this;exact absurd this (Nat.not_lt_zero _)
 rw[il,if_neg hl]
 split
 rename_i e;rw[h]at e;cases e
 rename_i e;rw[h]at e;cases e
 rename_i e;rw[h]at e;cases e;rfl
theorem kK{l:Str}{xs:List Int}{c:Int}(hl:l≠[])(h:oP l=none):il l xs c=none:=by
 rw[il,if_neg hl]
 split
 rfl
 rename_i e;rw[h]at e;cases e
 rename_i e;rw[h]at e;cases e
def rv(f:Bool)(n:Int):Str:=if n<0 then[45]else if f then[43]else[]
def qp(n:Int):Str:=if n.natAbs=1 then[]else decDigits n.natAbs
def pX:Bool→Nat→List Int→Str
  | _,_,[]=>[]
  | f,i,c::r=>if c=0 then pX f (i+1) r else rv f c++qp c++(io i::pX true (i+1) r)
def pK(f:Bool)(c:Int):Str:=if c=0 then[]else rv f c++decDigits c.natAbs
def ne(s:Str):Bool:=!s.isEmpty
theorem td(out:Str)(n:Int):dT out n=rv (ne out) n:=by
 unfold dT rv ne;cases out<;>simp
theorem wd: ∀(xs:List Int) (i:Nat) (out:Str),tX i xs out=out++pX (ne out) i xs
 | [],i,out=>by simp[tX,pX]
 | c::r,i,out=>by
  rw[tX,wd r,pX]
  unfold tC
  by_cases h:c=0
  simp[h]
  rw[if_neg h,if_neg h,td]
  have:ne (out++rv (ne out) c++(if c.natAbs=1 then[]else decDigits c.natAbs)++[io i])=true:=by simp[ne]
  rw[this]
  simp[qp]
theorem zd(out:Str)(c:Int):tK out c=out++pK (ne out) c:=by
 unfold tK pK
 by_cases h:c=0
 simp[h]
 rw[if_neg h,if_neg h,td];simp
theorem sY(c:Int)(xs:List Int):w4 c xs=tZ (pX false 0 xs++pK (ne (pX false 0 xs)) c):=by
 unfold w4
 rw[zd,wd];simp[ne]
theorem gi{i:Nat}(h:i<10):(io i).toNat=97+i:=by
 unfold io;rw[UInt8.toNat_ofNat'];omega
theorem kn{i:Nat}(h:i<10):sk (io i)=true:=by unfold sk;rw[gi h];simp;omega
theorem na{i:Nat}(h:i<10):iY (io i)=false:=by unfold iY;rw[gi h];simp;omega
theorem ud{b:UInt8}(h:iY b=true∨sk b=true):b≠45∧b≠43:=by
 constructor<;>(rintro rfl;revert h;decide)
theorem nK{f:Bool}{n:Int}{l:Str}(h:n<0∨∃b r,l=b::r∧(iY b=true∨sk b=true))(hl:n<0→True):kv (rv f n++l)=(if n<0 then -1 else 1,l):=by
 unfold rv
 by_cases hn:n<0
 rw[if_pos hn,if_pos hn];rfl
 rw[if_neg hn,if_neg hn]
 obtain⟨b,r,rfl,hb⟩:=h.resolve_left hn
 have:=ud hb
 cases f with
 | true=>rfl
 | false=>simp only[Bool.false_eq_true,if_false,List.nil_append];rw[kv,if_neg this.1,if_neg this.2]
theorem fv(n:Int):(if n<0 then -1 else 1)*(n.natAbs:Int)=n:=by
 by_cases h:n<0
 rw[if_pos h];omega
 rw[if_neg h];omega
theorem yG{m:Nat}(h:m<100000000):nDigits m≤8:=fL (k:=7) (by simpa using h)
theorem iP(m:Nat)(l:Str): ∃b r,decDigits m++l=b::r∧iY b=true:=by
 cases h:decDigits m with
 | nil=>exact absurd h (dy m)
 | cons b r=>exact⟨b,r++l,Z,fi m b (by rw[h];simp)⟩
theorem rh(m:Nat):0<(decDigits m).length:=List.length_pos_iff.2 (dy m)
theorem pV{m:Nat}(h:m<100000000){b:UInt8}{r:Str}(hb:iY b=false):bW 8 0 (decDigits m++b::r)=((m:Int),b::r):=by
 rw[lZ m 8 0 _ (yG h),gX hb];simp
theorem rG{m:Nat}(h:m<100000000):bW 8 0 (decDigits m)=((m:Int),([]:Str)):=by
 have:=lZ m 8 0 [] (yG h)
 rw[List.append_nil]at this
 rw[this,lX];simp
theorem va{f:Bool}{c:Int}{i:Nat}{r:Str}(hi:i<10)(h0:c≠0)(hc:c.natAbs<100000000):oP (rv f c++qp c++(io i::r))=some (r,some i,c):=by
 have hd: ∃b q,qp c++(io i::r)=b::q∧(iY b=true∨sk b=true):=by
  unfold qp
  split
  exact⟨_,_,Z,.inr (kn hi)⟩
  obtain⟨b,q,h1,h2⟩:=iP c.natAbs (io i::r)
  exact⟨b,q,h1,.inl h2⟩
 unfold oP
 rw[dh,nK (.inr hd) (fun _=>trivial)]
 simp only
 have hr:bW 8 0 (qp c++(io i::r))=(if c.natAbs=1 then 0 else(c.natAbs:Int),io i::r):=by
  unfold qp
  by_cases h:c.natAbs=1
  rw[if_pos h,if_pos h];exact gX (na hi)
  rw[if_neg h,if_neg h];exact pV hc (na hi)
 rw[hr]
 simp only[kn hi,if_true,gi hi,Nat.add_sub_cancel_left]
 have e:(if c<0 then -1 else 1)*(if(io i::r).length=(qp c++io i::r).length then 1 else if c.natAbs=1 then 0 else(c.natAbs:Int))=c:=by
  by_cases h:c.natAbs=1
  have:qp c=[]:=by unfold qp;rw[if_pos h]
  rw[this,if_pos (show(io i::r).length=(([]:Str)++io i::r).length from Z),Int.mul_one]
  have e2:=fv c;rw[h]at e2;simpa only[Int.natCast_one,Int.mul_one]using e2
  have:qp c=decDigits c.natAbs:=by unfold qp;rw[if_neg h]
  rw[this,if_neg h,if_neg (show¬(io i::r).length=(decDigits c.natAbs++io i::r).length by have:=rh c.natAbs;rw[bP];omega)]
  exact fv c
 rw[e]
theorem vc{f:Bool}{c:Int}(h0:c≠0)(hc:c.natAbs<100000000):oP (rv f c++decDigits c.natAbs)=some ([],none,c):=by
 have hd: ∃b q,decDigits c.natAbs=b::q∧(iY b=true∨sk b=true):=by
  obtain⟨b,q,h1,h2⟩:=iP c.natAbs []
  rw[List.append_nil]at h1
  exact⟨b,q,h1,.inl h2⟩
 unfold oP
 rw[nK (.inr hd) (fun _=>trivial)]
 simp only
 rw[rG hc]
 simp only
 rw[if_neg (show¬([]:Str).length=(decDigits c.natAbs).length by have:=rh c.natAbs;simp only[List.length_nil];omega),fv]
def jK:Nat→List Int→List Int→List Int
  | _,[],ys=>ys
  | i,c::r,ys=>jK (i+1) r (cw ys i c)
theorem qd{ys:List Int}{i:Nat}:cw ys i 0=ys:=by
 unfold cw
 rw[Int.add_zero]
 apply List.ext_getElem?
 intro j
 rw[List.getElem?_set]
 split
 rename_i h;subst h
 split
 rename_i h;simp[List.getD_eq_getElem?_getD,h]
 rename_i h;rw[List.getElem?_eq_none (by omega)]
 rfl
theorem mK: ∀(xs:List Int) (i:Nat) (f:Bool) (ys:List Int) (c0:Int) (t:Str),i+xs.length≤10→(∀x∈xs,x.natAbs<100000000)→il (pX f i xs++t) ys c0=il t (jK i xs ys) c0
 | [],i,f,ys,c0,t,_,_=>rfl
 | c::r,i,f,ys,c0,t,hi,hx=>by
  rw[pX,jK]
  simp only[db]at hi
  by_cases h:c=0
  rw[if_pos h,mK r (i+1) f ys c0 t (by omega) (fun x hx'=>hx x (List.mem_cons_of_mem _ hx')),h,qd]
  rw[if_neg h,dh,List.cons_append,kj (va (by omega) h (hx c (List.mem_cons_self ..))),mK r (i+1) true _ c0 t (by omega) (fun x hx'=>hx x (List.mem_cons_of_mem _ hx'))]
theorem xF{c:Int}{xs:List Int}(hl:xs.length≤10)(hx: ∀x∈xs,x.natAbs<100000000)(hc:c.natAbs<100000000)(ys:List Int):il (w4 c xs) ys 0=some (jK 0 xs ys,c):=by
 rw[sY]
 unfold tZ
 by_cases h:pX false 0 xs++pK (ne (pX false 0 xs)) c=[]
 rw[if_pos h]
 obtain⟨h1,h2⟩:=List.append_eq_nil_iff.1 h
 have z0:c=0:=by
  unfold pK at h2
  by_cases h0:c=0
  exact h0
  rw[if_neg h0]at h2
  exact absurd (List.append_eq_nil_iff.1 h2).2 (dy _)
 have hp:=mK xs 0 false ys 0 [] (by omega) hx
 rw[h1,List.append_nil,eU,eU]at hp
 have:oP [48]=some ([],none,0):=by decide
 rw[iz this,eU,z0]
 simp only[ef,Prod.mk.injEq]at hp
 rw[←hp.1];simp
 rw[if_neg h,mK xs 0 false ys 0 _ (by omega) hx]
 unfold pK
 by_cases h0:c=0
 rw[if_pos h0,eU,h0]
 rw[if_neg h0,iz (vc h0 hc),eU,Int.zero_add]
end Go.Al
/- Terms as texts, in plain Lean: the reference's reader. -/
namespace Go.Al
variable{L:Nat}(h1:4096≤L)(h2:L≤1073741824)
open Go.Lib
def zr(k:Nat):List Int:=List.replicate k 0
theorem qJ(k:Nat):zr (k+1)=0::zr k:=rfl
theorem rU(pre:List Int)(k:Nat)(c:Int):cw (pre++zr (k+1)) pre.length c=(pre++[c])++zr k:=by
 unfold cw
 rw[qJ]
 simp[List.getD_eq_getElem?_getD]
theorem mb: ∀(xs pre:List Int) (k:Nat),xs.length≤k→jK pre.length xs (pre++zr k)=(pre++xs)++zr (k-xs.length)
 | [],pre,k,_=>by simp[jK]
 | c::r,pre,k,h=>by
  simp only[db]at h
  obtain⟨j,rfl⟩: ∃j,k=j+1:=⟨k-1,by omega⟩
  rw[jK,rU,show pre.length+1=(pre++[c]).length by simp,mb r (pre++[c]) j (by omega)]
  simp[Nat.add_sub_add_right]
theorem t9{xs:List Int}(h:xs.length≤10):jK 0 xs (zr 10)=xs++zr (10-xs.length):=by
 have:=mb xs [] 10 h
 simpa using this
def dA:Str→List Int→Int→Int→Int→Option (List Int×Int)
  | [],xs,c,n,sg=>some (xs,if 0≤n then sg*n else c)
  | b :: r,xs,c,n,sg=>
    if iY b then(if 2000000<n then none else dA r xs c (10*max n 0+(b.toNat-48:Int)) sg)
    else if sk b then dA r (xs.set (b.toNat-97) (sg*(if n<0 then 1 else n))) c (-1) sg
    else if b=43∨b=45 then dA r xs (if 0≤n then sg*n else c) (-1) (if b=45 then -1 else 1)
    else none
theorem qO{d:Nat}(h:d<10){r:Str}{xs:List Int}{c n sg:Int}(hn:n≤2000000):dA (UInt8.ofNat (48+d)::r) xs c n sg=dA r xs c (10*max n 0+d) sg:=by
 rw[dA,if_pos (by unfold iY;rw[cj h];simp;omega),if_neg (by omega),cj h]
 congr 1;omega
theorem qP(m:Nat): ∀(r:Str) (xs:List Int) (c sg:Int),m<20000000→dA (decDigits m++r) xs c (-1) sg=dA r xs c m sg:=by
 induction m using Nat.strongRecOn with
 | _ m ih=>
  intro r xs c sg hm
  rw[decDigits]
  by_cases h:m<10
  rw[dif_pos h,List.singleton_append,qO h (by decide)]
  congr 1;omega
  rw[dif_neg h,dh,List.singleton_append,ih (m/10) (by omega) _ _ _ _ (by omega),qO (Nat.mod_lt _ (by decide)) (by omega)]
  congr 1;omega
theorem vg{f:Bool}{n:Int}{r:Str}{xs:List Int}{c sg:Int}(h:f=false→sg=1):dA (rv f n++r) xs c (-1) sg=dA r xs c (-1) (if n<0 then -1 else 1)∨(f=false∧0≤n∧rv f n=[]):=by
 unfold rv
 by_cases hn:n<0
 left
 rw[if_pos hn,if_pos hn,List.singleton_append,dA,if_neg (by decide),if_neg (by decide),if_pos (by decide),if_neg (by decide),if_pos Z]
 rw[if_neg hn,if_neg hn]
 cases f with
 | false=>right;exact⟨rfl,by omega,rfl⟩
 | true=>
  left
  rw[if_pos Z,List.singleton_append,dA,if_neg (by decide),if_neg (by decide),if_pos (by decide),if_neg (by decide),if_neg (by decide)]
theorem tj{f:Bool}{n:Int}{r:Str}{xs:List Int}{c sg:Int}(h:f=false→sg=1):dA (rv f n++r) xs c (-1) sg=dA r xs c (-1) (if n<0 then -1 else 1):=by
 rcases vg (n:=n) (r:=r) (xs:=xs) (c:=c) h with e|⟨hf,hn,e⟩
 exact e
 rw[e,List.nil_append,h hf,if_neg (by omega)]
theorem oq{i:Nat}(h:i<10): ¬iY (io i)=true:=by rw[na h];decide
theorem vi{n:Int}{i:Nat}(hi:i<10)(hn:n.natAbs<20000000){r:Str}{xs:List Int}{c sg:Int}:dA (qp n++io i::r) xs c (-1) sg=dA r (xs.set i (sg*n.natAbs)) c (-1) sg:=by
 unfold qp
 by_cases h:n.natAbs=1
 rw[if_pos h,List.nil_append,dA,if_neg (oq hi),if_pos (kn hi),gi hi,Nat.add_sub_cancel_left,h];rfl
 rw[if_neg h,qP _ _ _ _ _ hn,dA,if_neg (oq hi),if_pos (kn hi),gi hi,Nat.add_sub_cancel_left,if_neg (by omega)]
theorem po: ∀(xs:List Int) (f:Bool) (pre:List Int) (k:Nat) (c sg:Int) (t:Str),xs.length≤k→pre.length+k≤10→(∀x∈xs,x.natAbs<20000000)→(f=false→sg=1)→
    ∃sg',((f||ne (pX f pre.length xs))=false→sg'=1)∧dA (pX f pre.length xs++t) (pre++zr k) c (-1) sg=dA t ((pre++xs)++zr (k-xs.length)) c (-1) sg'
 | [],f,pre,k,c,sg,t,_,_,_,h=>⟨sg,fun hf=>h (by cases f<;>simp_all[pX,ne]),by simp[pX]⟩
 | x::r,f,pre,k,c,sg,t,hk,hp,hx,h=>by
  simp only[db]at hk
  obtain⟨j,rfl⟩: ∃j,k=j+1:=⟨k-1,by omega⟩
  have hx2: ∀y∈r,y.natAbs<20000000:=fun y hy=>hx y (List.mem_cons_of_mem _ hy)
  rw[pX]
  by_cases h0:x=0
  rw[if_pos h0]
  obtain⟨sg',h1,h2⟩:=po r f (pre++[0]) j c sg t (by omega) (by simp;omega) hx2 h
  refine⟨sg',?_,?_⟩
  simpa using h1
  rw[h0]
  simp only[bP,sj,dh,List.singleton_append]at h2 ⊢
  rw[show(pre++zr (j+1))=pre++0::zr j from Z,h2]
  simp[Nat.add_sub_add_right]
  rw[if_neg h0,dh,dh,tj h,dh,List.cons_append,vi (by omega) (hx x (List.mem_cons_self ..)),fv]
  have e:(pre++zr (j+1)).set pre.length x=(pre++[x])++zr j:=by rw[qJ];simp
  rw[e]
  obtain⟨sg',h1,h2⟩:=po r true (pre++[x]) j c (if x<0 then -1 else 1) t (by omega) (by simp;omega) hx2 (by simp)
  refine⟨sg',fun hf=>?_,?_⟩
  simp[ne]at hf
  simp only[bP,sj,dh,List.singleton_append]at h2 ⊢
  rw[h2]
  simp[Nat.add_sub_add_right]
theorem xB{c:Int}{xs:List Int}(hl:xs.length≤10)(hx: ∀x∈xs,x.natAbs<20000000)(hc:c.natAbs<20000000):dA (w4 c xs) (zr 10) 0 (-1) 1=some (xs++zr (10-xs.length),c):=by
 rw[sY]
 unfold tZ
 obtain⟨sg',h1,h2⟩:=po xs false [] 10 0 1 (if pX false 0 xs++pK (ne (pX false 0 xs)) c=[]then[48]else pK (ne (pX false 0 xs)) c) hl (by simp) hx (fun _=>rfl)
 simp only[List.length_nil,List.nil_append]at h2
 by_cases h:pX false 0 xs++pK (ne (pX false 0 xs)) c=[]
 obtain⟨h3,h4⟩:=List.append_eq_nil_iff.1 h
 rw[if_pos h]
 rw[if_pos h,h3,List.nil_append]at h2
 rw[h2]
 have z0:c=0:=by
  unfold pK at h4
  by_cases h0:c=0
  exact h0
  rw[if_neg h0]at h4
  exact absurd (List.append_eq_nil_iff.1 h4).2 (dy _)
 rw[dA,if_pos (by decide),if_neg (by decide),dA,z0,show(10*max (-1:Int) 0+(((48:UInt8).toNat:Int)-48))=0 from by decide]
 simp
 rw[if_neg h]at h2 ⊢
 rw[h2]
 unfold pK
 by_cases h0:c=0
 rw[if_pos h0,dA,h0];simp
 rw[if_neg h0,tj (fun hf=>h1 (by simpa using hf)),←List.append_nil (decDigits _),qP _ _ _ _ _ hc,dA,if_pos (by omega),fv]
end Go.Al
/- Sequents as texts, in plain Lean: cutting and splitting; both readers accept just the written sequents. -/
namespace Go.Al
variable{L:Nat}(h1:4096≤L)(h2:L≤1073741824)
open Go.Lib
def aS(c:UInt8):Str→List Str
  | []=>[[]]
  | b::r=>if b=c then[]::aS c r else(b::(aS c r).headD [])::(aS c r).tail
theorem pm(c:UInt8)(s:Str):aS c s≠[]:=by
 cases s with
 | nil=>simp[aS]
 | cons b r=>rw[aS];split<;>simp
theorem gt(c b:UInt8)(l:Str):index (b::l) [c]=if b=c then 0 else if index l [c]= -1 then -1 else index l [c]+1:=by
 rw[index]
 by_cases h:b=c
 subst h;simp
 have h2:([c].isPrefixOf (b::l))=false:=by simp[List.isPrefixOf,Ne.symm h]
 rw[h2,if_neg h];simp
theorem dZ(c:UInt8): ∀s:Str,split s [c]=aS c s
 | []=>by
  have:index ([]:Str) [c]= -1:=rfl
  unfold split
  rw[count_miss this];rfl
 | b::l=>by
  have ih:=dZ c l
  unfold split at ih ⊢
  have hi:=gt c b l
  by_cases h:b=c
  rw[if_pos h]at hi
  rw[count_hit (i:=0) (by simp) (by rw[hi];rfl),Nat.add_comm 1,splitK,hi,aS,if_pos h]
  simp only[show((0:Int)== -1)=false from Z]
  simp only[Bool.false_eq_true,if_false]
  simp[ih]
  rw[if_neg h]at hi
  rw[aS,if_neg h]
  by_cases h2:index l [c]= -1
  rw[if_pos h2]at hi
  rw[count_miss hi]
  rw[count_miss h2]at ih
  rw[←ih];rfl
  rw[if_neg h2]at hi
  have hge:=index_ge l [c]
  obtain⟨i,hi2⟩: ∃i:Nat,index l [c]=i:=⟨(index l [c]).toNat,by omega⟩
  rw[hi2]at hi
  rw[count_hit (i:=i) (by simp) hi2,Nat.add_comm 1,splitK,hi2]at ih
  rw[count_hit (i:=i+1) (by simp) (by rw[hi];rfl),Nat.add_comm 1,splitK,hi]
  have e1:((i:Int)== -1)=false:=by rw[beq_eq_false_iff_ne];omega
  have e2:(((i:Int)+1)== -1)=false:=by rw[beq_eq_false_iff_ne];omega
  rw[e1]at ih
  rw[e2]
  simp only[Bool.false_eq_true,if_false,Int.toNat_natCast,Nat.add_zero]at ih ⊢
  rw[←ih]
  have e3:((i:Int)+1).toNat=i+1:=by omega
  simp[e3]
theorem ix{c:UInt8}: ∀{p:Str} (r:Str),c ∉ p→aS c (p++c::r)=p::aS c r
 | [],r,_=>by rw[List.nil_append,aS,if_pos Z]
 | b::p,r,h=>by
  rw[List.cons_append,aS,if_neg (fun e=>h (by rw[e];exact List.mem_cons_self ..)),ix r (fun hh=>h (List.mem_cons_of_mem _ hh))]
  rfl
def bz(c:UInt8):List Str→Str
  | []=>[]
  | p::r=>p++c::bz c r
theorem fp(c:UInt8): ∀s:Str,∃ps q,aS c s=ps++[q]∧s=bz c ps++q∧c ∉ q∧∀p∈ps,c ∉ p
 | []=>⟨[],[],rfl,rfl,by simp,by simp⟩
 | b :: r=>by
  obtain⟨ps,q,h1,h2,h3,h4⟩:=fp c r
  rw[aS]
  by_cases h:b=c
  rw[if_pos h,h1]
  exact⟨[]::ps,q,Z,by rw[h2,h];rfl,h3,by simpa using h4⟩
  rw[if_neg h,h1]
  cases ps with
  | nil=>exact⟨[],b::q,Z,by rw[h2];rfl,by simp only[List.mem_cons,not_or];exact⟨Ne.symm h,h3⟩,by simp⟩
  | cons p ps=>
   refine⟨(b::p)::ps,q,Z,by rw[h2];rfl,h3,?_⟩
   intro x hx
   rcases List.mem_cons.1 hx with rfl|hx
   simp only[List.mem_cons,not_or];exact⟨Ne.symm h,h4 p (List.mem_cons_self ..)⟩
   exact h4 x (List.mem_cons_of_mem _ hx)
abbrev ce:Str:=[61,62]
section
variable{T:Type}(tx:T→Str)(ok:T→Bool)(rd:Str→Option T)
def bB : List Str→Option (List T)
  | []=>some []
  | s :: r=>match rd s with
    | none=>none
    | some t=>match bB r with
      | none=>none
      | some ts=>some (t::ts)
variable{tx ok rd}
theorem jp(hrd: ∀s t,rd s=some t↔ok t=true∧s=tx t): ∀{ss:List Str} {ts:List T},bB rd ss=some ts↔(∀t∈ts,ok t=true)∧ss=ts.map tx
 | [],ts=>by
  rw[bB]
  constructor
  intro h;cases h;simp
  rintro⟨_,h⟩;cases ts with
  | nil=>rfl
  | cons _ _=>cases h
 | s :: r,ts=>by
  rw[bB]
  constructor
  intro h
  split at h
  cases h
  rename_i t ht
  split at h
  cases h
  rename_i ts' hts
  cases h
  obtain⟨h1,h2⟩:=(jp hrd).1 hts
  obtain⟨h3,h4⟩:=(hrd s t).1 ht
  refine⟨fun x hx=>?_,by rw[h2,h4];rfl⟩
  rcases List.mem_cons.1 hx with rfl|hx
  exact h3
  exact h1 x hx
  rintro⟨h1,h2⟩
  cases ts with
  | nil=>cases h2
  | cons t ts=>
   simp only[List.map_cons,List.cons.injEq]at h2
   rw[(hrd s t).2 ⟨h1 t (List.mem_cons_self ..),h2.1⟩,(jp hrd).2 ⟨fun x hx=>h1 x (List.mem_cons_of_mem _ hx),h2.2⟩]
theorem ml(c:UInt8): ∀{ps:List Str},ps≠[]→(bz c ps).getLast? = some c
 | [],h=>absurd Z h
 | [p],_=>by simp[bz]
 | p::q::r,_=>by
  have:=ml c (ps:=q::r) (by simp)
  rw[bz]
  rw[List.getLast?_append,List.getLast?_cons,this];simp
end
end Go.Al
/- Terms and sequents as texts: what both readers accept. -/
namespace Go.Al
variable{L:Nat}(h1:4096≤L)(h2:L≤1073741824)
open Go.Lib
abbrev tS(t:Tm):Str:=w4 t.c t.xs
theorem mV{xs:List Int}: ∀k,bO (xs++zr k)=bO xs
 | 0=>by simp[zr]
 | k+1=>by
  have:zr (k+1)=zr k++[0]:=List.replicate_succ'
  rw[this,←dh,lV,mV k]
theorem qK{t:Tm}(h:t.ok=true):bO t.xs=t.xs:=by
 have h1:=(BV.1 h).2.2.2
 have:=gn (xs:=t.xs) (n:=t.xs.length) (bQ _) (by
  rcases h1 with h1|h1
  · left;rw[h1];rfl
  · exact .inr h1)
 simpa using this
theorem q7{n:Int}(h:jF n=true):n.natAbs≤1000000:=by
 have:=AE.1 h;omega
theorem jb{t:Tm}(h:t.ok=true):t.c.natAbs≤1000000∧(∀x∈t.xs,x.natAbs≤1000000)∧t.xs.length≤10:=by
 obtain⟨h1,h2,h3,_⟩:=BV.1 h
 exact⟨q7 h1,fun x hx=>q7 (List.all_eq_true.1 h2 x hx),h3⟩
def dD(s:Str):Option Tm:=match il s (zr 10) 0 with
  | none=>none
  | some x=>if(Tm.mk x.2 (bO x.1)).ok=true∧tS ⟨x.2,bO x.1⟩=s then some ⟨x.2,bO x.1⟩else none
theorem iy(s:Str)(t:Tm):dD s=some t↔t.ok=true∧s=tS t:=by
 unfold dD
 constructor
 intro h
 split at h
 cases h
 split at h
 rename_i hc
 cases h
 exact⟨hc.1,hc.2.symm⟩
 cases h
 rintro⟨h1,rfl⟩
 obtain⟨h2,h3,h4⟩:=jb h1
 rw[xF h4 (fun x hx=>by have:=h3 x hx;omega) (by omega),t9 h4]
 simp only
 rw[mV,qK h1,if_pos ⟨h1,rfl⟩]
def mu(s:Str):Option Tm:=match dA s (zr 10) 0 (-1) 1 with
  | none=>none
  | some x=>if(im x.2 x.1).2=true∧tS (im x.2 x.1).1=s then some (im x.2 x.1).1 else none
theorem kh(s:Str)(t:Tm):mu s=some t↔t.ok=true∧s=tS t:=by
 unfold mu
 constructor
 intro h
 split at h
 cases h
 split at h
 rename_i hc
 cases h
 exact⟨pA hc.1,hc.2.symm⟩
 cases h
 rintro⟨h1,rfl⟩
 obtain⟨h2,h3,h4⟩:=jb h1
 rw[xB h4 (fun x hx=>by have:=h3 x hx;omega) (by omega)]
 simp only
 have:im t.c (t.xs++zr (10-t.xs.length))=(t,true):=by
  unfold im
  rw[mV,qK h1,if_pos h1]
 rw[this,if_pos ⟨rfl,rfl⟩]
theorem wo(s:Str):dD s=mu s:=by
 cases h:dD s with
 | some t=>exact((kh s t).2 ((iy s t).1 h)).symm
 | none=>
  cases h2:mu s with
  | none=>rfl
  | some t=>rw[(iy s t).2 ((kh s t).1 h2)]at h;cases h
theorem fI{m:Nat}(h:m≤1000000):(decDigits m).length≤7:=by
 rw[decDigits_eq,bd,List.length_range]
 exact fL (k:=6) (by omega)
theorem xw{out:Str}{i:Nat}{c:Int}(h:c.natAbs≤1000000):(tC out i c).length≤out.length+9:=by
 unfold tC
 split
 omega
 have h1:(dT out c).length≤1:=by
  unfold dT
  split
  simp
  split<;>simp
 have h2:(if c.natAbs=1 then[]else decDigits c.natAbs).length≤7:=by
  split
  simp
  exact fI h
 simp only[bP,sj];omega
theorem ph: ∀{xs:List Int} {i:Nat} {out:Str},(∀x∈xs,x.natAbs≤1000000)→(tX i xs out).length≤out.length+9*xs.length
 | [],i,out,_=>by simp[tX]
 | c::r,i,out,h=>by
  rw[tX]
  have h1:=ph (i:=i+1) (out:=tC out i c) (fun x hx=>h x (List.mem_cons_of_mem _ hx))
  have h2:=xw (out:=out) (i:=i) (h c (List.mem_cons_self ..))
  simp only[db];omega
theorem mW: ∀(xs:List Int) (i:Nat) (c:Int) (out:Str),tX i (xs++[c]) out=tC (tX i xs out) (i+xs.length) c
 | [],i,c,out=>by simp[tX]
 | x::r,i,c,out=>by
  rw[List.cons_append,tX,mW r,tX,db,show i+1+r.length=i+(r.length+1) by omega]
theorem s5{out:Str}{c:Int}(h:c.natAbs≤1000000):(tK out c).length≤out.length+8:=by
 unfold tK
 split
 omega
 have h1:(dT out c).length≤1:=by
  unfold dT
  split
  simp
  split<;>simp
 have h2:=fI h
 simp only[bP];omega
theorem xu{t:Tm}(h:t.ok=true):(tS t).length≤100:=by
 obtain⟨h1,h2,h3⟩:=jb h
 have h4:=ph (i:=0) (out:=[]) h2
 have h5:=s5 (out:=tX 0 t.xs []) h1
 unfold tS w4 tZ
 split
 decide
 simp only[List.length_nil]at h4;omega
abbrev aS8(s:Str):A:=.c (.d (sD s))
theorem ri{m:Nat}(h:m<100000000000000000000):(Lib.decDigits m).length≤20:=by
 rw[Lib.decDigits_eq,bd,List.length_range]
 exact fL (k:=19) (by omega)
def ke(m:Int):Str:=if m<0 then Lib.decDigits m.natAbs else[]
theorem s4{m:Int}(h:m<0):m.tdiv 10= -((m.natAbs/10:Nat):Int)∧m.tmod 10= -((m.natAbs%10:Nat):Int):=by
 obtain⟨k,hk⟩: ∃k:Nat,m= -(k:Int):=⟨m.natAbs,by omega⟩
 subst hk
 rw[Int.neg_tdiv,Int.neg_tmod,Int.natAbs_neg,Int.natAbs_natCast]
 exact⟨by rw[show(10:Int)=((10:Nat):Int)from Z,←Int.ofNat_tdiv],by rw[show(10:Int)=((10:Nat):Int)from Z,←Int.ofNat_tmod]⟩
theorem rI{m:Int}(h:m<0):ke m=ke (m.tdiv 10)++[UInt8.ofNat (48-m.tmod 10).toNat]:=by
 have e1:(m.tdiv 10).natAbs=m.natAbs/10:=by rw[Int.natAbs_tdiv];rfl
 have h3:=s4 h
 have e2:(48-m.tmod 10).toNat=48+m.natAbs%10:=by omega
 unfold ke
 rw[if_pos h,Lib.decDigits,e1,e2]
 by_cases h2:m.natAbs<10
 rw[dif_pos h2,if_neg (by omega),Nat.mod_eq_of_lt h2];rfl
 rw[dif_neg h2,if_pos (by omega)]
theorem uh{n:Int}(h:0<n):Lib.itoa n=ke (-n):=by
 unfold Lib.itoa ke
 rw[if_neg (by omega),if_pos (by omega)]
 congr 1;omega
theorem rM:Lib.itoa 0=[48]:=by
 unfold Lib.itoa
 rw[if_neg (by decide),Lib.decDigits,dif_pos (by decide)];rfl
theorem ui{n:Int}(h:n<0):Lib.itoa n=45::ke n:=by
 unfold Lib.itoa ke
 rw[if_pos h,if_pos h]
theorem nX{n:Int}(h: -9223372036854775808≤n):(ke n).length≤20:=by
 unfold ke
 split
 exact ri (by omega)
 simp
theorem fE{n:Int}(h0:0≤n)(h1:n≤255):IntKind.u8.wrap n=n:=cq _ _ h0 h1
theorem xr{n:Int}(h0:0≤n)(h1:n≤255):((UInt8.ofNat n.toNat).toNat:Int)=n:=by
 rw[UInt8.toNat_ofNat'];omega
variable{n:Int}
theorem nD(hn0: -9223372036854775807≤n)(hn1:n≤9223372036854775807):MQ h1 h2 122 [eI n] [] (Plain (aS8 (Lib.itoa n))):=by
 refine au ?_ Z
 refine jB 29 h1 h2 Tryz.func122 Z fun O hF=>?_
 refine ae (js Z (jn (ag (ae (ac Z (jn (ak Z (fun z6=>?_) (fun z6=>?_))))))))
 refine ae (js Z (jr ?_))
 refine ay Z ?_
 have h0:n=0:=bc z6
 rw[h0,rM];rfl
 refine af (ae (ac Z (jf [3,5,2,0] Z (jn (ag (ae (ac Z (jn ?_))))))))
 have hne:n≠0:=bw z6
 obtain⟨N,hN⟩: ∃N:Int,N=if 0<n then -n else n:=⟨_,rfl⟩
 have hN2:N<0∧ -9223372036854775808≤N:=by rw[hN];split<;>omega
 refine bl ⟨[(0,eI n),(3,eI N)],[]⟩ ?_ ?_
 refine ak Z (fun z9=>?_) (fun z9=>?_)
 refine ab (js Z (ji Z (js Z (jf [3,8,5,2,0] Z (jn ?_)))))
 exact⟨Z,Ent.to ⟨Z,congrArg (fun z=>some (eI z)) (show 0-n=N by rw[hN,if_pos (bc z9)];omega),ao⟩ Z⟩
 refine af ?_
 exact⟨Z,Ent.to ⟨Z,congrArg (fun z=>some (eI z)) (show n=N by rw[hN,if_neg (bw z9)]),ao⟩ Z⟩
 refine ae (js Z (jn (ag (am (av (X:=Int×Str) (fun z=>⟨[(0,eI n),(3,eI z.1),(4,aS8 z.2)],[]⟩) (fun z=>z.1≤0∧ -9223372036854775808≤z.1∧ke N=ke z.1++z.2) (fun z=>z.1.natAbs) (N,[]) (Ent.to ⟨Z,Z,Z,ao⟩ Z) ?_ (fun z hi=>?_))))))
 exact⟨by show N≤0;omega,hN2.2,by simp⟩
 refine ag (ae (ac Z (jn (ak Z (fun z13=>?_) (fun z13=>?_)))))
 refine af (am (ae (js Z ?_)))
 have hz:z.1<0:=bc z13
 have h3:=s4 hz
 have hr: -9≤z.1.tmod 10∧z.1.tmod 10≤0:=by omega
 have hlen:z.2.length≤20:=by have h:=nX hN2.2;rw[hi.2.2,bP]at h;omega
 refine aa (cG O Z Z Z Z (by decide) (by omega) (by omega)) Z (aa (ax O Z Z (by omega) (by omega)) Z (aa ((Val.conv (b:=true) (dt:=.int .i64) O Z Z Z (by kernel_rfl) (by kernel_rfl)).cast (v':=.c (.d (.int .u8 ((UInt8.ofNat (48-z.1.tmod 10).toNat).toNat:Int)))) (by rw[fE (by omega) (by omega),xr (by omega) (by omega)])) Z (jf [17,13,12,0,3,4] Z (aY (bL O Z Z Z Z Z Z Z Z Z Z Z) Z (aB ?_)))))
 refine aa (eF (p:=[UInt8.ofNat (48-z.1.tmod 10).toNat]) O Z Z Z (.whole Z Z (.inl (f7 _))) Z Z (by kernel_rfl) (by kernel_rfl)) Z (js Z (aa (aH (p:=[UInt8.ofNat (48-z.1.tmod 10).toNat]) (q:=z.2) O Z Z Z Z Z Z (by show 1+z.2.length≤L;omega) (by show L≤_;omega)) Z (js Z (jf [4,13,12,0,3] Z (jn (ab (js Z (aa (dI O Z Z Z Z (by decide) (by omega) (by omega)) Z (js Z (jf [3,4,13,12,0] Z (jn ?_)))))))))))
 refine⟨(z.1.tdiv 10,UInt8.ofNat (48-z.1.tmod 10).toNat::z.2),(aC [] (e':=[(0,_),(3,_),(4,_)]) Z Z ⟨Z,Z,Z,ao⟩ Z),⟨by show z.1.tdiv 10≤0;omega,by show -9223372036854775808≤z.1.tdiv 10;omega,?_⟩,by show(z.1.tdiv 10).natAbs<z.1.natAbs;omega⟩
 rw[hi.2.2,rI hz];simp
 refine aJ (ag (ae (js Z ?_)))
 have hz0:z.1=0:=by have:=bw z13;omega
 have hp:=hi.2.2
 rw[hz0,show ke 0=[]from Z,List.nil_append]at hp
 have hlen:z.2.length≤20:=by have h:=nX hN2.2;rw[hp]at h;exact h
 refine js Z (jn (ak Z (fun z25=>?_) (fun z25=>?_)))
 refine ae (js Z (aa (aH (p:=[45]) (q:=z.2) O Z Z Z Z Z Z (by show 1+z.2.length≤L;omega) (by show L≤_;omega)) Z (js Z (jf [2,25,24,13,12,0,3,4] Z (jr ?_)))))
 refine ay Z ?_
 have hn:n<0:=bc z25
 rw[ui hn,show n=N by rw[hN,if_neg (by omega)],hp];rfl
 refine af (ae (ac Z (jr ?_)))
 refine ay Z ?_
 have hn: ¬n<0:=bw z25
 rw[uh (by omega),show -n=N by rw[hN,if_pos (by omega)],hp]
def oI(t:Tm)(i:Nat):Str:=if i≤t.xs.length then tX 0 (t.xs.take i) []else tK (tX 0 t.xs []) t.c
def oS(o:Str)(n:Int)(nm:Str):Str:=if n=0 then o else o++dT o n++(if n.natAbs=1∧nm≠[]then[]else Lib.decDigits n.natAbs)++nm
theorem xM{t:Tm}{i:Nat}(h:i<t.xs.length):oI t (i+1)=oS (oI t i) (t.xs.getD i default) [io i]:=by
 unfold oS
 rw[show oI t (i+1)=tX 0 (t.xs.take (i+1)) []from if_pos (by omega),show oI t i=tX 0 (t.xs.take i) []from if_pos (by omega),List.take_succ_eq_append_getElem h,mW,List.length_take,Nat.min_eq_left (by omega),Nat.zero_add,getD_lt h]
 unfold tC
 simp
theorem xN{t:Tm}:oI t (t.xs.length+1)=oS (oI t t.xs.length) t.c []:=by
 unfold oS
 rw[show oI t (t.xs.length+1)=tK (tX 0 t.xs []) t.c from if_neg (by omega),show oI t t.xs.length=tX 0 (t.xs.take t.xs.length) []from if_pos (bQ _),List.take_length]
 unfold tK
 simp
theorem kI{o:Str}{n:Int}:(dT o n).length≤1:=by
 unfold dT
 split
 simp
 split<;>simp
theorem fq(a:Nat):Lib.itoa (a:Int)=Lib.decDigits a:=by
 unfold Lib.itoa
 rw[if_neg (by omega),Int.toNat_natCast]
theorem we{t:Tm}:tS t=tZ (oI t (t.xs.length+1)):=by
 unfold oI;rw[if_neg (by omega)];rfl
variable{t:Tm}
theorem qG(ht:t.ok=true):MQ h1 h2 110 [ptr t.cells] [] (Plain (aS8 (tS t))):=by
 refine au ?_ Z
 refine jB 67 h1 h2 Tryz.func110 Z fun O hF=>?_
 obtain⟨z6,hx6,hl10⟩:=jb ht
 have hl:t.xs.length≤L:=by omega
 refine ae (js Z (be (js Z (jn (ag (ae (js Z (jn (am (av (X:=Nat×Str) (fun z=>⟨[(0,ptr t.cells),(3,aS8 z.2),(4,eI (z.1:Nat))],[]⟩) (fun z=>z.1≤t.xs.length+1∧z.2=oI t z.1∧z.2.length≤9*z.1) (fun z=>t.xs.length+1-z.1) (0,[]) (Ent.to ⟨Z,Z,Z,ao⟩ Z) ?_ (fun z hi=>?_)))))))))))
 exact⟨ca _,by show[]=oI t 0;unfold oI;simp[tX],bQ _⟩
 refine ag (ae (aM Z (js Z ?_)))
 first|refine cm Z ?_|refine js Z ?_|refine aU Z Z ?_
 refine js Z (jf [13,0,3,4] Z (jn (ak Z (fun z13=>?_) (fun z13=>?_))))
 refine af (ag (am (ae (aM Z (js Z (jf [5,13,0,3,4] Z (be (js Z (jn (ag (ae (aM Z (js Z ?_)))))))))))))
 first|refine cm Z ?_|refine js Z ?_|refine aU Z Z ?_
 refine js Z (jf [26,6,5,13,0,3,4] Z (jn ?_))
 have hz1:z.1≤t.xs.length:=by have:=bc z13;omega
 obtain⟨n,nm,hn1,hn2⟩: ∃(n:Int) (nm:Str),(z.1<t.xs.length→n=t.xs.getD z.1 default∧nm=[io z.1])∧(¬z.1<t.xs.length→n=t.c∧nm=[]):=by
  by_cases h:z.1<t.xs.length
  exact⟨_,_,fun _=>⟨Z,Z⟩,fun h2=>absurd h h2⟩
  exact⟨_,_,fun h2=>absurd h2 h,fun _=>⟨Z,Z⟩⟩
 have hstep:oI t (z.1+1)=oS z.2 n nm:=by
  rw[hi.2.1]
  by_cases h:z.1<t.xs.length
  rw[(hn1 h).1,(hn1 h).2,xM h]
  rw[(hn2 h).1,(hn2 h).2,show z.1=t.xs.length by omega,xN]
 have hna:n.natAbs≤1000000∧nm.length≤1:=by
  by_cases h:z.1<t.xs.length
  rw[(hn1 h).1,(hn1 h).2,getD_lt h];exact⟨hx6 _ (List.getElem_mem h),by simp⟩
  rw[(hn2 h).1,(hn2 h).2];exact⟨z6,by simp⟩
 refine bl ⟨[(0,ptr t.cells),(3,aS8 z.2),(4,eI (z.1:Nat)),(5,eI n),(6,aS8 nm)],[]⟩ ?_ ?_
 refine ak Z (fun z26=>?_) (fun z26=>?_)
 refine ae ?_
 have hc26t:z.1<t.xs.length:=by have:=bc z26;omega
 refine aM Z (js Z ?_)
 first|refine uG Z Z ?_|refine lA Z Z ?_|refine aU Z Z ?_
 refine ac Z (jf [5,26,6,13,0,3,4] Z (jn (ab (js Z ?_))))
 first|refine ji Z ?_|refine aU Z Z ?_
 refine aa ((Val.conv (b:=true) (dt:=.int .i64) O Z Z Z (by kernel_rfl) (by kernel_rfl)).cast (v':=.c (.d (.int .u8 ((io z.1).toNat:Int)))) (by rw[fE (by omega) (by omega),gi (by omega)];rfl)) Z (jf [36,5,26,6,13,0,3,4] Z (aY (bL O Z Z Z Z Z Z Z Z Z Z Z) Z (aB ?_)))
 refine aa (eF (p:=[io z.1]) O Z Z Z (.whole Z Z (.inl (f7 _))) Z Z (by kernel_rfl) (by kernel_rfl)) Z (js Z (jf [6,5,26,13,0,3,4] Z (jn ?_)))
 exact⟨Z,(aC [] (e':=[(0,_),(3,_),(4,_),(5,_),(6,_)]) Z Z ⟨Z,Z,Z,Z,Z,ao⟩ Z).trans (Ent.to ⟨Z,Z,Z,congrArg (fun z=>some (eI z)) ((hn1 hc26t).1.symm),congrArg (fun s=>some (aS8 s)) ((hn1 hc26t).2.symm),ao⟩ Z)⟩
 refine af ?_
 have hc26t: ¬z.1<t.xs.length:=by have:=bw z26;omega
 exact⟨Z,(aC [] (e':=[(0,_),(3,_),(4,_),(5,_),(6,_)]) Z Z ⟨Z,Z,Z,Z,Z,ao⟩ Z).trans (Ent.to ⟨Z,Z,Z,congrArg (fun z=>some (eI z)) ((hn2 hc26t).1.symm),congrArg (fun s=>some (aS8 s)) ((hn2 hc26t).2.symm),ao⟩ Z)⟩
 refine ag (ae (ac Z (jn (ak Z (fun z40=>?_) (fun z40=>?_)))))
 refine aJ (ab (js Z ?_))
 first|refine ji Z ?_|refine aU Z Z ?_
 refine js Z (jf [4,40,39,0,3,5,6] Z (jn ?_))
 have hst:oI t (z.1+1)=z.2:=by rw[hstep];unfold oS;rw[if_pos (bc z40)]
 refine⟨(z.1+1,z.2),(aC [] (e':=[(0,_),(3,_),(4,_)]) Z Z ⟨Z,Z,Z,ao⟩ Z),⟨by show z.1+1≤_;omega,hst.symm,by show z.2.length≤9*(z.1+1);omega⟩,by show t.xs.length+1-(z.1+1)<t.xs.length+1-z.1;omega⟩
 refine af (ag (ae (ac Z (jn ?_))))
 obtain⟨o2,ho2⟩: ∃o,o=z.2++dT z.2 n:=⟨_,rfl⟩
 obtain⟨a,ha⟩: ∃a:Nat,a=n.natAbs:=⟨_,rfl⟩
 have hzl:z.2.length≤99:=by have:=hi.2.2;omega
 have h2l:o2.length≤z.2.length+1:=by have:=kI (o:=z.2) (n:=n);rw[ho2,bP];omega
 refine bl ⟨[(0,ptr t.cells),(3,aS8 o2),(4,eI (z.1:Nat)),(5,eI (a:Nat)),(6,aS8 nm)],[]⟩ ?_ ?_
 refine ak Z (fun z42=>?_) (fun z42=>?_)
 refine ae (js Z (aa (aH (p:=z.2) (q:=[45]) O Z Z Z Z Z Z (by show z.2.length+1≤L;omega) (by show L≤_;omega)) Z (js Z (jf [3,42,41,40,39,0,4,5,6] Z (jn (ab (js Z (ji Z (js Z (jf [5,3,42,41,40,39,0,4,6] Z (jn ?_)))))))))))
 exact⟨Z,(aC [] (e':=[(0,_),(3,_),(4,_),(5,_),(6,_)]) Z Z ⟨Z,Z,Z,Z,Z,ao⟩ Z).trans (Ent.to ⟨Z,congrArg (fun s=>some (aS8 s)) (show z.2++[45]=o2 by rw[ho2];unfold dT;rw[if_pos (bc z42)]),Z,congrArg (fun z=>some (eI z)) (show 0-n=(a:Int) by have:=bc z42;omega),Z,ao⟩ Z)⟩
 refine ae (js Z (aa (b9 (p:=z.2) (q:=[]) O Z Z Z Z Z Z) Z (jn (ak Z (fun z48=>?_) (fun z48=>?_)))))
 refine ab (js Z (aa (aH (p:=z.2) (q:=[43]) O Z Z Z Z Z Z (by show z.2.length+1≤L;omega) (by show L≤_;omega)) Z (js Z (jf [3,48,47,42,41,40,39,0,4,5,6] Z (jn ?_)))))
 exact⟨Z,(aC [] (e':=[(0,_),(3,_),(4,_),(5,_),(6,_)]) Z Z ⟨Z,Z,Z,Z,Z,ao⟩ Z).trans (Ent.to ⟨Z,congrArg (fun s=>some (aS8 s)) (show z.2++[43]=o2 by rw[ho2];unfold dT;rw[if_neg (bw z42),if_neg (by simpa using z48)]),Z,congrArg (fun z=>some (eI z)) (show n=(a:Int) by have:=bw z42;omega),Z,ao⟩ Z)⟩
 refine af ?_
 exact⟨Z,(aC [] (e':=[(0,_),(3,_),(4,_),(5,_),(6,_)]) Z Z ⟨Z,Z,Z,Z,Z,ao⟩ Z).trans (Ent.to ⟨Z,congrArg (fun s=>some (aS8 s)) (show z.2=o2 by rw[ho2];unfold dT;rw[if_neg (bw z42),if_pos (by simpa using z48),List.append_nil]),Z,congrArg (fun z=>some (eI z)) (show n=(a:Int) by have:=bw z42;omega),Z,ao⟩ Z)⟩
 refine ag (ae (aF Z (jf [53,0,3,4,5,6] Z (ar 2 Z Z Z (fun hx=>aq hx Z (bf hx (Val.seq (p:=nm) (q:=[]) O Z Z Z Z Z Z) Z (AN.nil))) Z Z ?_))))
 first|refine aa (al O Z Z Z Z Z) Z ?_|refine aa (Val.pickB O Z Z Z Z Z) Z ?_|refine aa (aj O Z Z Z Z Z) Z ?_
 refine jf [56,0,3,4,5,6] Z (jn ?_)
 obtain⟨o3,ho3⟩: ∃o,o=o2++(if a=1∧nm≠[]then[]else Lib.decDigits a):=⟨_,rfl⟩
 have hdl:(Lib.decDigits a).length≤7:=fI (by omega)
 have h3l:o3.length≤o2.length+7:=by rw[ho3,bP];split<;>simp<;>omega
 refine bl ⟨[(0,ptr t.cells),(3,aS8 o3),(4,eI (z.1:Nat)),(5,eI (a:Nat)),(6,aS8 nm)],[]⟩ ?_ ?_
 refine ak Z (fun z56=>?_) (fun z56=>?_)
 refine ab (ac Z (aO Z (nD (n:=(a:Int)) h1 h2 (by omega) (by omega)) 60000 Z (aa (aH (p:=o2) (q:=Lib.itoa (a:Int)) O Z Z Z Z Z Z (by rw[fq];show o2.length+(Lib.decDigits a).length≤L;omega) (by show L≤_;omega)) Z (js Z (jf [3,56,0,4,5,6] Z (jn ?_))))))
 exact⟨rfl,(aC [] (e':=[(0,_),(3,_),(4,_),(5,_),(6,_)]) rfl rfl ⟨rfl,rfl,rfl,rfl,rfl,ao⟩ rfl).trans (Ent.to ⟨rfl,congrArg (fun s=>some (aS8 s)) (show o2++Lib.itoa (a:Int)=o3 by rw[ho3,fq,if_neg];rintro⟨e1,e2⟩;revert z56;simp[e1,e2]),rfl,rfl,rfl,ao⟩ rfl)⟩
 refine af ?_
 exact⟨rfl,(aC [] (e':=[(0,_),(3,_),(4,_),(5,_),(6,_)]) rfl rfl ⟨rfl,rfl,rfl,rfl,rfl,ao⟩ rfl).trans (Ent.to ⟨rfl,congrArg (fun s=>some (aS8 s)) (show o2=o3 by rw[ho3,if_pos,List.append_nil];revert z56;cases h:decide ((a:Int)=1)<;>simp_all<;>omega),rfl,rfl,rfl,ao⟩ rfl)⟩
 refine ab (ac Z (aa (aH (p:=o3) (q:=nm) O Z Z Z Z Z Z (by show o3.length+nm.length≤L;omega) (by show L≤_;omega)) Z (js Z (jf [3,0,4,5,6] Z (jn (ab (js Z ?_)))))))
 first|refine ji Z ?_|refine aU Z Z ?_
 refine js Z (jf [4,3,0,5,6] Z (jn ?_))
 refine⟨(z.1+1,o3++nm),(aC [] (e':=[(0,_),(3,_),(4,_)]) Z Z ⟨Z,Z,Z,ao⟩ Z),⟨by show z.1+1≤_;omega,?_,by show(o3++nm).length≤9*(z.1+1);rw[bP];omega⟩,by show t.xs.length+1-(z.1+1)<t.xs.length+1-z.1;omega⟩
 show o3++nm=oI t (z.1+1)
 rw[hstep,ho3,ho2,ha]
 unfold oS
 rw[if_neg (bw z40)]
 refine aJ (ag (ae ?_))
 have hz1:z.1=t.xs.length+1:=by have:=bw z13;omega
 have ho:=hi.2.1
 rw[hz1]at ho
 refine js Z (aa (Val.seq (p:=z.2) (q:=[]) O Z Z Z Z Z Z) Z (jn (ak Z (fun z65=>?_) (fun z65=>?_))))
 refine ae (js Z (jr ?_))
 refine ay Z ?_
 rw[we,←ho]
 unfold tZ
 rw[if_pos (bc z65)];rfl
 refine af (ae (ac Z (jr ?_)))
 refine ay Z ?_
 rw[we,←ho]
 unfold tZ
 rw[if_neg (bw z65)]
end Go.Al
/- What three functions of Go's library answer, as contracts of the abstract logic. -/
namespace Go.Al
variable{L:Nat}(h1:4096≤L)(h2:L≤1073741824)
theorem p8{w:World}{k:Nat}{os:Array Obj}:Frame w (Go.Sort.grow (w.drewN k) os) []:=by
 refine⟨Z,Z,Z,?_,fun b hb _=>?_⟩
 show w.heap.size≤(w.heap++os).size
 rw[Array.size_append];omega
 show(w.heap++os)[b]? = w.heap[b]?
 exact Array.getElem?_append_left hb
theorem jj{P:Program}{L f:Nat}{args:List A}{v:A}(hc:fu P f)
    (h: ∀(w:World) (ok:Nat→Prop) (m:Nat→Loc) (vs:List Value),GOk P w ok→RAs L w ok m args vs→Calls P f vs.toArray w (lD fun x w'=>Frame w w' []∧∀ok' m',(∀b,w.heap.size≤b→ok' b)→RA L w' ok' m' v x)):MC P L f args [] (Plain v):=by
 refine⟨hc,fun w m F ok vs h0 h1 h2 h3 h4 h5=>?_⟩
 cases h1
 refine Calls.mono (h w ok m vs h0 h5) fun e w' he=>?_
 cases e with
 | returned x=>
  obtain⟨hf,hx⟩:=he
  exact⟨v,[],m,[],⟨Z,Z⟩,.nil,List.nodup_nil,(by simp),hx _ _ (fun b hb=>⟨by simp,.inr (.inl hb)⟩),hf,fun _ _ _=>rfl,h4⟩
 | _=>exact he
theorem RA.str_inv{L w ok m}{s:ByteArray}{x:Value}(h:RA L w ok m (.c (.d (.str s))) x):x= .string s∧s.size≤L:=by
 cases h with|c h=>cases h with|d h=>cases h with|str h=>exact⟨rfl,h⟩
theorem RA.int_inv'{L w ok m}{k:IntKind}{n:Int}{x:Value}(h:RA L w ok m (.c (.d (.int k n))) x):x= .int k n:=by
 cases h with|c h=>cases h with|d h=>cases h with|int h1 h2=>rfl
theorem GOk.tab{P:Program}{w:World}{ok:Nat→Prop}(h:GOk P w ok){g:Nat}(hg:P.globalNamed "internal/strconv.uint64pow10" = some g):Lib.TabIs P w "internal/strconv.uint64pow10" .u64 Lib.pow10Tab:=by
 obtain⟨_,cs,h1,h2⟩:=h "internal/strconv.uint64pow10" g (by simp[GN]) hg
 rw[GF.tab h2 Z]at h1
 exact h1
theorem GOk.maxLen{P:Program}{w:World}{ok:Nat→Prop}(h:GOk P w ok){g:Nat}(hg:P.globalNamed "internal/bytealg.MaxLen" = some g): ∃m,w.cell? ⟨g,0,none⟩=some (.int .i64 m):=by
 obtain⟨_,cs,h1,h2⟩:=h "internal/bytealg.MaxLen" g (by simp[GN]) hg
 obtain⟨m,hm⟩:=GF.len h2 rfl
 refine⟨m,?_⟩
 unfold World.var? at h1
 rw[hg,Option.bind_some]at h1
 split at h1
 rename_i cs' _ _ hb
 cases h1
 simp[World.cell?,hb,hm]
 cases h1
variable{n:Int}
theorem Ad(hn0: -9223372036854775808≤n)(hn1:n≤9223372036854775807):MQ h1 h2 149 [eI n,eI 10] [] (Plain (aS8 (Lib.itoa n))):=by
 refine jj ⟨_,_,Tryz.func149,by kernel_rfl,Z⟩ fun w ok m vs h0 h5=>?_
 cases h5 with
 | cons a1 a2=>cases a2 with
  | cons a3 a4=>
   cases a4
   rw[RA.int_inv' a1,RA.int_inv' a3]
   refine Calls.mono (Tryz.strconv_FormatInt_10 n hn0 hn1 w (h0.tab (g:=5) (by kernel_rfl))) fun e w' ⟨he,k,os,hw⟩=>?_
   subst he hw
   refine⟨p8,fun ok' m' _=>.c (.d (.str ?_))⟩
   show(bS (Lib.itoa n)).size≤L
   rw[bS_size]
   have hd: ∀m:Nat,m≤9223372036854775808→(Lib.decDigits m).length≤20:=fun m hm=>ri (by omega)
   unfold Lib.itoa
   split
   ·
    have:=hd n.natAbs (by omega);rw[db];omega
   ·
    have:=hd n.toNat (by omega);omega
theorem fX(s:Str):(bS s).data.toList=s:=by simp[bS]
theorem kp(s sep:Str):(Lib.cut s sep).1.length≤s.length∧(Lib.cut s sep).2.1.length≤s.length:=by
 unfold Lib.cut
 split
 exact⟨by rw[List.length_take];omega,by rw[List.length_drop];omega⟩
 exact⟨bQ _,ca _⟩
theorem wX{s sep:Str}:MQ h1 h2 34 [aS8 s,aS8 sep] [] (Plain (.tup [aS8 (Lib.cut s sep).1,aS8 (Lib.cut s sep).2.1,eB (Lib.cut s sep).2.2])):=by
 refine jj ⟨_,_,Tryz.func34,by kernel_rfl,Z⟩ fun w ok m vs h0 h5=>?_
 cases h5 with
 | cons a1 a2=>cases a2 with
  | cons a3 a4=>
   cases a4
   obtain⟨rfl,l1⟩:=a1.str_inv
   obtain⟨rfl,l2⟩:=a3.str_inv
   obtain⟨k,hk⟩:=h0.maxLen (g:=0) (by kernel_rfl)
   rw[bS_size]at l1
   refine Calls.mono (Tryz.strings_Cut (bS s) (bS sep) k w (by rw[bS_size];omega) hk) fun e w' ⟨he,j,hw⟩=>?_
   subst he hw
   have hl:=kp s sep
   refine⟨⟨Z,Z,Z,bQ _,fun _ _ _=>rfl⟩,fun ok' m' _=>?_⟩
   rw[fX,fX]
   refine .tup (.cons (.c (.d (.str ?_))) (.cons (.c (.d (.str ?_))) (.cons (.c (.d .bool)) .nil)))
   ·
    show(bS _).size≤L;rw[bS_size];omega
   ·
    show(bS _).size≤L;rw[bS_size];omega
theorem gV{sep:Str}: ∀{k:Nat} {s:Str},∀p∈Lib.splitK sep 0 k s,p.length≤s.length
 | 0,s,p,hp=>by rw[List.mem_singleton.1 hp];exact bQ _
 | k+1,s,p,hp=>by
  rw[Lib.splitK]at hp
  split at hp
  rw[List.mem_singleton.1 hp];exact bQ _
  rcases List.mem_cons.1 hp with rfl|hp
  rw[List.length_take];omega
  have:=gV p hp
  rw[List.length_drop]at this;omega
abbrev strs(ss:List Str):D:=.slc 1 (ss.map fun p=>[sD p])
theorem oA{L:Nat}{w:World}{ok:Nat→Prop}{b:Nat}: ∀{ss:List Str} {o:Nat},(∀p∈ss,p.length≤L)→(∀j p,ss[j]? = some p→w.cell? ⟨b,o+j,none⟩=some (.string (bS p)))→RDs L w ok (ss.map fun p=>[sD p]).flatten b o []
 | [],o,_,_=>.nil
 | p::r,o,h1,h2=>by
  simp only[List.map_cons,List.flatten_cons,List.singleton_append]
  refine .cons (F1:=[]) (F2:=[]) (h2 0 p Z) (.str (by rw[bS_size];exact h1 p (List.mem_cons_self ..))) (oA (fun q hq=>h1 q (List.mem_cons_of_mem _ hq)) fun j q hq=>?_)
  have:=h2 (j+1) q hq
  rwa[show o+1+j=o+(j+1) by omega]
theorem nE{s sep:Str}(hne:sep≠[])(hl:(Lib.split s sep).length≤L):MQ h1 h2 39 [aS8 s,aS8 sep] [] (Plain (.c (.d (strs (Lib.split s sep))))):=by
 refine jj ⟨_,_,Tryz.func39,by kernel_rfl,Z⟩ fun w ok m vs h0 h5=>?_
 cases h5 with
 | cons a1 a2=>cases a2 with
  | cons a3 a4=>
   cases a4
   obtain⟨rfl,l1⟩:=a1.str_inv
   obtain⟨rfl,l2⟩:=a3.str_inv
   obtain⟨k,hk⟩:=h0.maxLen (g:=0) (by kernel_rfl)
   rw[bS_size]at l1
   refine Calls.mono (Tryz.strings_Split (bS s) (bS sep) k w (by rw[bS_size];omega) hk (by rw[bS_size];exact List.length_pos_iff.2 hne)) fun e w' ⟨he,hw⟩=>?_
   subst he hw
   have hd:=Lib.splitB_data (bS sep) 0 (Lib.countB (bS s) (bS sep)) (bS s)
   have hc:Lib.countB (bS s) (bS sep)=Lib.count s sep:=by show Lib.count (bS s).data.toList (bS sep).data.toList=_;rw[fX,fX]
   rw[hc]at hd ⊢
   rw[fX,fX]at hd
   have hd2:Lib.splitB (bS sep) 0 (Lib.count s sep) (bS s)=(Lib.split s sep).map bS:=by
    have:=congrArg (List.map bS) hd
    rw[List.map_map]at this
    rw[show(Lib.split s sep)=Lib.splitK sep 0 (Lib.count s sep) s from Z,←this]
    conv=>lhs;rw[←List.map_id (Lib.splitB (bS sep) 0 (Lib.count s sep) (bS s))]
    exact List.map_congr_left fun x _=>(vY x).symm
   have hall:=Lib.splitB_all (bS sep) (by rw[bS_size];exact List.length_pos_iff.2 hne) 0 _ (bS s) Z
   rw[hc,hd2,bd]at hall
   refine⟨⟨Z,Z,Z,by show w.heap.size≤(w.heap.push _).size;rw[Array.size_push];omega,fun b hb _=>by show(w.heap.push _)[b]? = _;rw[Array.getElem?_push,if_neg (by omega)]⟩,fun ok' m' hok=>.c (.d ?_)⟩
   rw[hd2,←hall]
   rw[show(Lib.split s sep).length=((Lib.split s sep).map fun p=>[sD p]).length by rw[bd]]
   refine .slc (by rw[bd];exact hl) (bQ _) (by intro e he;obtain⟨p,_,rfl⟩:=List.mem_map.1 he;rfl) (hok _ (bQ _)) (by show w.heap.size<(w.heap.push _).size;rw[Array.size_push];omega) (oA (fun p hp=>Nat.le_trans (gV p hp) l1) fun j p hj=>?_)
   rw[Nat.zero_add]
   have hb:(w.alloc (.cells (((Lib.split s sep).map bS).map Value.string).toArray 9)).heap[w.heap.size]? = some (.cells (((Lib.split s sep).map bS).map Value.string).toArray 9):=by
    show(w.heap.push _)[w.heap.size]? = _
    rw[Array.getElem?_push_size]
   rw[cell_of_row _ _ _ _ _ _ hb]
   simp[hj]
theorem lO(hn0: -9223372036854775808≤n)(hn1:n≤9223372036854775807):MQ h1 h2 99 [eI n] [] (Plain (aS8 (Lib.itoa n))):=by
 refine au ?_ Z
 refine jB 5 h1 h2 Tryz.func99 Z fun O hF=>?_
 refine ae (js Z (be (js Z (jf [3,2] Z (aO Z (Ad (n:=n) h1 h2 hn0 hn1) 5000 Z (js Z (jf [2] Z (jr ?_))))))))
 refine ay Z ?_
 rfl
theorem wW{o:Str}(ho:o.length≤1000):MQ h1 h2 130 [eI n,.c (.pt 0 0 0)] [(0,.box [.d (sD o)])] (fW (.tup []) [(0,.box [.d (sD (o++dT o n))])]):=by
 refine jH 11 [0] h1 h2 Tryz.func130 Z fun O hF=>?_
 refine ae (ac Z (jf [4,1] Z (jn (ak Z (fun z4=>?_) (fun z4=>?_)))))
 refine ab (js Z (aa (aH (p:=o) (q:=[45]) O Z Z Z Z Z Z (by show o.length+1≤L;omega) (by show L≤_;omega)) Z (jf [6,1] Z (jo Z (aB ?_)))))
 refine jn ?_
 show _∧_
 refine⟨.inr Z,_,cY,_,Z,Z,?_⟩
 rw[show dT o n=[45] by unfold dT;rw[if_pos (bc z4)]]
 refine ae (js Z (aa (b9 (p:=o) (q:=[]) O Z Z Z Z Z Z) Z (jf [8,1] Z (jn (ak Z (fun z8=>?_) (fun z8=>?_))))))
 refine ab (js Z (aa (aH (p:=o) (q:=[43]) O Z Z Z Z Z Z (by show o.length+1≤L;omega) (by show L≤_;omega)) Z (jf [10,1] Z (jo Z (aB ?_)))))
 refine jn ?_
 show _∧_
 refine⟨.inr Z,_,cY,_,Z,Z,?_⟩
 rw[show dT o n=[43] by unfold dT;rw[if_neg (bw z4),if_neg (by simpa using z8)]]
 refine af ?_
 show _∧_
 refine⟨.inr Z,_,cY,_,Z,Z,?_⟩
 rw[show dT o n=[] by unfold dT;rw[if_neg (bw z4),if_pos (by simpa using z8)],List.append_nil]
theorem u7{o:Str}{i:Nat}{c:Int}(h:c=0):tC o i c=o:=by unfold tC;rw[if_pos h]
theorem xv{o:Str}{i:Nat}{c:Int}(h: ¬c=0):tC o i c=(o++dT o c++(if c.natAbs=1 then[]else Lib.decDigits c.natAbs))++[io i]:=by unfold tC;rw[if_neg h]
variable{t:Tm}
theorem nF(ht:t.ok=true):MQ h1 h2 81 [i7 t] [] (Plain (aS8 (tS t))):=by
 refine au ?_ Z
 refine jB 52 h1 h2 Tryz.func81 Z fun O hF=>?_
 obtain⟨z6,hx6,hl10⟩:=jb ht
 have hl:t.xs.length≤L:=by omega
 refine ae (jx Z (aB ?_))
 refine js Z (be (jl Z (aB ?_)))
 refine jo Z (aB ?_)
 refine be (ac Z (jn (ag (ae (ac Z ?_)))))
 first|refine cm Z ?_|refine js Z ?_|refine aU Z Z ?_
 refine js Z (jn (am (av (X:=Nat×Str) (fun z=>⟨[(1,.c (.pt 1 0 0)),(3,.c (.pt 3 0 0)),(4,.c (.fn 130 [.pt 3 0 0])),(9,cd t.xs),(10,eI t.xs.length),(11,eI (z.1:Nat))],[(1,.box [.d (.int .i64 t.c),.d (cf t.xs)]),(3,.box [.d (sD z.2)])]⟩) (fun z=>z.1≤t.xs.length∧z.2=tX 0 (t.xs.take z.1) []∧z.2.length≤9*z.1) (fun z=>t.xs.length-z.1) (0,[]) (Ent.to ⟨Z,Z,Z,Z,Z,Z,ao⟩ Z) ?_ (fun z hi=>?_))))
 exact⟨ca _,by show[]=tX 0 (t.xs.take 0) [];simp[tX],bQ _⟩
 refine ae (js Z (jn (ag (ak Z (fun z12=>?_) (fun z12=>?_)))))
 refine af (ag (am (ae (js Z ?_))))
 first|refine uG Z Z ?_|refine lA Z Z ?_|refine aU Z Z ?_
 refine aF Z (jf [6,5,12,1,3,4,9,10,11] Z (jn (ag (ae ?_))))
 have hz1:z.1<t.xs.length:=by have:=bc z12;omega
 obtain⟨n,hn⟩: ∃n,n=(t.xs.getD z.1 default):=⟨_,rfl⟩
 rw[←hn]
 have hna:n.natAbs≤1000000:=by rw[hn,getD_lt hz1];exact hx6 _ (List.getElem_mem hz1)
 have hstep:tX 0 (t.xs.take (z.1+1)) []=tC z.2 z.1 n:=by rw[List.take_succ_eq_append_getElem hz1,mW,List.length_take,Nat.min_eq_left (by omega),Nat.zero_add,hi.2.1,hn,getD_lt hz1]
 have hzl:z.2.length≤90:=by have:=hi.2.2;omega
 refine ac Z (jn (ak Z (fun z17=>?_) (fun z17=>?_)))
 refine aJ (ab ?_)
 first|refine ji Z ?_|refine aU Z Z ?_
 refine js Z (jn ?_)
 refine⟨(z.1+1,z.2),Ent.to ⟨Z,Z,Z,Z,Z,Z,ao⟩ Z,⟨by show z.1+1≤_;omega,?_,by show z.2.length≤9*(z.1+1);omega⟩,by show t.xs.length-(z.1+1)<t.xs.length-z.1;omega⟩
 show z.2=_
 rw[hstep,u7 (bc z17)]
 refine af (ae (ac Z (cu O [3] (bin:=[.box [.d (sD z.2)]]) Z Z Z Z (wW (n:=n) (o:=z.2) h1 h2 (by omega)) Z Z Z Z Z Z (B0:=21000) Z Z (aB ?_))))
 obtain⟨o2,ho2⟩: ∃o,o=z.2++dT z.2 n:=⟨_,rfl⟩
 rw[←ho2]
 have h2l:o2.length≤z.2.length+1:=by have:=kI (o:=z.2) (n:=n);rw[ho2,bP];omega
 refine jf [17,16,6,5,12,1,3,4,9,10,11] Z (jn (ag (ae (js Z (aO Z (xi (x:=n) h1 h2 (by omega)) 23000 Z (js Z (jf [23,17,16,6,5,12,1,3,4,9,10,11] Z (jn ?_))))))))
 obtain⟨o3,ho3⟩: ∃o,o=o2++(if n.natAbs=1 then[]else Lib.decDigits n.natAbs):=⟨_,rfl⟩
 have hdl:(Lib.decDigits n.natAbs).length≤7:=fI hna
 have h3l:o3.length≤o2.length+7:=by rw[ho3,bP];split<;>simp<;>omega
 refine bl ⟨[(1,.c (.pt 1 0 0)),(3,.c (.pt 3 0 0)),(4,.c (.fn 130 [.pt 3 0 0])),(9,cd t.xs),(10,eI t.xs.length),(11,eI (z.1:Nat)),(5,eI (z.1:Nat)),(6,eI n)],[(1,.box [.d (.int .i64 t.c),.d (cf t.xs)]),(3,.box [.d (sD o3)])]⟩ ?_ ?_
 refine ak Z (fun z23=>?_) (fun z23=>?_)
 refine lC [_,_,_,_,_,_] [pn [] 0 2,bC,pe [1] 0,pe [1,2] 1,pn (rg 0 4) 2 2,pe (rg 0 5) 2] [2,3,5] [_,_,_,_] (ai (kc Z (kc Z (V Z))) (kc Z (ai (aP O (B0:=27000) Z Z Z Z (xi (x:=n) h1 h2 (by omega)) (ah Z) Z Z Z Z Z) (ai (aP O (B0:=28000) Z Z Z Z (lO (n:=(n.natAbs:Int)) h1 h2 (by omega) (by omega)) (ah Z) Z Z Z Z Z) (ai (aH (p:=o2) (q:=Lib.itoa (n.natAbs:Int)) O Z Z Z Z Z Z (by rw[fq];have:=fI hna;show o2.length+(Lib.decDigits n.natAbs).length≤L;omega) (by show L≤_;omega)) (ai (eS Z Z Z) trivial)))))) ?_
 refine B5 ?_
 exact⟨Z,Ent.to ⟨Z,Z,Z,Z,Z,Z,Z,Z,ao⟩ (by rw[ho3,if_neg (by have:=z23;simp at this;omega),fq])⟩
 refine af ?_
 exact⟨Z,cY.trans (Ent.to ⟨Z,Z,Z,Z,Z,Z,Z,Z,ao⟩ (by rw[ho3,if_pos (by have:=z23;simp at this;omega),List.append_nil];rfl))⟩
 refine ab (ac Z ?_)
 first|refine ji Z ?_|refine aU Z Z ?_
 refine aa ((Val.conv (b:=true) (dt:=.int .i64) O Z Z Z (by kernel_rfl) (by kernel_rfl)).cast (v':=.c (.d (.int .i32 (97+z.1:Int)))) (by rw[cq .i32 _ (by show(-2147483648:Int)≤_;omega) (by show _≤(2147483647:Int);omega)])) Z (aa ((rW (dt:=.int .i32) O Z Z Z (by kernel_rfl) (by kernel_rfl) (by omega) (by omega)).cast (v':=aS8 [io z.1]) (by rw[show(97+(z.1:Int)).toNat=97+z.1 by omega];rfl)) Z (aa (aH (p:=o3) (q:=[io z.1]) O Z Z Z Z Z Z (by show o3.length+1≤L;omega) (by show L≤_;omega)) Z (jf [34,1,3,4,9,10,11,6] Z (jo Z (aB ?_)))))
 refine jn (ab ?_)
 first|refine ji Z ?_|refine aU Z Z ?_
 refine js Z (jn ?_)
 refine⟨(z.1+1,o3++[io z.1]),Ent.to ⟨Z,Z,Z,Z,Z,Z,ao⟩ Z,⟨by show z.1+1≤_;omega,?_,by show(o3++[io z.1]).length≤9*(z.1+1);rw[bP,sj];omega⟩,by show t.xs.length-(z.1+1)<t.xs.length-z.1;omega⟩
 show o3++[io z.1]=_
 rw[hstep,xv (bw z17),ho3,ho2]
 refine aJ (ag (ae ?_))
 obtain hz1:z.1=t.xs.length:=by have:=bw z12;omega
 have hzl:z.2.length≤90:=by have:=hi.2.2;omega
 have ho:=hi.2.1
 rw[hz1,List.take_length]at ho
 refine aF Z (jf [38,12,1,3,4,9,10,11] Z (jn ?_))
 obtain⟨o5,ho5⟩: ∃o,o=tK z.2 t.c:=⟨_,rfl⟩
 refine bl ⟨[(1,.c (.pt 1 0 0)),(3,.c (.pt 3 0 0))],[(1,.box [.d (.int .i64 t.c),.d (cf t.xs)]),(3,.box [.d (sD o5)])]⟩ ?_ ?_
 refine ak Z (fun z38=>?_) (fun z38=>?_)
 refine ae (aF Z (jf [41,39,38,12,1,3,4,9,10,11] Z (cu O [3] (bin:=[.box [.d (sD z.2)]]) Z Z Z Z (wW (n:=t.c) (o:=z.2) h1 h2 (by omega)) Z Z Z Z Z Z (B0:=43000) Z Z (aB ?_))))
 refine jf [38,12,1,3,4,9,10,11] Z (jn (lC [_,_,_,_,_,_,_] [pn [] 0 2,bC,bb [1],pe [1,2] 0,pe [1,2,3] 1,pn (rg 0 5) 2 2,pe (rg 0 6) 2] [3,4,6] [_,_,_,_] (ai (kc Z (kc Z (V Z))) (kc Z (kc Z (ai (aP O (B0:=47000) Z Z Z Z (xi (x:=t.c) h1 h2 (by omega)) (ah Z) Z Z Z Z Z) (ai (aP O (B0:=48000) Z Z Z Z (lO (n:=(t.c.natAbs:Int)) h1 h2 (by omega) (by omega)) (ah Z) Z Z Z Z Z) (ai (aH (p:=(z.2++dT z.2 t.c)) (q:=Lib.itoa (t.c.natAbs:Int)) O Z Z Z Z Z Z (by rw[fq];have:=fI z6;have h7:=kI (o:=z.2) (n:=t.c);show(z.2++dT z.2 t.c).length+(Lib.decDigits t.c.natAbs).length≤L;rw[bP];omega) (by show L≤_;omega)) (ai (eS Z Z Z) trivial))))))) ?_))
 refine B5 ?_
 exact⟨Z,Ent.to ⟨Z,Z,ao⟩ (by rw[ho5,fq];unfold tK;rw[if_neg (by simpa using z38)])⟩
 refine af ?_
 exact⟨Z,cY.trans (Ent.to ⟨Z,Z,ao⟩ (by rw[ho5];unfold tK;rw[if_pos (by simpa using z38)]))⟩
 refine ag (ae (js Z (aa (Val.seq (p:=o5) (q:=[]) O Z Z Z Z Z Z) Z (jn (ak Z (fun z50=>?_) (fun z50=>?_))))))
 refine ae (js Z (jr ?_))
 refine ay Z ?_
 rw[show tS t=tZ o5 by rw[ho5,ho];rfl]
 unfold tZ
 rw[if_pos (bc z50)];rfl
 refine af (ae (ac Z (jr ?_)))
 refine ay Z ?_
 rw[show tS t=tZ o5 by rw[ho5,ho];rfl]
 unfold tZ
 rw[if_neg (bw z50)]
end Go.Al
/- Lemmas for the walk of the program's reader of terms. -/
namespace Go.Al
variable{L:Nat}(h1:4096≤L)(h2:L≤1073741824)
open Go.Lib
theorem aX{s:Str}{i:Nat}(h:i<s.length):s[((i:Nat):Int).toNat]? = some (s.getD i 0):=by
 rw[Int.toNat_natCast,List.getElem?_eq_getElem h];simp[h]
theorem cR{s:Str}{i:Nat}(h:i<s.length):s.drop i=s.getD i 0::s.drop (i+1):=by
 rw[List.drop_eq_getElem_cons h];simp[h]
theorem eL{b:UInt8}{n:Nat}(hn:n<256):((b.toNat:Int)=n)↔b=UInt8.ofNat n:=by
 constructor
 intro h
 apply UInt8.toNat_inj.1
 rw[UInt8.toNat_ofNat'];omega
 rintro rfl
 rw[UInt8.toNat_ofNat'];omega
abbrev bt(s:Str)(i:Nat):Int:=((s.getD i 0).toNat:Int)
theorem iw(s:Str)(i:Nat):0≤bt s i∧bt s i≤255:=by
 have:=(s.getD i 0).toNat_lt
 unfold bt;omega
theorem vn{s:Str}{i:Nat}(h:i<s.length):kv (s.drop i)=if bt s i=45 then(-1,s.drop (i+1))else if bt s i=43 then(1,s.drop (i+1))else(1,s.drop i):=by
 rw[cR h,kv]
 have h1:bt s i=45↔s.getD i 0=45:=eL (b:=s.getD i 0) (n:=45) (by decide)
 have h2:bt s i=43↔s.getD i 0=43:=eL (b:=s.getD i 0) (n:=43) (by decide)
 by_cases e1:bt s i=45
 rw[if_pos e1,if_pos (h1.1 e1)]
 rw[if_neg e1,if_neg (fun e=>e1 (h1.2 e))]
 by_cases e2:bt s i=43
 rw[if_pos e2,if_pos (h2.1 e2)]
 rw[if_neg e2,if_neg (fun e=>e2 (h2.2 e)),←cR h]
theorem mZ{s:Str}{i:Nat}(h:i<s.length): ∃(sg:Int) (i1:Nat),kv (s.drop i)=(sg,s.drop i1)∧(i≤i1∧i1≤i+1∧i1≤s.length)∧(sg=1∨sg= -1)∧(if bt s i=45 then sg= -1∧i1=i+1 else if bt s i=43 then sg=1∧i1=i+1 else sg=1∧i1=i):=by
 rw[vn h]
 split
 exact⟨-1,i+1,Z,⟨by omega,by omega,by omega⟩,.inr Z,Z,Z⟩
 split
 exact⟨1,i+1,Z,⟨by omega,by omega,by omega⟩,.inl Z,Z,Z⟩
 exact⟨1,i,Z,⟨by omega,by omega,by omega⟩,.inl Z,Z,Z⟩
theorem kD{s:Str}{i:Nat}:iY (s.getD i 0)=(decide (48≤bt s i)&&decide (bt s i≤57)):=by
 unfold iY bt
 congr 1<;>(apply Bool.eq_iff_iff.2;simp;omega)
theorem pC{s:Str}{i:Nat}:sk (s.getD i 0)=(decide (97≤bt s i)&&decide (bt s i<107)):=by
 unfold sk bt
 congr 1<;>(apply Bool.eq_iff_iff.2;simp;omega)
theorem kJ{s:Str}{i k:Nat}{n:Int}(h:i<s.length)(h1:48≤bt s i)(h2:bt s i≤57):bW (k+1) n (s.drop i)=bW k (10*n+(bt s i-48)) (s.drop (i+1)):=by
 rw[cR h,bW,if_pos (by rw[kD];simp[h1,h2])]
theorem gY{s:Str}{i i1:Nat}{n:Int}(h: ¬(i<s.length∧48≤bt s i∧bt s i≤57∧i<i1+8))(h0:i1≤i)(h8:i≤i1+8)(hl:i≤s.length):bW (8-(i-i1)) n (s.drop i)=(n,s.drop i):=by
 by_cases h1:i<s.length
 by_cases h2:i<i1+8
 rw[cR h1,gX]
 rw[kD]
 by_cases h3:48≤bt s i
 by_cases h4:bt s i≤57
 exact absurd ⟨h1,h3,h4,h2⟩ h
 simp[h4]
 simp[h3]
 rw[show 8-(i-i1)=0 by omega,bW]
 rw[List.drop_eq_nil_of_le (by omega),lX]
theorem pj{s:Str}{i i1 i2:Nat}{sg n:Int}(hs:kv (s.drop i)=(sg,s.drop i1))(hn:bW 8 0 (s.drop i1)=(n,s.drop i2))(h1:i1≤i2)(h2:i2≤s.length) :
    oP (s.drop i)=if i2<s.length∧97≤bt s i2∧bt s i2<107 then some (s.drop (i2+1),some ((s.getD i2 0).toNat-97),sg*(if i2=i1 then 1 else n))else if i2=i1 then none else some (s.drop i2,none,sg*n):=by
 unfold oP
 simp only[hs,hn]
 have hl:((s.drop i2).length=(s.drop i1).length)↔i2=i1:=by rw[List.length_drop,List.length_drop];omega
 by_cases h:i2<s.length
 rw[cR h]at hl ⊢
 simp only[hl,pC]
 by_cases h3:97≤bt s i2
 by_cases h4:bt s i2<107
 simp[h,h3,h4]
 simp[h4]
 simp[h3]
 have he:s.drop i2=[]:=List.drop_eq_nil_of_le (by omega)
 rw[if_neg (show¬(i2<s.length∧97≤bt s i2∧bt s i2<107)from fun e=>h e.1)]
 rw[he]at hl ⊢
 simp only[hl]
theorem kN{k:Nat}{n d:Int}(h:n<10^k)(hd:d≤9):10*n+d<10^(k+1):=by
 rw[Int.pow_succ];omega
theorem lJ{k:Nat}(h:k≤8):(10:Int)^k≤100000000:=by
 have:10^k≤10^8:=Nat.pow_le_pow_right (by decide) h
 have e:((10^k:Nat):Int)=(10:Int)^k:=by rw[Int.natCast_pow];rfl
 rw[←e];omega
theorem jC{xs:List Int}{i:Nat}{n:Int}:(cw xs i n).length=xs.length:=by unfold cw;rw[List.length_set]
theorem k7{xs:List Int}{i:Nat}{n B M:Int}(hB:0≤B)(h: ∀y∈xs,-B≤y∧y≤B)(h1: -M≤n)(h2:n≤M): ∀y∈cw xs i n,-(B+M)≤y∧y≤B+M:=by
 intro y hy
 unfold cw at hy
 rcases List.mem_or_eq_of_mem_set hy with hy|rfl
 have:=h y hy;omega
 by_cases hi:i<xs.length
 have:=h _ (List.getElem_mem hi)
 rw[show xs.getD i 0=xs[i] by simp[hi]];omega
 rw[show xs.getD i 0=0 by simp[Nat.not_lt.1 hi]];omega
theorem pG{xs:List Int}{i:Nat}{B:Int}(hB:0≤B)(h: ∀y∈xs,-B≤y∧y≤B): -B≤xs.getD i 0∧xs.getD i 0≤B:=by
 by_cases hi:i<xs.length
 rw[show xs.getD i 0=xs[i] by simp[hi]];exact h _ (List.getElem_mem hi)
 rw[show xs.getD i 0=0 by simp[Nat.not_lt.1 hi]];omega
theorem AL{a b c d:Prop}[Decidable a][Decidable b][Decidable c][Decidable d]:(bif (bif (bif decide a then decide b else false)then decide c else false)then decide d else false)=true↔a∧b∧c∧d:=by
 by_cases a<;>by_cases b<;>by_cases c<;>by_cases d<;>simp_all
theorem w8{a b c:Prop}[Decidable a][Decidable b][Decidable c]:(bif (bif decide a then decide b else false)then decide c else false)=true↔a∧b∧c:=by
 by_cases a<;>by_cases b<;>by_cases c<;>simp_all
theorem dB{x:Bool}{p:Prop}(h:x=false)(hx:x=true↔p): ¬p:=fun hp=>by rw[hx.2 hp]at h;cases h
theorem ry{a:Prop}[Decidable a](h:(decide a==true)=true):a:=by simpa using h
theorem uI{a:Prop}[Decidable a]{b:Bool}(h:((bif decide a then b else false)==true)=true):a:=by
 by_cases a<;>simp_all
def cy(r:Option Tm):Tm×Bool:=match r with
  | none=>(⟨0,[]⟩,false)
  | some t=>(t,true)
theorem i9{s:Str}{ys:List Int}{c:Int}(h:il s (zr 10) 0=some (ys,c)):dD s=if(Tm.mk c (bO ys)).ok=true∧tS ⟨c,bO ys⟩=s then some ⟨c,bO ys⟩else none:=by
 unfold dD;rw[h]
theorem pr{s:Str}(h:il s (zr 10) 0=none):dD s=none:=by
 unfold dD;rw[h]
theorem Aj{s:Str}(hs:s.length≤1100000):MQ h1 h2 35 [aS8 s] [] (Plain (sK (cy (dD s)))):=by
 refine MC.data (jB 120 h1 h2 Tryz.func35 Z fun O hF=>?_)
 refine ae (jl Z (aB ?_))
 refine js Z (be (aY (iI O Z Z Z Z Z Z Z Z Z (by first|omega|(simp at *;omega)) (by first|omega|(simp at *;omega)) (by first|omega|(simp at *;omega)) (by first|omega|(dsimp only;omega)|(simp only[aQ]at *;omega)) (by first|omega|(simp at *;omega)) Z Z Z) Z (aB ?_)))
 refine js Z (jf [10,3,2,0] Z (jl Z (aB ?_)))
 refine jo Z (aB ?_)
 refine jn (ag (ae (js Z (jn (am (av (X:=Nat×List Int×Int) (fun z=>⟨[(0,aS8 s),(2,.c (.pt 2 0 0)),(4,.c (.pt 4 0 0)),(5,eI (z.1:Nat))],[(2,.box [.d (.int .i64 0),.d .nils]),(4,.box [.d (.int .i64 z.2.2),.rs 9 0 10]),(9,cL z.2.1)]⟩) (fun z=>z.1≤s.length∧z.2.1.length=10∧(∀y∈z.2.1,-(100000000*(z.1:Int))≤y∧y≤100000000*(z.1:Int))∧(-(100000000*(z.1:Int))≤z.2.2∧z.2.2≤100000000*(z.1:Int))∧il (s.drop z.1) z.2.1 z.2.2=il s (zr 10) 0) (fun z=>s.length-z.1) (0,zr 10,0) (Ent.to ⟨Z,Z,Z,Z,ao⟩ Z) ?_ (fun z hi=>?_)))))))
 exact⟨ca _,Z,fun y hy=>by rw[show y=0 from List.eq_of_mem_replicate hy];simp,by simp,Z⟩
 refine ag (ae (ac Z (aa (aI (p:=s) O Z Z Z Z Z Z Z Z Z) Z (js Z (jf [14,0,2,4,5] Z (jn (ak Z (fun z14=>?_) (fun z14=>?_))))))))
 refine af (am (ae (js Z (jn (ag (ae (ac Z ?_)))))))
 have hz0:z.1<s.length:=by have:=bc z14;omega
 have hiz:=hi
 obtain⟨sg,i1,hsg,hi1,hsg1,hsv⟩:=mZ hz0
 refine aa (aA (p:=s) (b:=s.getD z.1 0) O Z Z Z Z Z Z Z (by omega) (aX hz0)) Z (jf [17,6,14,0,2,4,5] Z (jn (bl ⟨[(0,aS8 s),(2,.c (.pt 2 0 0)),(4,.c (.pt 4 0 0)),(5,eI (i1:Nat)),(6,eI sg)],[(2,.box [.d (.int .i64 0),.d .nils]),(4,.box [.d (.int .i64 z.2.2),.rs 9 0 10]),(9,cL z.2.1)]⟩ ?_ ?_)))
 refine am (ae (ac Z (jn (ak Z (fun z18=>?_) (fun z18=>?_)))))
 refine ae (js Z (jn (ab (js Z ?_))))
 first|refine ji Z ?_|refine aU Z Z ?_
 refine js Z (jf [5,6,18,19,17,14,0,2,4] Z (jn ?_))
 exact⟨Z,Ent.to ⟨Z,Z,Z,congrArg (fun z=>some (eI z)) (show(z.1:Int)+1=(i1:Int) by rw[if_pos (bc z18)]at hsv;omega),congrArg (fun z=>some (eI z)) (show(-1:Int)=sg by rw[if_pos (bc z18)]at hsv;omega),ao⟩ Z⟩
 refine ae (ac Z (jn (ak Z (fun z22=>?_) (fun z22=>?_))))
 refine ab (js Z ?_)
 first|refine ji Z ?_|refine aU Z Z ?_
 refine js Z (jf [5,22,23,18,19,17,6,14,0,2,4] Z (jn ?_))
 exact⟨Z,Ent.to ⟨Z,Z,Z,congrArg (fun z=>some (eI z)) (show(z.1:Int)+1=(i1:Int) by rw[if_neg (bw z18),if_pos (bc z22)]at hsv;omega),congrArg (fun z=>some (eI z)) (show(1:Int)=sg by rw[if_neg (bw z18),if_pos (bc z22)]at hsv;omega),ao⟩ Z⟩
 refine af ?_
 exact⟨Z,Ent.to ⟨Z,Z,Z,congrArg (fun z=>some (eI z)) (show(z.1:Int)=(i1:Int) by rw[if_neg (bw z18),if_neg (bw z22)]at hsv;omega),congrArg (fun z=>some (eI z)) (show(1:Int)=sg by rw[if_neg (bw z18),if_neg (bw z22)]at hsv;omega),ao⟩ Z⟩
 refine ae (aF Z (jn (ag (am (av (X:=Nat×Int) (fun y=>⟨[(0,aS8 s),(2,.c (.pt 2 0 0)),(4,.c (.pt 4 0 0)),(5,eI (y.1:Nat)),(6,eI sg),(7,eI (i1:Nat)),(8,eI y.2)],[(2,.box [.d (.int .i64 0),.d .nils]),(4,.box [.d (.int .i64 z.2.2),.rs 9 0 10]),(9,cL z.2.1)]⟩) (fun y=>i1≤y.1∧y.1≤s.length∧y.1≤i1+8∧0≤y.2∧y.2<10^(y.1-i1)∧bW (8-(y.1-i1)) y.2 (s.drop y.1)=bW 8 0 (s.drop i1)) (fun y=>s.length-y.1) (i1,0) (Ent.to ⟨Z,Z,Z,Z,Z,Z,Z,ao⟩ Z) ?_ (fun y hi=>?_))))))
 exact⟨bQ _,hi1.2.2,by show i1≤i1+8;omega,Int.le_refl _,by show(0:Int)<10^(i1-i1);rw[Nat.sub_self];decide,by show bW (8-(i1-i1)) 0 _=_;rw[Nat.sub_self]⟩
 refine ag (ae (ac Z (aa (aI (p:=s) O Z Z Z Z Z Z Z Z Z) Z (ac Z (jf [31,0,2,4,5,6,7,8] Z (ar 4 Z Z Z (fun hx=>aq hx Z (aq hx Z (bf hx (aA (p:=s) (b:=s.getD y.1 0) O Z Z Z Z Z Z Z (by omega) (aX (by have:=ry hx;omega))) Z (aq hx Z (AN.nil))))) Z Z ?_))))))
 first|refine aa (aj O Z Z Z Z Z) Z ?_|refine aa (al O Z Z Z Z Z) Z ?_|refine aa (Val.pickB O Z Z Z Z Z) Z ?_
 refine js Z (jf [37,0,2,4,5,6,7,8] Z (ar 4 Z Z Z (fun hx=>aq hx Z (aq hx Z (bf hx (aA (p:=s) (b:=s.getD y.1 0) O Z Z Z Z Z Z Z (by omega) (aX (by have:=uI hx;omega))) Z (aq hx Z (AN.nil))))) Z Z ?_))
 first|refine aa (aj O Z Z Z Z Z) Z ?_|refine aa (al O Z Z Z Z Z) Z ?_|refine aa (Val.pickB O Z Z Z Z Z) Z ?_
 refine js Z (jf [43,0,2,4,5,6,7,8] Z (ar 4 Z Z Z (fun hx=>aq hx Z (aq hx Z (bf hx (vF Z) Z (aq hx Z (AN.nil))))) Z Z ?_))
 first|refine aa (aj O Z Z Z Z Z) Z ?_|refine aa (al O Z Z Z Z Z) Z ?_|refine aa (Val.pickB O Z Z Z Z Z) Z ?_
 refine jf [48,0,2,4,5,6,7,8] Z (jn (ak Z (fun z48=>?_) (fun z48=>?_)))
 refine af (ag (am (ab ?_)))
 have z4:=AL.1 z48
 have hc4n:y.1<s.length:=by have:=z4.1;omega
 have hp8:=lJ (k:=y.1-i1) (by omega)
 have hby:0≤((s.getD y.1 0).toNat:Int)∧((s.getD y.1 0).toNat:Int)≤255:=iw s y.1
 refine js Z ?_
 first|refine ji Z ?_|refine aU Z Z ?_
 refine ac Z (aa (aA (p:=s) (b:=s.getD y.1 0) O Z Z Z Z Z Z Z (by omega) (aX hc4n)) Z (aa (bU (k:=.u8) (n:=((s.getD y.1 0).toNat:Int)-48) O Z Z (by show(0:Int)≤_;omega) (by show _≤(255:Int);omega)) Z (aa ((Val.conv (b:=true) (dt:=.int .u8) O Z Z Z (by kernel_rfl) (by kernel_rfl)).cast (v':=eI (((s.getD y.1 0).toNat:Int)-48)) (by rw[cq .i64 _ (by show(-9223372036854775808:Int)≤_;omega) (by show _≤(9223372036854775807:Int);omega)])) Z ?_)))
 first|refine ji Z ?_|refine aU Z Z ?_
 refine js Z (jf [8,48,0,2,4,5,6,7] Z (jn (ab (js Z ?_))))
 first|refine ji Z ?_|refine aU Z Z ?_
 refine js Z (jf [5,8,48,0,2,4,6,7] Z (jn ?_))
 refine⟨(y.1+1,10*y.2+(((s.getD y.1 0).toNat:Int)-48)),Ent.to ⟨Z,Z,Z,Z,Z,Z,Z,ao⟩ Z,⟨by show i1≤y.1+1;omega,by show y.1+1≤_;omega,by show y.1+1≤i1+8;omega,by show 0≤10*y.2+(((s.getD y.1 0).toNat:Int)-48);omega,?_,?_⟩,by show s.length-(y.1+1)<s.length-y.1;omega⟩
 show 10*y.2+(((s.getD y.1 0).toNat:Int)-48)<10^(y.1+1-i1)
 rw[show y.1+1-i1=(y.1-i1)+1 by omega]
 exact kN hi.2.2.2.2.1 (by omega)
 show bW (8-(y.1+1-i1)) (10*y.2+(((s.getD y.1 0).toNat:Int)-48)) (s.drop (y.1+1))=_
 rw[←hi.2.2.2.2.2,show 8-(y.1-i1)=(8-(y.1+1-i1))+1 by omega,kJ hc4n z4.2.1 z4.2.2.1]
 refine aJ (am (ae ?_))
 have hend:=gY (s:=s) (i:=y.1) (i1:=i1) (n:=y.2) (fun hh=>dB z48 AL ⟨by omega,hh.2.1,hh.2.2.1,by omega⟩) hi.1 hi.2.2.1 hi.2.1
 rw[hi.2.2.2.2.2]at hend
 have hst0:=pj hsg hend hi.1 hi.2.1
 have hp8:=lJ (k:=y.1-i1) (by omega)
 have hby:0≤((s.getD y.1 0).toNat:Int)∧((s.getD y.1 0).toNat:Int)≤255:=iw s y.1
 refine ac Z ?_
 have hiy:=hi
 refine aa (aI (p:=s) O Z Z Z Z Z Z Z Z Z) Z (ac Z (jf [71,48,0,2,4,5,6,7,8] Z (ar 4 Z Z Z (fun hx=>aq hx Z (aq hx Z (bf hx (aA (p:=s) (b:=s.getD y.1 0) O Z Z Z Z Z Z Z (by omega) (aX (by have:=ry hx;omega))) Z (aq hx Z (AN.nil))))) Z Z ?_)))
 first|refine aa (aj O Z Z Z Z Z) Z ?_|refine aa (al O Z Z Z Z Z) Z ?_|refine aa (Val.pickB O Z Z Z Z Z) Z ?_
 refine js Z (jf [77,48,0,2,4,5,6,7,8] Z (ar 4 Z Z Z (fun hx=>aq hx Z (aq hx Z (bf hx (aA (p:=s) (b:=s.getD y.1 0) O Z Z Z Z Z Z Z (by omega) (aX (by have:=uI hx;omega))) Z (aq hx Z (AN.nil))))) Z Z ?_))
 first|refine aa (aj O Z Z Z Z Z) Z ?_|refine aa (al O Z Z Z Z Z) Z ?_|refine aa (Val.pickB O Z Z Z Z Z) Z ?_
 refine js Z (jf [66,48,0,2,4,5,6,7,8] Z (jn (ak Z (fun z66=>?_) (fun z66=>?_))))
 refine ag (ae ?_)
 have z3:=w8.1 z66
 have hc3n:y.1<s.length:=by have:=z3.1;omega
 refine aF Z (jf [85,66,48,0,2,4,5,6,7,8] Z (jn ?_))
 obtain⟨n1,hn1⟩: ∃n1,n1=if y.1=i1 then 1 else y.2:=⟨_,rfl⟩
 have hnb:0≤n1∧n1≤100000000:=by rw[hn1];split<;>omega
 have hm1: -100000000≤sg*n1:=by rcases hsg1 with e|e<;>rw[e]<;>omega
 have hm2:sg*n1≤100000000:=by rcases hsg1 with e|e<;>rw[e]<;>omega
 obtain⟨j,hj⟩: ∃j:Nat,((s.getD y.1 0).toNat:Int)-97=(j:Int):=⟨(((s.getD y.1 0).toNat:Int)-97).toNat,by omega⟩
 have hj10:j<10:=by omega
 have hgj:=pG (i:=j) (B:=100000000*(z.1:Int)) (by omega) hiz.2.2.1
 have hst:oP (s.drop z.1)=some (s.drop (y.1+1),some j,sg*n1):=by rw[hst0,if_pos ⟨hc3n,z3.2.1,z3.2.2⟩,←hn1,show(s.getD y.1 0).toNat-97=j by omega]
 refine bl ⟨[(0,aS8 s),(2,.c (.pt 2 0 0)),(4,.c (.pt 4 0 0)),(5,eI (y.1:Nat)),(6,eI sg),(8,eI n1)],[(2,.box [.d (.int .i64 0),.d .nils]),(4,.box [.d (.int .i64 z.2.2),.rs 9 0 10]),(9,cL z.2.1)]⟩ ?_ ?_
 refine ak Z (fun z85=>?_) (fun z85=>?_)
 refine ab (js Z (jn ?_))
 exact⟨Z,Ent.to ⟨Z,Z,Z,Z,Z,congrArg (fun z=>some (eI z)) (show(1:Int)=n1 by rw[hn1,if_pos (by have:=bc z85;omega)]),ao⟩ Z⟩
 refine af ?_
 exact⟨Z,Ent.to ⟨Z,Z,Z,Z,Z,congrArg (fun z=>some (eI z)) (show y.2=n1 by rw[hn1,if_neg (by have:=bw z85;omega)]),ao⟩ Z⟩
 refine ag ?_
 have hi:=hiz
 refine lC [_,_,_,_,_,_,_,_,_,_,_,_,_,_] [bC,bb [0],bC,bC,bb [2,3],bb [2,3,4],bb (rg 0 6),bb (rg 0 7),bC,bC,bb [8,9],bb (rg 0 11),bb (rg 0 12),pe (rg 0 13) 0] [13] [_,_] (uM Z (ai (aA (p:=s) (b:=s.getD y.1 0) O Z Z Z Z Z Z Z (by omega) (aX hc3n)) (ai ((bU (k:=.u8) (n:=((s.getD y.1 0).toNat:Int)-97) O Z Z (by show(0:Int)≤_;omega) (by show _≤(255:Int);omega)).cast (v':=.c (.d (.int .u8 (j:Int)))) (by rw[hj])) (ai (br (c:=0≤(j:Int)∧(j:Int)<((10:Nat):Int)) (v:=.c (.pt 9 (0+(j:Int).toNat) 0)) O Z Z (by omega)) (ai (bv O (ex:=[.int .i64 (z.2.1.getD j 0)]) Z Z Z Z (by simp[hi.2.1,hj10]) Z) (kc Z (kc Z (ai (ax O Z Z (by omega) (by omega)) (ai (ax O Z Z (by omega) (by omega)) (ai (br (c:=0≤(j:Int)∧(j:Int)<((10:Nat):Int)) (v:=.c (.pt 9 (0+(j:Int).toNat) 0)) O Z Z (by omega)) (ai (fQ (ex:=[.int .i64 (z.2.1.getD j 0)]) (xs':=(cw z.2.1 j (sg*n1)).map (fun n=>[D.int .i64 n])) O Z Z Z Z Z Z Z Z Z Z Z Z Z Z Z (by simp[hi.2.1,hj10]) (by unfold cw;rw[List.map_set];simp only[Int.toNat_natCast,Nat.zero_add];rfl) Z) trivial))))))))))) ?_
 refine ab (js Z ?_)
 first|refine ji Z ?_|refine aU Z Z ?_
 refine js Z (jf [5,98,97,96,95,94,93,92,91,90,89,88,87,86,0,2,4,6,8] Z (jn ?_))
 refine⟨(y.1+1,cw z.2.1 j (sg*n1),z.2.2),Ent.to ⟨Z,Z,Z,Z,ao⟩ Z,⟨by show y.1+1≤_;omega,by show(cw _ _ _).length=10;rw[jC];exact hiz.2.1,?_,?_,?_⟩,by show s.length-(y.1+1)<s.length-z.1;omega⟩
 exact fun q hq=>by have:=k7 (B:=100000000*(z.1:Int)) (M:=100000000) (by omega) hiz.2.2.1 hm1 hm2 q hq;show -(100000000*((y.1+1:Nat):Int))≤q∧q≤100000000*((y.1+1:Nat):Int);omega
 show -(100000000*((y.1+1:Nat):Int))≤z.2.2∧z.2.2≤100000000*((y.1+1:Nat):Int);have:=hiz.2.2.2.1;omega
 show il (s.drop (y.1+1)) (cw z.2.1 j (sg*n1)) z.2.2=_
 rw[←kj hst,hiz.2.2.2.2]
 refine ae ?_
 have z3:=dB z66 w8
 rw[if_neg (fun hh=>z3 ⟨by omega,hh.2.1,hh.2.2⟩)]at hst0
 refine aM Z (jf [101,66,48,0,2,4,5,6,7,8] Z (jn (ak Z (fun z101=>?_) (fun z101=>?_))))
 refine ae (js Z (jo Z (aB ?_)))
 refine js Z (jr ?_)
 refine ay Z ?_
 rw[pr (by rw[←hiz.2.2.2.2,kK (by rw[cR hz0];simp) (by rw[hst0,if_pos (by have:=bc z101;omega)])])]
 exact .tup (.cons (.agg (.cons .d (.cons .nils .nil))) (.cons (.c .d) .nil))
 refine ab ?_
 have hne: ¬y.1=i1:=by have:=bw z101;omega
 have hst:=hst0
 rw[if_neg hne]at hst
 have hm1: -100000000≤sg*y.2:=by rcases hsg1 with e|e<;>rw[e]<;>omega
 have hm2:sg*y.2≤100000000:=by rcases hsg1 with e|e<;>rw[e]<;>omega
 have hi:=hiz
 refine aM Z ?_
 first|refine ji Z ?_|refine aU Z Z ?_
 first|refine ji Z ?_|refine aU Z Z ?_
 refine js Z (jf [65,64,101,66,48,0,2,4,5,6,7,8] Z (jo Z (aB ?_)))
 refine jf [101,66,48,0,2,4,5,6,7,8] Z (jn ?_)
 refine⟨(y.1,z.2.1,z.2.2+sg*y.2),Ent.to ⟨Z,Z,Z,Z,ao⟩ Z,⟨by show y.1≤_;omega,hiz.2.1,?_,?_,?_⟩,by show s.length-y.1<s.length-z.1;omega⟩
 exact fun q hq=>by have:=hiz.2.2.1 q hq;show -(100000000*(y.1:Int))≤q∧q≤100000000*(y.1:Int);omega
 show -(100000000*(y.1:Int))≤z.2.2+sg*y.2∧z.2.2+sg*y.2≤100000000*(y.1:Int);have:=hiz.2.2.2.1;omega
 show il (s.drop y.1) z.2.1 (z.2.2+sg*y.2)=_
 rw[←iz hst,hiz.2.2.2.2]
 refine aJ (ae ?_)
 have hz1:z.1=s.length:=by have:=bw z14;omega
 have hr:=hi.2.2.2.2
 rw[hz1,List.drop_length,eU]at hr
 refine aK (Ent.freeze 9 (e':=[(0,_),(2,_),(4,_)]) Z (fe [0,2,4] Z) (oZ Z (.cons Z (.box (xa Z (.cons (.row Z (by rw[bd,hi.2.1])) .nil))) (.skip .nil)))) ?_
 refine js Z (aw O Z Z Z Z (xj (t:=(⟨z.2.2,z.2.1⟩:Tm)) h1 h2) (ah Z) Z Z Z Z (B0:=108000) Z Z (jf [107,0,2,4] Z (jo Z (aB ?_))))
 refine jn (ag (ae (js Z (aO Z (sC (t:=(⟨z.2.2,bO z.2.1⟩:Tm)) h1 h2) 110000 Z (ac Z (jf [111,107,0,2,4] Z (ar 4 Z Z Z (fun hx=>aq hx Z (bj O hx Z Z Z Z (nF (t:=(⟨z.2.2,bO z.2.1⟩:Tm)) h1 h2 (by simpa using hx)) (ah Z) Z Z Z Z Z Z Z (B0:=114000) Z (aq hx Z (bf hx (b9 (p:=tS (⟨z.2.2,bO z.2.1⟩:Tm)) (q:=s) O Z Z Z Z Z Z) Z (AN.nil))))) Z Z ?_)))))))
 first|refine aa (al O Z Z Z Z Z) Z ?_|refine aa (Val.pickB O Z Z Z Z Z) Z ?_|refine aa (aj O Z Z Z Z Z) Z ?_
 refine jf [116,107,0,2,4] Z (jn (ak Z (fun z116=>?_) (fun z116=>?_)))
 refine ae (js Z (jo Z (aB ?_)))
 refine js Z (jr ?_)
 refine ay Z ?_
 have hno:dD s=none:=by rw[i9 hr.symm,if_neg];intro hh;revert z116;simp[hh.1,hh.2]
 rw[hno]
 exact .tup (.cons (.agg (.cons .d (.cons .nils .nil))) (.cons (.c .d) .nil))
 refine af (ae (js Z (aw O Z Z Z Z (BH (t:=(⟨z.2.2,bO z.2.1⟩:Tm)) h1 h2) (ah Z) Z Z Z Z (B0:=120000) Z Z (jf [119,116,107,0,2,4] Z (jo Z (aB ?_))))))
 refine js Z (jr ?_)
 refine ay Z ?_
 have hyes:dD s=some (⟨z.2.2,bO z.2.1⟩:Tm):=by rw[i9 hr.symm,if_pos];revert z116;cases h7:Tm.ok (⟨z.2.2,bO z.2.1⟩:Tm)<;>simp
 rw[hyes]
 exact .tup (.cons (.agg (aW Z)) (.cons (.c .d) .nil))
end Go.Al
/- Lemmas for the walk of the reference's reader of terms. -/
namespace Go.Al
variable{L:Nat}(h1:4096≤L)(h2:L≤1073741824)
open Go.Lib
theorem mH{s:Str}{i:Nat}{ys:List Int}{c n sg:Int}(h:i<s.length)(h1:48≤bt s i)(h2:bt s i≤57):dA (s.drop i) ys c n sg=if 2000000<n then none else dA (s.drop (i+1)) ys c (10*max n 0+(bt s i-48)) sg:=by
 rw[cR h,dA,if_pos (by rw[kD];simp[h1,h2])]
theorem mR{s:Str}{i:Nat}(h: ¬(48≤bt s i∧bt s i≤57)): ¬iY (s.getD i 0)=true:=by
 rw[kD];simpa using h
theorem tk{s:Str}{i:Nat}{ys:List Int}{c n sg:Int}(h:i<s.length)(h0: ¬(48≤bt s i∧bt s i≤57))(h1:97≤bt s i)(h2:bt s i≤106):dA (s.drop i) ys c n sg=dA (s.drop (i+1)) (ys.set ((s.getD i 0).toNat-97) (sg*(if n<0 then 1 else n))) c (-1) sg:=by
 rw[cR h,dA,if_neg (mR h0),if_pos (by rw[pC];simp only[bK,decide_eq_true_eq];omega)]
theorem tE{s:Str}{i:Nat}(h: ¬(97≤bt s i∧bt s i≤106)): ¬sk (s.getD i 0)=true:=by
 rw[pC];simp only[bK,decide_eq_true_eq];omega
theorem th{s:Str}{i:Nat}{ys:List Int}{c n sg:Int}(h:i<s.length)(h0: ¬(48≤bt s i∧bt s i≤57))(h1: ¬(97≤bt s i∧bt s i≤106))(h2:bt s i=43∨bt s i=45):dA (s.drop i) ys c n sg=dA (s.drop (i+1)) ys (if 0≤n then sg*n else c) (-1) (if bt s i=45 then -1 else 1):=by
 have e1:bt s i=43↔s.getD i 0=43:=eL (n:=43) (by decide)
 have e2:bt s i=45↔s.getD i 0=45:=eL (n:=45) (by decide)
 rw[cR h,dA,if_neg (mR h0),if_neg (tE h1),if_pos (by rw[←e1,←e2];exact h2)]
 by_cases h3:bt s i=45
 rw[if_pos h3,if_pos (e2.1 h3)]
 rw[if_neg h3,if_neg (fun e=>h3 (e2.2 e))]
theorem qQ{s:Str}{i:Nat}{ys:List Int}{c n sg:Int}(h:i<s.length)(h0: ¬(48≤bt s i∧bt s i≤57))(h1: ¬(97≤bt s i∧bt s i≤106))(h2: ¬(bt s i=43∨bt s i=45)):dA (s.drop i) ys c n sg=none:=by
 have e1:bt s i=43↔s.getD i 0=43:=eL (n:=43) (by decide)
 have e2:bt s i=45↔s.getD i 0=45:=eL (n:=45) (by decide)
 rw[cR h,dA,if_neg (mR h0),if_neg (tE h1),if_neg (by rw[←e1,←e2];exact h2)]
theorem qN{s:Str}{ys:List Int}{c n sg:Int}:dA (s.drop s.length) ys c n sg=some (ys,if 0≤n then sg*n else c):=by
 rw[List.drop_length,dA]
theorem tf{xs:List Int}{i:Nat}{n B:Int}(h: ∀y∈xs,-B≤y∧y≤B)(h1: -B≤n)(h2:n≤B): ∀y∈xs.set i n,-B≤y∧y≤B:=by
 intro y hy
 rcases List.mem_or_eq_of_mem_set hy with hy|rfl
 exact h y hy
 exact⟨h1,h2⟩
theorem Cd{a b c:Prop}[Decidable a][Decidable b][Decidable c]:(bif (bif decide a then true else decide b)then true else decide c)=true↔a∨b∨c:=by
 by_cases a<;>by_cases b<;>by_cases c<;>simp_all
theorem yz{a b:Prop}[Decidable a][Decidable b]:(bif decide a then decide b else false)=true↔a∧b:=by
 by_cases a<;>by_cases b<;>simp_all
theorem yQ{a:Prop}[Decidable a](h:(decide a==false)=true): ¬a:=by simpa using h
theorem yP{a:Prop}[Decidable a]{b:Bool}(h:((bif decide a then true else b)==false)=true): ¬a:=by
 by_cases a<;>simp_all
theorem tc{a b:Prop}[Decidable a][Decidable b](h: ¬(a∧b)):(if a then(if b then(-1:Int)else 1)else 1)=1:=by
 by_cases a<;>by_cases b<;>simp_all
theorem fZ{sg n B:Int}(h:sg=1∨sg= -1)(h0:0≤n)(hB:n≤B): -B≤sg*n∧sg*n≤B:=by
 rcases h with e|e<;>rw[e]<;>omega
theorem mF{s:Str}{ys:List Int}{c:Int}(h:dA s (zr 10) 0 (-1) 1=some (ys,c)):mu s=if(im c ys).2=true∧tS (im c ys).1=s then some (im c ys).1 else none:=by
 unfold mu;rw[h]
theorem mG{s:Str}(h:dA s (zr 10) 0 (-1) 1=none):mu s=none:=by
 unfold mu;rw[h]
theorem Ah{s:Str}(hs:s.length≤1100000):MQ h1 h2 65 [aS8 s] [] (Plain (sK (cy (mu s)))):=by
 refine MC.data (jB 123 h1 h2 Tryz.func65 Z fun O hF=>?_)
 refine ae (jl Z (aB ?_))
 refine js Z (be (aY (iI O Z Z Z Z Z Z Z Z Z (by first|omega|(simp at *;omega)) (by first|omega|(simp at *;omega)) (by first|omega|(simp at *;omega)) (by first|omega|(dsimp only;omega)|(simp only[aQ]at *;omega)) (by first|omega|(simp at *;omega)) Z Z Z) Z (aB ?_)))
 refine js Z (be (js Z (be (js Z (be (js Z (jn (ag (ae (js Z (jn (am (av (X:=Nat×List Int×Int×Int×Int) (fun z=>⟨[(0,aS8 s),(2,.c (.pt 2 0 0)),(4,.c (.rs 11 0 10)),(5,eI z.2.2.1),(6,eI z.2.2.2.1),(7,eI z.2.2.2.2),(8,eI (z.1:Nat))],[(2,.box [.d (.int .i64 0),.d .nils]),(11,cL z.2.1)]⟩) (fun z=>z.1≤s.length+1∧z.2.1.length=10∧(∀y∈z.2.1,-20000009≤y∧y≤20000009)∧(-20000009≤z.2.2.1∧z.2.2.1≤20000009)∧(-1≤z.2.2.2.1∧z.2.2.2.1≤20000009)∧(z.2.2.2.2=1∨z.2.2.2.2= -1)∧(z.1≤s.length→dA (s.drop z.1) z.2.1 z.2.2.1 z.2.2.2.1 z.2.2.2.2=dA s (zr 10) 0 (-1) 1)∧(z.1=s.length+1→dA s (zr 10) 0 (-1) 1=some (z.2.1,z.2.2.1))) (fun z=>s.length+1-z.1) (0,zr 10,0,-1,1) (Ent.to ⟨Z,Z,Z,Z,Z,Z,Z,ao⟩ Z) ?_ (fun z hi=>?_))))))))))))))
 exact⟨ca _,Z,fun y hy=>by rw[show y=0 from List.eq_of_mem_replicate hy];simp,by simp,by simp,.inl Z,fun _=>rfl,fun h=>by have h9:0=s.length+1:=h;omega⟩
 refine ag (ae (ac Z (aa (aI (p:=s) O Z Z Z Z Z Z Z Z Z) Z (js Z (jf [15,0,2,4,5,6,7,8] Z (jn (ak Z (fun z15=>?_) (fun z15=>?_))))))))
 refine af (ag (am (am (ae (ac Z ?_)))))
 have hzl:z.1≤s.length:=by have:=bc z15;omega
 have hr:=hi.2.2.2.2.2.2.1 hzl
 have hby:0≤((s.getD z.1 0).toNat:Int)∧((s.getD z.1 0).toNat:Int)≤255:=iw s z.1
 refine aa (aI (p:=s) O Z Z Z Z Z Z Z Z Z) Z (ac Z (jf [24,15,0,2,4,5,6,7,8] Z (ar 4 Z Z Z (fun hx=>aq hx Z (aq hx Z (bf hx (aA (p:=s) (b:=s.getD z.1 0) O Z Z Z Z Z Z Z (by omega) (aX (by have:=ry hx;omega))) Z (aq hx Z (AN.nil))))) Z Z ?_)))
 first|refine aa (aj O Z Z Z Z Z) Z ?_|refine aa (al O Z Z Z Z Z) Z ?_|refine aa (Val.pickB O Z Z Z Z Z) Z ?_
 refine js Z (jf [30,15,0,2,4,5,6,7,8] Z (ar 4 Z Z Z (fun hx=>aq hx Z (aq hx Z (bf hx (aA (p:=s) (b:=s.getD z.1 0) O Z Z Z Z Z Z Z (by omega) (aX (by have:=uI hx;omega))) Z (aq hx Z (AN.nil))))) Z Z ?_))
 first|refine aa (aj O Z Z Z Z Z) Z ?_|refine aa (al O Z Z Z Z Z) Z ?_|refine aa (Val.pickB O Z Z Z Z Z) Z ?_
 refine js Z (jf [19,15,0,2,4,5,6,7,8] Z (jn (ak Z (fun z19=>?_) (fun z19=>?_))))
 refine ag (ae ?_)
 have z3:=w8.1 z19
 have hin:z.1<s.length:=by have:=z3.1;omega
 refine ac Z (jn (ak Z (fun z37=>?_) (fun z37=>?_)))
 refine ae (js Z (jo Z (aB ?_)))
 refine js Z (jr ?_)
 refine ay Z ?_
 rw[mG (by rw[←hr,mH hin z3.2.1 z3.2.2,if_pos (bc z37)])]
 exact .tup (.cons (.agg (.cons .d (.cons .nils .nil))) (.cons (.c .d) .nil))
 refine af ?_
 have hmx:mx z.2.2.2.1 0=max z.2.2.2.1 0:=by unfold mx;split<;>omega
 have hn2: ¬2000000<z.2.2.2.1:=bw z37
 refine lC [_,_,_,_,_,_,_,_,_,_] [bC,pe [0] 0,pn [0,1] 1 1,pn [] 0 1,pn [] 0 1,pn [3,4] 0 1,pn [3,4,5] 0 1,pn (rg 3 4) 0 1,pn (rg 0 8) 1 1,pn (rg 0 9) 1 1] [1] [_,_] (kc Z (ai (aP O (B0:=41000) Z Z Z Z ((yT (a:=z.2.2.2.1) (b:=0) h1 h2).plain (congrArg eI hmx)) (ah Z) Z Z Z Z Z) (ai (ax O Z Z (by omega) (by omega)) (ai (kc Z (V Z)) (ai (kc Z (V Z)) (ai (ai (aA (p:=s) (b:=s.getD z.1 0) O Z Z Z Z Z Z Z (by omega) (aX hin)) (aA (p:=s) (b:=s.getD z.1 0) O Z Z Z Z Z Z Z (by omega) (aX hin))) (ai (ai (bU (k:=.u8) (n:=((s.getD z.1 0).toNat:Int)-48) O Z Z (by have:=z3.2.1;show(0:Int)≤_;omega) (by show _≤(255:Int);omega)) (bU (k:=.u8) (n:=((s.getD z.1 0).toNat:Int)-48) O Z Z (by have:=z3.2.1;show(0:Int)≤_;omega) (by show _≤(255:Int);omega))) (ai (ai ((Val.conv (b:=true) (dt:=.int .u8) O Z Z Z (by kernel_rfl) (by kernel_rfl)).cast (v':=eI (((s.getD z.1 0).toNat:Int)-48)) (by rw[cq .i64 _ (by show(-9223372036854775808:Int)≤_;omega) (by show _≤(9223372036854775807:Int);omega)])) ((Val.conv (b:=true) (dt:=.int .u8) O Z Z Z (by kernel_rfl) (by kernel_rfl)).cast (v':=eI (((s.getD z.1 0).toNat:Int)-48)) (by rw[cq .i64 _ (by show(-9223372036854775808:Int)≤_;omega) (by show _≤(9223372036854775807:Int);omega)]))) (ai (ax O Z Z (by omega) (by omega)) (kc Z trivial)))))))))) ?_
 refine ab (js Z ?_)
 first|refine ji Z ?_|refine aU Z Z ?_
 refine js Z (jf [8,6,47,46,45,44,43,42,41,40,39,37,36,19,15,0,2,4,5,7] Z (jn ?_))
 refine⟨(z.1+1,z.2.1,z.2.2.1,10*max z.2.2.2.1 0+(((s.getD z.1 0).toNat:Int)-48),z.2.2.2.2),Ent.to ⟨Z,Z,Z,Z,Z,Z,Z,ao⟩ Z,⟨by show z.1+1≤_;omega,hi.2.1,hi.2.2.1,hi.2.2.2.1,by show -1≤10*max z.2.2.2.1 0+(((s.getD z.1 0).toNat:Int)-48)∧10*max z.2.2.2.1 0+(((s.getD z.1 0).toNat:Int)-48)≤20000009;omega,hi.2.2.2.2.2.1,fun _=>?_,fun h=>by have h9:z.1+1=s.length+1:=h;omega⟩,by show s.length+1-(z.1+1)<s.length+1-z.1;omega⟩
 show dA (s.drop (z.1+1)) z.2.1 z.2.2.1 (10*max z.2.2.2.1 0+(((s.getD z.1 0).toNat:Int)-48)) z.2.2.2.2=_
 rw[←hr,mH hin z3.2.1 z3.2.2,if_neg (bw z37)]
 refine ae (ac Z ?_)
 have hnd0:=dB z19 w8
 refine aa (aI (p:=s) O Z Z Z Z Z Z Z Z Z) Z (ac Z (jf [53,19,15,0,2,4,5,6,7,8] Z (ar 4 Z Z Z (fun hx=>aq hx Z (aq hx Z (bf hx (aA (p:=s) (b:=s.getD z.1 0) O Z Z Z Z Z Z Z (by omega) (aX (by have:=ry hx;omega))) Z (aq hx Z (AN.nil))))) Z Z ?_)))
 first|refine aa (aj O Z Z Z Z Z) Z ?_|refine aa (al O Z Z Z Z Z) Z ?_|refine aa (Val.pickB O Z Z Z Z Z) Z ?_
 refine js Z (jf [59,19,15,0,2,4,5,6,7,8] Z (ar 4 Z Z Z (fun hx=>aq hx Z (aq hx Z (bf hx (aA (p:=s) (b:=s.getD z.1 0) O Z Z Z Z Z Z Z (by omega) (aX (by have:=uI hx;omega))) Z (aq hx Z (AN.nil))))) Z Z ?_))
 first|refine aa (aj O Z Z Z Z Z) Z ?_|refine aa (al O Z Z Z Z Z) Z ?_|refine aa (Val.pickB O Z Z Z Z Z) Z ?_
 refine js Z (jf [48,19,15,0,2,4,5,6,7,8] Z (jn (ak Z (fun z48=>?_) (fun z48=>?_))))
 refine ag (ae ?_)
 have hl3:=w8.1 z48
 have hin:z.1<s.length:=by have:=hl3.1;omega
 have hnd: ¬(48≤bt s z.1∧bt s z.1≤57):=fun h=>hnd0 ⟨by omega,h.1,h.2⟩
 refine ac Z (jn ?_)
 obtain⟨n1,hn1⟩: ∃n1:Int,n1=if z.2.2.2.1<0 then 1 else z.2.2.2.1:=⟨_,rfl⟩
 have hnb:0≤n1∧n1≤20000009:=by rw[hn1];split<;>omega
 have hm:=fZ hi.2.2.2.2.2.1 hnb.1 hnb.2
 obtain⟨j,hj⟩: ∃j:Nat,((s.getD z.1 0).toNat:Int)-97=(j:Int):=⟨(((s.getD z.1 0).toNat:Int)-97).toNat,by have:=hl3.2.1;have:=hl3.2.2;omega⟩
 have hj10:j<10:=by have:=hl3.2.2;omega
 refine bl ⟨[(0,aS8 s),(2,.c (.pt 2 0 0)),(4,.c (.rs 11 0 10)),(5,eI z.2.2.1),(6,eI n1),(7,eI z.2.2.2.2),(8,eI (z.1:Nat))],[(2,.box [.d (.int .i64 0),.d .nils]),(11,cL z.2.1)]⟩ ?_ ?_
 refine ak Z (fun z66=>?_) (fun z66=>?_)
 refine ab (js Z (jn ?_))
 exact⟨Z,Ent.to ⟨Z,Z,Z,Z,congrArg (fun z=>some (eI z)) (show(1:Int)=n1 by rw[hn1,if_pos (bc z66)]),Z,Z,ao⟩ Z⟩
 refine af ?_
 exact⟨Z,Ent.to ⟨Z,Z,Z,Z,congrArg (fun z=>some (eI z)) (show z.2.2.2.1=n1 by rw[hn1,if_neg (bw z66)]),Z,Z,ao⟩ Z⟩
 refine ae (aF Z (aa (aA (p:=s) (b:=s.getD z.1 0) O Z Z Z Z Z Z Z (by omega) (aX hin)) Z (aa ((bU (k:=.u8) (n:=((s.getD z.1 0).toNat:Int)-97) O Z Z (by have:=hl3.2.1;show(0:Int)≤_;omega) (by show _≤(255:Int);omega)).cast (v':=.c (.d (.int .u8 (j:Int)))) (by rw[hj])) Z (ac Z (aa (ax O Z Z (by omega) (by omega)) Z (aa (br (c:=0≤(j:Int)∧(j:Int)<((10:Nat):Int)) (v:=.c (.pt 11 (0+(j:Int).toNat) 0)) O Z Z (by omega)) Z (jf [75,74,0,2,4,5,6,7,8] Z (aY (bV (ex:=[.int .i64 (z.2.1.getD j 0)]) (xs':=(z.2.1.set j (z.2.2.2.2*n1)).map (fun n=>[D.int .i64 n])) O Z Z Z Z Z Z Z Z Z Z Z Z Z Z (by simp[hi.2.1,hj10]) (by rw[List.map_set];simp only[Int.toNat_natCast,Nat.zero_add];rfl)) Z (aB ?_)))))))))
 refine aB ?_
 refine jf [0,2,4,5,6,7,8] Z (jn (ab (js Z (jn (ab (js Z ?_))))))
 first|refine ji Z ?_|refine aU Z Z ?_
 refine js Z (jf [8,6,0,2,4,5,7] Z (jn ?_))
 refine⟨(z.1+1,z.2.1.set j (z.2.2.2.2*n1),z.2.2.1,-1,z.2.2.2.2),Ent.to ⟨Z,Z,Z,Z,Z,Z,Z,ao⟩ Z,⟨by show z.1+1≤_;omega,by show(z.2.1.set j _).length=10;rw[List.length_set];exact hi.2.1,tf hi.2.2.1 hm.1 hm.2,hi.2.2.2.1,by show -1≤(-1:Int)∧(-1:Int)≤20000009;omega,hi.2.2.2.2.2.1,fun _=>?_,fun h=>by have h9:z.1+1=s.length+1:=h;omega⟩,by show s.length+1-(z.1+1)<s.length+1-z.1;omega⟩
 show dA (s.drop (z.1+1)) (z.2.1.set j (z.2.2.2.2*n1)) z.2.2.1 (-1) z.2.2.2.2=_
 rw[←hr,tk hin hnd hl3.2.1 hl3.2.2,←hn1,show(s.getD z.1 0).toNat-97=j by omega]
 refine ae (ac Z ?_)
 have hnl0:=dB z48 w8
 refine aa (aI (p:=s) O Z Z Z Z Z Z Z Z Z) Z (ac Z (jf [81,48,19,15,0,2,4,5,6,7,8] Z (ar 4 Z Z Z (fun hx=>aq hx Z (aq hx Z (bf hx (aA (p:=s) (b:=s.getD z.1 0) O Z Z Z Z Z Z Z (by omega) (aX (by have:=yQ hx;omega))) Z (aq hx Z (AN.nil))))) Z Z ?_)))
 first|refine aa (al O Z Z Z Z Z) Z ?_|refine aa (Val.pickB O Z Z Z Z Z) Z ?_|refine aa (aj O Z Z Z Z Z) Z ?_
 refine js Z (jf [87,48,19,15,0,2,4,5,6,7,8] Z (ar 4 Z Z Z (fun hx=>aq hx Z (aq hx Z (bf hx (aA (p:=s) (b:=s.getD z.1 0) O Z Z Z Z Z Z Z (by omega) (aX (by have:=yP hx;omega))) Z (aq hx Z (AN.nil))))) Z Z ?_))
 first|refine aa (al O Z Z Z Z Z) Z ?_|refine aa (Val.pickB O Z Z Z Z Z) Z ?_|refine aa (aj O Z Z Z Z Z) Z ?_
 refine js Z (jf [76,48,19,15,0,2,4,5,6,7,8] Z (jn (ak Z (fun z76=>?_) (fun z76=>?_))))
 refine ag (ae ?_)
 have ht0:=Cd.1 z76
 have ht3:z.1<s.length→bt s z.1=43∨bt s z.1=45:=fun h=>ht0.resolve_left (fun e=>by omega)
 have hnd:z.1<s.length→¬(48≤bt s z.1∧bt s z.1≤57):=fun q h=>hnd0 ⟨by omega,h.1,h.2⟩
 have hnl:z.1<s.length→¬(97≤bt s z.1∧bt s z.1≤106):=fun q h=>hnl0 ⟨by omega,h.1,h.2⟩
 refine ac Z (jn ?_)
 obtain⟨c1,z1⟩: ∃c1:Int,c1=if 0≤z.2.2.2.1 then z.2.2.2.2*z.2.2.2.1 else z.2.2.1:=⟨_,rfl⟩
 have hc1b: -20000009≤c1∧c1≤20000009:=by
  rw[z1];split
  exact fZ hi.2.2.2.2.2.1 (by omega) hi.2.2.2.2.1.2
  exact hi.2.2.2.1
 refine bl ⟨[(0,aS8 s),(2,.c (.pt 2 0 0)),(4,.c (.rs 11 0 10)),(5,eI c1),(6,eI z.2.2.2.1),(7,eI z.2.2.2.2),(8,eI (z.1:Nat))],[(2,.box [.d (.int .i64 0),.d .nils]),(11,cL z.2.1)]⟩ ?_ ?_
 refine ak Z (fun z94=>?_) (fun z94=>?_)
 refine ab (ac Z (aa (ax O Z Z (by have:=fZ hi.2.2.2.2.2.1 (bc z94) hi.2.2.2.2.1.2;omega) (by have:=fZ hi.2.2.2.2.2.1 (bc z94) hi.2.2.2.2.1.2;omega)) Z (js Z (jf [5,94,93,76,48,19,15,0,2,4,6,7,8] Z (jn ?_)))))
 exact⟨Z,Ent.to ⟨Z,Z,Z,congrArg (fun z=>some (eI z)) (show z.2.2.2.2*z.2.2.2.1=c1 by rw[z1,if_pos (bc z94)]),Z,Z,Z,ao⟩ Z⟩
 refine af ?_
 exact⟨Z,Ent.to ⟨Z,Z,Z,congrArg (fun z=>some (eI z)) (show z.2.2.1=c1 by rw[z1,if_neg (bw z94)]),Z,Z,Z,ao⟩ Z⟩
 refine ae (js Z (be (js Z (be (ac Z (aa (aI (p:=s) O Z Z Z Z Z Z Z Z Z) Z (ac Z (jf [102,7,6,0,2,4,5,8] Z (ar 4 Z Z Z (fun hx=>aq hx Z (aq hx Z (bf hx (aA (p:=s) (b:=s.getD z.1 0) O Z Z Z Z Z Z Z (by omega) (aX (by have:=ry hx;omega))) Z (aq hx Z (AN.nil))))) Z Z ?_)))))))))
 first|refine aa (aj O Z Z Z Z Z) Z ?_|refine aa (al O Z Z Z Z Z) Z ?_|refine aa (Val.pickB O Z Z Z Z Z) Z ?_
 refine jf [107,7,6,0,2,4,5,8] Z (jn ?_)
 obtain⟨sg1,hsgv⟩: ∃sg1:Int,sg1=if z.1<s.length then(if bt s z.1=45 then -1 else 1)else 1:=⟨_,rfl⟩
 have hsg1:sg1=1∨sg1= -1:=by
  rw[hsgv];split
  split
  exact .inr Z
  exact .inl Z
  exact .inl Z
 refine bl ⟨[(0,aS8 s),(2,.c (.pt 2 0 0)),(4,.c (.rs 11 0 10)),(5,eI c1),(6,eI (-1)),(7,eI sg1),(8,eI (z.1:Nat))],[(2,.box [.d (.int .i64 0),.d .nils]),(11,cL z.2.1)]⟩ ?_ ?_
 refine ak Z (fun z107=>?_) (fun z107=>?_)
 refine ab (js Z (jn ?_))
 exact⟨Z,Ent.to ⟨Z,Z,Z,Z,Z,congrArg (fun z=>some (eI z)) (show(-1:Int)=sg1 by have h9:=yz.1 z107;rw[hsgv,if_pos (by omega),if_pos h9.2]),Z,ao⟩ Z⟩
 refine af ?_
 exact⟨Z,Ent.to ⟨Z,Z,Z,Z,Z,congrArg (fun z=>some (eI z)) (show(1:Int)=sg1 by rw[hsgv,tc (fun e=>dB z107 yz ⟨by have:=e.1;omega,e.2⟩)]),Z,ao⟩ Z⟩
 refine ab (js Z ?_)
 first|refine ji Z ?_|refine aU Z Z ?_
 refine js Z (jf [8,0,2,4,5,6,7] Z (jn ?_))
 refine⟨(z.1+1,z.2.1,c1,-1,sg1),Ent.to ⟨Z,Z,Z,Z,Z,Z,Z,ao⟩ Z,⟨by show z.1+1≤_;omega,hi.2.1,hi.2.2.1,hc1b,by show -1≤(-1:Int)∧(-1:Int)≤20000009;omega,hsg1,fun h=>?_,fun h=>?_⟩,by show s.length+1-(z.1+1)<s.length+1-z.1;omega⟩
 have h9:z.1+1≤s.length:=h
 show dA (s.drop (z.1+1)) z.2.1 c1 (-1) sg1=_
 have hsn:=ht3 (by omega)
 rw[←hr,th (by omega) (hnd (by omega)) (hnl (by omega)) hsn,←z1,hsgv,if_pos (by omega)]
 have h9:z.1+1=s.length+1:=h
 show dA s (zr 10) 0 (-1) 1=some (z.2.1,c1)
 rw[←hr,show z.1=s.length by omega,qN,←z1]
 refine ae ?_
 have ht0:=dB z76 Cd
 have hin:z.1<s.length:=by have: ¬(z.1:Int)=(s.length:Int):=fun e=>ht0 (.inl e);omega
 have hnone:dA s (zr 10) 0 (-1) 1=none:=by
  rw[←hr,qQ hin (fun h=>hnd0 ⟨by omega,h.1,h.2⟩) (fun h=>hnl0 ⟨by omega,h.1,h.2⟩)]
  exact fun h=>ht0 (.inr h)
 refine js Z (jo Z (aB ?_))
 refine js Z (jr ?_)
 refine ay Z ?_
 rw[mG hnone]
 exact .tup (.cons (.agg (.cons .d (.cons .nils .nil))) (.cons (.c .d) .nil))
 refine aJ (ae ?_)
 have hz1:z.1=s.length+1:=by have:=bw z15;omega
 have hr:=hi.2.2.2.2.2.2.2 hz1
 refine aK (Ent.freeze 11 (e':=[(0,_),(2,_),(4,_),(5,_)]) Z (.cons Z (.keep Z) (.cons Z (.keep Z) (.cons Z (.c (.row Z (by rw[bd,hi.2.1]))) (fe [5] Z)))) (oZ Z (.skip .nil))) ?_
 refine ac Z (aw O Z Z Z Z (Bx (c:=z.2.2.1) (xs:=z.2.1) h1 h2) (ah Z) Z Z Z Z (B0:=112000) Z Z (aF Z (jf [113,112,0,2,4,5] Z (jl Z (aB ?_)))))
 refine jo Z (aB ?_)
 refine js Z (jf [10,9,0,2,4,5] Z (jn (ag (ae (aF Z (jf [116,9,0,2,4,5] Z (ar 3 Z Z Z (fun hx=>bj O hx Z Z Z Z (qG (t:=(im z.2.2.1 z.2.1).1) h1 h2 (pA (by simpa using hx))) (.cons (.c (.pb (cs:=(im z.2.2.1 z.2.1).1.cells) Z (aW Z))) .nil) Z Z Z Z Z Z Z (B0:=118000) Z (aq hx Z (bf hx (b9 (p:=tS (im z.2.2.1 z.2.1).1) (q:=s) O Z Z Z Z Z Z) Z (AN.nil)))) Z Z ?_)))))))
 first|refine aa (al O Z Z Z Z Z) Z ?_|refine aa (Val.pickB O Z Z Z Z Z) Z ?_|refine aa (aj O Z Z Z Z Z) Z ?_
 refine jf [120,9,0,2,4,5] Z (jn (ak Z (fun z120=>?_) (fun z120=>?_)))
 refine ae (js Z (jo Z (aB ?_)))
 refine js Z (jr ?_)
 refine ay Z ?_
 have hno:mu s=none:=by rw[mF hr,if_neg];intro hh;revert z120;simp[hh.1,hh.2]
 rw[hno]
 exact .tup (.cons (.agg (.cons .d (.cons .nils .nil))) (.cons (.c .d) .nil))
 refine af (ae (js Z (jo Z (aB ?_))))
 refine js Z (jr ?_)
 refine ay Z ?_
 have hyes:mu s=some (im z.2.2.1 z.2.1).1:=by rw[mF hr,if_pos];revert z120;cases h7:(im z.2.2.1 z.2.1).2<;>simp
 rw[hyes]
 exact .tup (.cons (.agg (aW Z)) (.cons (.c .d) .nil))
end Go.Al
/- Lemmas for the walks of both readers of sequents. -/
namespace Go.Al
variable{L:Nat}(h1:4096≤L)(h2:L≤1073741824)
open Go.Lib
theorem eb(c:UInt8): ∀s:Str,(aS c s).length≤s.length+1
 | []=>bQ _
 | b::r=>by
  have ih:=eb c r
  rw[aS]
  split
  simp only[db];omega
  simp only[db,List.length_tail];omega
theorem i8{c:UInt8}{s:Str}: ∀p∈aS c s,p.length≤s.length:=by
 intro p hp
 rw[←dZ]at hp
 exact gV p hp
theorem dL{T:Type}{rd:Str→Option T}: ∀{a:List Str} {ts:List T} {x:Str} {t:T},bB rd a=some ts→rd x=some t→bB rd (a++[x])=some (ts++[t])
 | [],ts,x,t,h1,h2=>by
  rw[bB]at h1;cases h1
  rw[List.nil_append,bB,h2,bB];rfl
 | y::r,ts,x,t,h1,h2=>by
  rw[bB]at h1
  rw[List.cons_append,bB]
  split at h1
  cases h1
  rename_i t' ht
  split at h1
  cases h1
  rename_i ts' hts
  cases h1
  rw[dL hts h2];rfl
theorem ej{T:Type}{rd:Str→Option T}: ∀{a b:List Str} {x:Str},rd x=none→bB rd (a++x::b)=none
 | [],b,x,h=>by rw[List.nil_append,bB,h]
 | y::r,b,x,h=>by
  rw[List.cons_append,bB]
  split
  rfl
  rw[ej h]
theorem xD{r:Option Tm}(h:(cy r).2=true):r=some (cy r).1:=by
 cases r with
 | none=>cases h
 | some t=>rfl
theorem xE{r:Option Tm}(h:(cy r).2=false):r=none:=by
 cases r with
 | none=>rfl
 | some t=>cases h
theorem Br{f:Str}(h:f≠[]):f[((f.length:Int)-1).toNat]? = some (f.getD (f.length-1) 0):=by
 have hl:=List.length_pos_iff.2 h
 rw[show((f.length:Int)-1).toNat=f.length-1 by omega,List.getElem?_eq_getElem (by omega)]
 simp[show f.length-1<f.length by omega]
theorem yM{f:Str}(h:((!decide (f=[]))==true)=true):f≠[]:=by simpa using h
theorem xO{f:Str}(h:((!decide (f=[]))==true)=true):(0:Int)≤(f.length:Int)-1:=by
 have:=List.length_pos_iff.2 (yM h);omega
variable{t:Tm}
theorem x9{s:Str}(hs:s.length≤1100000)(hy:dD s=some t):MQ h1 h2 35 [aS8 s] [] (Rows (.tup [.agg [.d (.int .i64 t.c),.rs 0 0 t.xs.length],eB true]) [cL t.xs]):=by
 refine cK (jB 120 h1 h2 Tryz.func35 Z fun O hF=>?_)
 refine ae (jl Z (aB ?_))
 refine js Z (be (aY (iI O Z Z Z Z Z Z Z Z Z (by first|omega|(simp at *;omega)) (by first|omega|(simp at *;omega)) (by first|omega|(simp at *;omega)) (by first|omega|(dsimp only;omega)|(simp only[aQ]at *;omega)) (by first|omega|(simp at *;omega)) Z Z Z) Z (aB ?_)))
 refine js Z (jf [10,3,2,0] Z (jl Z (aB ?_)))
 refine jo Z (aB ?_)
 refine jn (ag (ae (js Z (jn (am (av (X:=Nat×List Int×Int) (fun z=>⟨[(0,aS8 s),(2,.c (.pt 2 0 0)),(4,.c (.pt 4 0 0)),(5,eI (z.1:Nat))],[(2,.box [.d (.int .i64 0),.d .nils]),(4,.box [.d (.int .i64 z.2.2),.rs 9 0 10]),(9,cL z.2.1)]⟩) (fun z=>z.1≤s.length∧z.2.1.length=10∧(∀y∈z.2.1,-(100000000*(z.1:Int))≤y∧y≤100000000*(z.1:Int))∧(-(100000000*(z.1:Int))≤z.2.2∧z.2.2≤100000000*(z.1:Int))∧il (s.drop z.1) z.2.1 z.2.2=il s (zr 10) 0) (fun z=>s.length-z.1) (0,zr 10,0) (Ent.to ⟨Z,Z,Z,Z,ao⟩ Z) ?_ (fun z hi=>?_)))))))
 exact⟨ca _,Z,fun y hy=>by rw[show y=0 from List.eq_of_mem_replicate hy];simp,by simp,Z⟩
 refine ag (ae (ac Z (aa (aI (p:=s) O Z Z Z Z Z Z Z Z Z) Z (js Z (jf [14,0,2,4,5] Z (jn (ak Z (fun z14=>?_) (fun z14=>?_))))))))
 refine af (am (ae (js Z (jn (ag (ae (ac Z ?_)))))))
 have hz0:z.1<s.length:=by have:=bc z14;omega
 have hiz:=hi
 obtain⟨sg,i1,hsg,hi1,hsg1,hsv⟩:=mZ hz0
 refine aa (aA (p:=s) (b:=s.getD z.1 0) O Z Z Z Z Z Z Z (by omega) (aX hz0)) Z (jf [17,6,14,0,2,4,5] Z (jn (bl ⟨[(0,aS8 s),(2,.c (.pt 2 0 0)),(4,.c (.pt 4 0 0)),(5,eI (i1:Nat)),(6,eI sg)],[(2,.box [.d (.int .i64 0),.d .nils]),(4,.box [.d (.int .i64 z.2.2),.rs 9 0 10]),(9,cL z.2.1)]⟩ ?_ ?_)))
 refine am (ae (ac Z (jn (ak Z (fun z18=>?_) (fun z18=>?_)))))
 refine ae (js Z (jn (ab (js Z ?_))))
 first|refine ji Z ?_|refine aU Z Z ?_
 refine js Z (jf [5,6,18,19,17,14,0,2,4] Z (jn ?_))
 exact⟨Z,Ent.to ⟨Z,Z,Z,congrArg (fun z=>some (eI z)) (show(z.1:Int)+1=(i1:Int) by rw[if_pos (bc z18)]at hsv;omega),congrArg (fun z=>some (eI z)) (show(-1:Int)=sg by rw[if_pos (bc z18)]at hsv;omega),ao⟩ Z⟩
 refine ae (ac Z (jn (ak Z (fun z22=>?_) (fun z22=>?_))))
 refine ab (js Z ?_)
 first|refine ji Z ?_|refine aU Z Z ?_
 refine js Z (jf [5,22,23,18,19,17,6,14,0,2,4] Z (jn ?_))
 exact⟨Z,Ent.to ⟨Z,Z,Z,congrArg (fun z=>some (eI z)) (show(z.1:Int)+1=(i1:Int) by rw[if_neg (bw z18),if_pos (bc z22)]at hsv;omega),congrArg (fun z=>some (eI z)) (show(1:Int)=sg by rw[if_neg (bw z18),if_pos (bc z22)]at hsv;omega),ao⟩ Z⟩
 refine af ?_
 exact⟨Z,Ent.to ⟨Z,Z,Z,congrArg (fun z=>some (eI z)) (show(z.1:Int)=(i1:Int) by rw[if_neg (bw z18),if_neg (bw z22)]at hsv;omega),congrArg (fun z=>some (eI z)) (show(1:Int)=sg by rw[if_neg (bw z18),if_neg (bw z22)]at hsv;omega),ao⟩ Z⟩
 refine ae (aF Z (jn (ag (am (av (X:=Nat×Int) (fun y=>⟨[(0,aS8 s),(2,.c (.pt 2 0 0)),(4,.c (.pt 4 0 0)),(5,eI (y.1:Nat)),(6,eI sg),(7,eI (i1:Nat)),(8,eI y.2)],[(2,.box [.d (.int .i64 0),.d .nils]),(4,.box [.d (.int .i64 z.2.2),.rs 9 0 10]),(9,cL z.2.1)]⟩) (fun y=>i1≤y.1∧y.1≤s.length∧y.1≤i1+8∧0≤y.2∧y.2<10^(y.1-i1)∧bW (8-(y.1-i1)) y.2 (s.drop y.1)=bW 8 0 (s.drop i1)) (fun y=>s.length-y.1) (i1,0) (Ent.to ⟨Z,Z,Z,Z,Z,Z,Z,ao⟩ Z) ?_ (fun y hi=>?_))))))
 exact⟨bQ _,hi1.2.2,by show i1≤i1+8;omega,Int.le_refl _,by show(0:Int)<10^(i1-i1);rw[Nat.sub_self];decide,by show bW (8-(i1-i1)) 0 _=_;rw[Nat.sub_self]⟩
 refine ag (ae (ac Z (aa (aI (p:=s) O Z Z Z Z Z Z Z Z Z) Z (ac Z (jf [31,0,2,4,5,6,7,8] Z (ar 4 Z Z Z (fun hx=>aq hx Z (aq hx Z (bf hx (aA (p:=s) (b:=s.getD y.1 0) O Z Z Z Z Z Z Z (by omega) (aX (by have:=ry hx;omega))) Z (aq hx Z (AN.nil))))) Z Z ?_))))))
 first|refine aa (aj O Z Z Z Z Z) Z ?_|refine aa (al O Z Z Z Z Z) Z ?_|refine aa (Val.pickB O Z Z Z Z Z) Z ?_
 refine js Z (jf [37,0,2,4,5,6,7,8] Z (ar 4 Z Z Z (fun hx=>aq hx Z (aq hx Z (bf hx (aA (p:=s) (b:=s.getD y.1 0) O Z Z Z Z Z Z Z (by omega) (aX (by have:=uI hx;omega))) Z (aq hx Z (AN.nil))))) Z Z ?_))
 first|refine aa (aj O Z Z Z Z Z) Z ?_|refine aa (al O Z Z Z Z Z) Z ?_|refine aa (Val.pickB O Z Z Z Z Z) Z ?_
 refine js Z (jf [43,0,2,4,5,6,7,8] Z (ar 4 Z Z Z (fun hx=>aq hx Z (aq hx Z (bf hx (vF Z) Z (aq hx Z (AN.nil))))) Z Z ?_))
 first|refine aa (aj O Z Z Z Z Z) Z ?_|refine aa (al O Z Z Z Z Z) Z ?_|refine aa (Val.pickB O Z Z Z Z Z) Z ?_
 refine jf [48,0,2,4,5,6,7,8] Z (jn (ak Z (fun z48=>?_) (fun z48=>?_)))
 refine af (ag (am (ab ?_)))
 have z4:=AL.1 z48
 have hc4n:y.1<s.length:=by have:=z4.1;omega
 have hp8:=lJ (k:=y.1-i1) (by omega)
 have hby:0≤((s.getD y.1 0).toNat:Int)∧((s.getD y.1 0).toNat:Int)≤255:=iw s y.1
 refine js Z ?_
 first|refine ji Z ?_|refine aU Z Z ?_
 refine ac Z (aa (aA (p:=s) (b:=s.getD y.1 0) O Z Z Z Z Z Z Z (by omega) (aX hc4n)) Z (aa (bU (k:=.u8) (n:=((s.getD y.1 0).toNat:Int)-48) O Z Z (by show(0:Int)≤_;omega) (by show _≤(255:Int);omega)) Z (aa ((Val.conv (b:=true) (dt:=.int .u8) O Z Z Z (by kernel_rfl) (by kernel_rfl)).cast (v':=eI (((s.getD y.1 0).toNat:Int)-48)) (by rw[cq .i64 _ (by show(-9223372036854775808:Int)≤_;omega) (by show _≤(9223372036854775807:Int);omega)])) Z ?_)))
 first|refine ji Z ?_|refine aU Z Z ?_
 refine js Z (jf [8,48,0,2,4,5,6,7] Z (jn (ab (js Z ?_))))
 first|refine ji Z ?_|refine aU Z Z ?_
 refine js Z (jf [5,8,48,0,2,4,6,7] Z (jn ?_))
 refine⟨(y.1+1,10*y.2+(((s.getD y.1 0).toNat:Int)-48)),Ent.to ⟨Z,Z,Z,Z,Z,Z,Z,ao⟩ Z,⟨by show i1≤y.1+1;omega,by show y.1+1≤_;omega,by show y.1+1≤i1+8;omega,by show 0≤10*y.2+(((s.getD y.1 0).toNat:Int)-48);omega,?_,?_⟩,by show s.length-(y.1+1)<s.length-y.1;omega⟩
 show 10*y.2+(((s.getD y.1 0).toNat:Int)-48)<10^(y.1+1-i1)
 rw[show y.1+1-i1=(y.1-i1)+1 by omega]
 exact kN hi.2.2.2.2.1 (by omega)
 show bW (8-(y.1+1-i1)) (10*y.2+(((s.getD y.1 0).toNat:Int)-48)) (s.drop (y.1+1))=_
 rw[←hi.2.2.2.2.2,show 8-(y.1-i1)=(8-(y.1+1-i1))+1 by omega,kJ hc4n z4.2.1 z4.2.2.1]
 refine aJ (am (ae ?_))
 have hend:=gY (s:=s) (i:=y.1) (i1:=i1) (n:=y.2) (fun hh=>dB z48 AL ⟨by omega,hh.2.1,hh.2.2.1,by omega⟩) hi.1 hi.2.2.1 hi.2.1
 rw[hi.2.2.2.2.2]at hend
 have hst0:=pj hsg hend hi.1 hi.2.1
 have hp8:=lJ (k:=y.1-i1) (by omega)
 have hby:0≤((s.getD y.1 0).toNat:Int)∧((s.getD y.1 0).toNat:Int)≤255:=iw s y.1
 refine ac Z ?_
 have hiy:=hi
 refine aa (aI (p:=s) O Z Z Z Z Z Z Z Z Z) Z (ac Z (jf [71,48,0,2,4,5,6,7,8] Z (ar 4 Z Z Z (fun hx=>aq hx Z (aq hx Z (bf hx (aA (p:=s) (b:=s.getD y.1 0) O Z Z Z Z Z Z Z (by omega) (aX (by have:=ry hx;omega))) Z (aq hx Z (AN.nil))))) Z Z ?_)))
 first|refine aa (aj O Z Z Z Z Z) Z ?_|refine aa (al O Z Z Z Z Z) Z ?_|refine aa (Val.pickB O Z Z Z Z Z) Z ?_
 refine js Z (jf [77,48,0,2,4,5,6,7,8] Z (ar 4 Z Z Z (fun hx=>aq hx Z (aq hx Z (bf hx (aA (p:=s) (b:=s.getD y.1 0) O Z Z Z Z Z Z Z (by omega) (aX (by have:=uI hx;omega))) Z (aq hx Z (AN.nil))))) Z Z ?_))
 first|refine aa (aj O Z Z Z Z Z) Z ?_|refine aa (al O Z Z Z Z Z) Z ?_|refine aa (Val.pickB O Z Z Z Z Z) Z ?_
 refine js Z (jf [66,48,0,2,4,5,6,7,8] Z (jn (ak Z (fun z66=>?_) (fun z66=>?_))))
 refine ag (ae ?_)
 have z3:=w8.1 z66
 have hc3n:y.1<s.length:=by have:=z3.1;omega
 refine aF Z (jf [85,66,48,0,2,4,5,6,7,8] Z (jn ?_))
 obtain⟨n1,hn1⟩: ∃n1,n1=if y.1=i1 then 1 else y.2:=⟨_,rfl⟩
 have hnb:0≤n1∧n1≤100000000:=by rw[hn1];split<;>omega
 have hm1: -100000000≤sg*n1:=by rcases hsg1 with e|e<;>rw[e]<;>omega
 have hm2:sg*n1≤100000000:=by rcases hsg1 with e|e<;>rw[e]<;>omega
 obtain⟨j,hj⟩: ∃j:Nat,((s.getD y.1 0).toNat:Int)-97=(j:Int):=⟨(((s.getD y.1 0).toNat:Int)-97).toNat,by omega⟩
 have hj10:j<10:=by omega
 have hgj:=pG (i:=j) (B:=100000000*(z.1:Int)) (by omega) hiz.2.2.1
 have hst:oP (s.drop z.1)=some (s.drop (y.1+1),some j,sg*n1):=by rw[hst0,if_pos ⟨hc3n,z3.2.1,z3.2.2⟩,←hn1,show(s.getD y.1 0).toNat-97=j by omega]
 refine bl ⟨[(0,aS8 s),(2,.c (.pt 2 0 0)),(4,.c (.pt 4 0 0)),(5,eI (y.1:Nat)),(6,eI sg),(8,eI n1)],[(2,.box [.d (.int .i64 0),.d .nils]),(4,.box [.d (.int .i64 z.2.2),.rs 9 0 10]),(9,cL z.2.1)]⟩ ?_ ?_
 refine ak Z (fun z85=>?_) (fun z85=>?_)
 refine ab (js Z (jn ?_))
 exact⟨Z,Ent.to ⟨Z,Z,Z,Z,Z,congrArg (fun z=>some (eI z)) (show(1:Int)=n1 by rw[hn1,if_pos (by have:=bc z85;omega)]),ao⟩ Z⟩
 refine af ?_
 exact⟨Z,Ent.to ⟨Z,Z,Z,Z,Z,congrArg (fun z=>some (eI z)) (show y.2=n1 by rw[hn1,if_neg (by have:=bw z85;omega)]),ao⟩ Z⟩
 refine ag ?_
 have hi:=hiz
 refine lC [_,_,_,_,_,_,_,_,_,_,_,_,_,_] [bC,bb [0],bC,bC,bb [2,3],bb [2,3,4],bb (rg 0 6),bb (rg 0 7),bC,bC,bb [8,9],bb (rg 0 11),bb (rg 0 12),pe (rg 0 13) 0] [13] [_,_] (uM Z (ai (aA (p:=s) (b:=s.getD y.1 0) O Z Z Z Z Z Z Z (by omega) (aX hc3n)) (ai ((bU (k:=.u8) (n:=((s.getD y.1 0).toNat:Int)-97) O Z Z (by show(0:Int)≤_;omega) (by show _≤(255:Int);omega)).cast (v':=.c (.d (.int .u8 (j:Int)))) (by rw[hj])) (ai (br (c:=0≤(j:Int)∧(j:Int)<((10:Nat):Int)) (v:=.c (.pt 9 (0+(j:Int).toNat) 0)) O Z Z (by omega)) (ai (bv O (ex:=[.int .i64 (z.2.1.getD j 0)]) Z Z Z Z (by simp[hi.2.1,hj10]) Z) (kc Z (kc Z (ai (ax O Z Z (by omega) (by omega)) (ai (ax O Z Z (by omega) (by omega)) (ai (br (c:=0≤(j:Int)∧(j:Int)<((10:Nat):Int)) (v:=.c (.pt 9 (0+(j:Int).toNat) 0)) O Z Z (by omega)) (ai (fQ (ex:=[.int .i64 (z.2.1.getD j 0)]) (xs':=(cw z.2.1 j (sg*n1)).map (fun n=>[D.int .i64 n])) O Z Z Z Z Z Z Z Z Z Z Z Z Z Z Z (by simp[hi.2.1,hj10]) (by unfold cw;rw[List.map_set];simp only[Int.toNat_natCast,Nat.zero_add];rfl) Z) trivial))))))))))) ?_
 refine ab (js Z ?_)
 first|refine ji Z ?_|refine aU Z Z ?_
 refine js Z (jf [5,98,97,96,95,94,93,92,91,90,89,88,87,86,0,2,4,6,8] Z (jn ?_))
 refine⟨(y.1+1,cw z.2.1 j (sg*n1),z.2.2),Ent.to ⟨Z,Z,Z,Z,ao⟩ Z,⟨by show y.1+1≤_;omega,by show(cw _ _ _).length=10;rw[jC];exact hiz.2.1,?_,?_,?_⟩,by show s.length-(y.1+1)<s.length-z.1;omega⟩
 exact fun q hq=>by have:=k7 (B:=100000000*(z.1:Int)) (M:=100000000) (by omega) hiz.2.2.1 hm1 hm2 q hq;show -(100000000*((y.1+1:Nat):Int))≤q∧q≤100000000*((y.1+1:Nat):Int);omega
 show -(100000000*((y.1+1:Nat):Int))≤z.2.2∧z.2.2≤100000000*((y.1+1:Nat):Int);have:=hiz.2.2.2.1;omega
 show il (s.drop (y.1+1)) (cw z.2.1 j (sg*n1)) z.2.2=_
 rw[←kj hst,hiz.2.2.2.2]
 refine ae ?_
 have z3:=dB z66 w8
 rw[if_neg (fun hh=>z3 ⟨by omega,hh.2.1,hh.2.2⟩)]at hst0
 refine aM Z (jf [101,66,48,0,2,4,5,6,7,8] Z (jn (ak Z (fun z101=>?_) (fun z101=>?_))))
 refine ae (js Z (jo Z (aB ?_)))
 refine js Z (jr ?_)
 exact absurd (hy.symm.trans (pr (by rw[←hiz.2.2.2.2,kK (by rw[cR hz0];simp) (by rw[hst0,if_pos (by have:=bc z101;omega)])]))) (by simp)
 refine ab ?_
 have hne: ¬y.1=i1:=by have:=bw z101;omega
 have hst:=hst0
 rw[if_neg hne]at hst
 have hm1: -100000000≤sg*y.2:=by rcases hsg1 with e|e<;>rw[e]<;>omega
 have hm2:sg*y.2≤100000000:=by rcases hsg1 with e|e<;>rw[e]<;>omega
 have hi:=hiz
 refine aM Z ?_
 first|refine ji Z ?_|refine aU Z Z ?_
 first|refine ji Z ?_|refine aU Z Z ?_
 refine js Z (jf [65,64,101,66,48,0,2,4,5,6,7,8] Z (jo Z (aB ?_)))
 refine jf [101,66,48,0,2,4,5,6,7,8] Z (jn ?_)
 refine⟨(y.1,z.2.1,z.2.2+sg*y.2),Ent.to ⟨Z,Z,Z,Z,ao⟩ Z,⟨by show y.1≤_;omega,hiz.2.1,?_,?_,?_⟩,by show s.length-y.1<s.length-z.1;omega⟩
 exact fun q hq=>by have:=hiz.2.2.1 q hq;show -(100000000*(y.1:Int))≤q∧q≤100000000*(y.1:Int);omega
 show -(100000000*(y.1:Int))≤z.2.2+sg*y.2∧z.2.2+sg*y.2≤100000000*(y.1:Int);have:=hiz.2.2.2.1;omega
 show il (s.drop y.1) z.2.1 (z.2.2+sg*y.2)=_
 rw[←iz hst,hiz.2.2.2.2]
 refine aJ (ae ?_)
 have hz1:z.1=s.length:=by have:=bw z14;omega
 have hr:=hi.2.2.2.2
 rw[hz1,List.drop_length,eU]at hr
 refine aK (Ent.freeze 9 (e':=[(0,_),(2,_),(4,_)]) Z (fe [0,2,4] Z) (oZ Z (.cons Z (.box (xa Z (.cons (.row Z (by rw[bd,hi.2.1])) .nil))) (.skip .nil)))) ?_
 refine js Z (aw O Z Z Z Z (xj (t:=(⟨z.2.2,z.2.1⟩:Tm)) h1 h2) (ah Z) Z Z Z Z (B0:=108000) Z Z (jf [107,0,2,4] Z (jo Z (aB ?_))))
 refine jn (ag (ae (js Z (aO Z (sC (t:=(⟨z.2.2,bO z.2.1⟩:Tm)) h1 h2) 110000 Z (ac Z (jf [111,107,0,2,4] Z (ar 4 Z Z Z (fun hx=>aq hx Z (bj O hx Z Z Z Z (nF (t:=(⟨z.2.2,bO z.2.1⟩:Tm)) h1 h2 (by simpa using hx)) (ah Z) Z Z Z Z Z Z Z (B0:=114000) Z (aq hx Z (bf hx (b9 (p:=tS (⟨z.2.2,bO z.2.1⟩:Tm)) (q:=s) O Z Z Z Z Z Z) Z (AN.nil))))) Z Z ?_)))))))
 first|refine aa (al O Z Z Z Z Z) Z ?_|refine aa (Val.pickB O Z Z Z Z Z) Z ?_|refine aa (aj O Z Z Z Z Z) Z ?_
 refine jf [116,107,0,2,4] Z (jn (ak Z (fun z116=>?_) (fun z116=>?_)))
 refine ae (js Z (jo Z (aB ?_)))
 refine js Z (jr ?_)
 have hno:dD s=none:=by rw[i9 hr.symm,if_neg];intro hh;revert z116;simp[hh.1,hh.2]
 exact absurd (hy.symm.trans hno) (by simp)
 refine af (ae (js Z (bk O (B0:=120000) Z Z Z Z (wI (t:=(⟨z.2.2,bO z.2.1⟩:Tm)) h1 h2) (ah Z) Z Z Z Z Z Z (aB ?_))))
 refine jf [119,116,107,0,2,4] Z (jo Z (aB ?_))
 refine js Z (jr ?_)
 have hyes:dD s=some (⟨z.2.2,bO z.2.1⟩:Tm):=by rw[i9 hr.symm,if_pos];revert z116;cases h7:Tm.ok (⟨z.2.2,bO z.2.1⟩:Tm)<;>simp
 obtain rfl:=Option.some.inj (hy.symm.trans hyes)
 refine⟨.inl Z,_,cY,_,Z,[120000],by decide,Z,Z,Z⟩
end Go.Al
/- Numbers read from their decimal texts; nodes and proofs read from their texts: plain Lean. -/
namespace Go.Al
variable{L:Nat}(h1:4096≤L)(h2:L≤1073741824)
open Go.Lib
theorem vw(m:Nat): ∀(acc:Nat) (r:Str),acc*10^nDigits m+m≤1000000000000000000→parseUintM 18446744073709551615 acc (decDigits m++r)=parseUintM 18446744073709551615 (acc*10^nDigits m+m) r:=by
 induction m using Nat.strongRecOn with
 | _ m ih=>
  intro acc r h
  by_cases hm:m<10
  rw[nDigits_small hm]at h ⊢
  rw[decDigits,dif_pos hm,List.singleton_append,parseUintM,cj hm,if_pos (by omega),if_neg (by omega),if_neg (by omega)]
  congr 1;omega
  rw[nDigits_big hm,Nat.pow_succ,←Nat.mul_assoc]at h ⊢
  have hd:m%10<10:=Nat.mod_lt _ (by decide)
  rw[decDigits,dif_neg hm,dh,List.singleton_append,ih (m/10) (by omega) acc _ (by omega),parseUintM,cj hd,if_pos (by omega),if_neg (by omega),if_neg (by omega)]
  congr 1;omega
theorem qX{m:Nat}(h:m≤1000000000):parseUintB 64 (decDigits m)= .ok m:=by
 have h1:=vw m 0 [] (by omega)
 rw[List.append_nil,Nat.zero_mul,Nat.zero_add]at h1
 unfold parseUintB
 rw[if_neg (dy m),show 2^64-1=18446744073709551615 from Z,h1];rfl
theorem ub{n:Int}(h: -1000000000≤n∧n≤1000000000):parseIntB 64 (itoa n)= .ok n:=by
 unfold itoa
 by_cases hn:n<0
 rw[if_pos hn,parseIntB_minus,qX (by omega)]
 unfold signedC
 simp only
 rw[if_neg (by simp;omega)]
 congr 1;omega
 rw[if_neg hn]
 obtain⟨b,r,hb,hd⟩:=iP n.toNat []
 rw[List.append_nil]at hb
 have hd':48≤b.toNat∧b.toNat≤57:=by unfold iY at hd;simpa using hd
 have hp:=qX (m:=n.toNat) (by omega)
 rw[hb]at hp
 rw[hb,parseIntB_plain _ _ _ (by omega) (by omega),hp]
 unfold signlessC
 simp only
 rw[if_neg (by simp;omega)]
 congr 1;omega
def dz(s:Str):Option Int:=match parseIntB 64 s with
  | .ok v=>if(-1000000000≤v∧v≤1000000000)∧itoa v=s then some v else none
  | _=>none
theorem ge(s:Str)(n:Int):dz s=some n↔(-1000000000≤n∧n≤1000000000)∧s=itoa n:=by
 constructor
 intro h
 unfold dz at h
 split at h
 split at h
 rename_i h2;cases h;exact⟨h2.1,h2.2.symm⟩
 cases h
 cases h
 rintro⟨h,rfl⟩
 unfold dz
 rw[ub h]
 exact if_pos ⟨h,Z⟩
def iX:Int→Str→Int
  | n,[]=>n
  | n,b::r=>iX (if iY b then 10*n+(b.toNat-48:Int)else n) r
theorem m9: ∀(p r:Str) (n:Int),iX n (p++r)=iX (iX n p) r
 | [],_,_=>rfl
 | b::p,r,n=>by rw[List.cons_append,iX,m9 p r,iX]
theorem rf(m:Nat): ∀(n:Int),iX n (decDigits m)=n*(10^nDigits m:Nat)+m:=by
 induction m using Nat.strongRecOn with
 | _ m ih=>
  intro n
  by_cases h:m<10
  rw[decDigits,dif_pos h,nDigits_small h,iX,iX,if_pos (by unfold iY;rw[cj h];simp;omega),cj h]
  simp;omega
  have hd:m%10<10:=Nat.mod_lt _ (by decide)
  rw[nDigits_big h,decDigits,dif_neg h,m9,ih (m/10) (by omega),iX,iX,if_pos (by unfold iY;rw[cj hd];simp;omega),cj hd,Nat.pow_succ,Int.natCast_mul]
  have:(m:Int)=10*((m/10:Nat):Int)+((m%10:Nat):Int):=by omega
  generalize (10^nDigits (m/10):Nat)=p at *
  have e:10*(n*(p:Int))=n*((p:Int)*((10:Nat):Int)):=by
   rw[show((10:Nat):Int)=10 from Z,Int.mul_comm 10 (n*_),Int.mul_assoc]
  rw[Int.mul_add,e]
  omega
def uE(s:Str):Int:=if s.head? = some 45 then -(iX 0 s)else iX 0 s
def mt(s:Str):Option Int:=if 11<s.length then none else if(-1000000000≤uE s∧uE s≤1000000000)∧itoa (uE s)=s then some (uE s)else none
theorem iC{n:Int}(h: -1000000000≤n∧n≤1000000000):(itoa n).length≤11:=by
 have key: ∀m:Nat,m≤1000000000→(decDigits m).length≤10:=fun m hm=>by
  rw[decDigits_eq,bd,List.length_range]
  exact fL (k:=9) (by omega)
 unfold itoa
 split
 have:=key n.natAbs (by omega);rw[db];omega
 have:=key n.toNat (by omega);omega
theorem t4{n:Int}:uE (itoa n)=n:=by
 unfold itoa uE
 by_cases hn:n<0
 rw[if_pos hn,List.head?_cons,if_pos Z,iX,if_neg (by decide),rf];omega
 rw[if_neg hn]
 obtain⟨b,r,hb,hd⟩:=iP n.toNat []
 rw[List.append_nil]at hb
 have hd':48≤b.toNat∧b.toNat≤57:=by unfold iY at hd;simpa using hd
 rw[if_neg,rf]
 omega
 rw[hb,List.head?_cons]
 intro h
 have:=Option.some.inj h
 subst this
 revert hd';decide
theorem qM(s:Str)(n:Int):mt s=some n↔(-1000000000≤n∧n≤1000000000)∧s=itoa n:=by
 constructor
 intro h
 unfold mt at h
 split at h
 cases h
 split at h
 rename_i h2;cases h;exact⟨h2.1,h2.2.symm⟩
 cases h
 rintro⟨h,rfl⟩
 unfold mt
 have:=iC h
 rw[if_neg (by omega),t4,if_pos ⟨h,rfl⟩]
theorem nz(s:Str):dz s=mt s:=by
 cases h:dz s with
 | some n=>exact((qM s n).2 ((ge s n).1 h)).symm
 | none=>
  cases h2:mt s with
  | none=>rfl
  | some n=>rw[(ge s n).2 ((qM s n).1 h2)]at h;cases h
theorem pI: ∀(p:Str) (n:Int),0≤n→0≤iX n p∧iX n p<(n+1)*10^p.length
 | [],n,h=>by simp only[iX,List.length_nil];omega
 | b::r,n,h=>by
  rw[iX,db,Int.pow_succ]
  by_cases hb:iY b=true
  rw[if_pos hb]
  have hd':48≤b.toNat∧b.toNat≤57:=by unfold iY at hb;simpa using hb
  have:=pI r (10*n+(b.toNat-48:Int)) (by omega)
  refine⟨this.1,Int.lt_of_lt_of_le this.2 ?_⟩
  rw[Int.mul_comm (10^r.length) 10,←Int.mul_assoc]
  exact Int.mul_le_mul_of_nonneg_right (by omega) (Int.pow_nonneg (by decide))
  rw[if_neg hb]
  have:=pI r n h
  refine⟨this.1,Int.lt_of_lt_of_le this.2 ?_⟩
  rw[Int.mul_comm (10^r.length) 10,←Int.mul_assoc]
  exact Int.mul_le_mul_of_nonneg_right (by omega) (Int.pow_nonneg (by decide))
theorem tM{p:Str}(h:p.length≤11):0≤iX 0 p∧iX 0 p<100000000000:=by
 have h1:=pI p 0 (by omega)
 refine⟨h1.1,Int.lt_of_lt_of_le h1.2 ?_⟩
 rw[Int.zero_add,Int.one_mul]
 have h2:(10:Nat)^p.length≤10^11:=Nat.pow_le_pow_right (by decide) h
 have h3:((10:Int))^p.length=((10^p.length:Nat):Int):=by rw[Int.natCast_pow];rfl
 rw[h3]
 omega
end Go.Al
/- Nodes and proofs read from their texts: plain Lean. -/
namespace Go.Al
variable{L:Nat}(h1:4096≤L)(h2:L≤1073741824)
open Go.Lib
abbrev sf:Nd:=⟨0,0,⟨0,[]⟩,[]⟩
abbrev yp(ms:List Int):Nd:=⟨1,0,⟨0,[]⟩,ms⟩
abbrev yo(t:Tm):Nd:=⟨2,0,t,[]⟩
abbrev yq(n:Int):Nd:=⟨3,n,⟨0,[]⟩,[]⟩
def di:Option Int→Int×Bool
  | none=>(0,false)
  | some n=>(n,true)
def lz(r:Str):Option (List Int):=if r=[]then some []else bB dz (aS 44 r)
def ly(s:Str):Nd×Bool:=
  if s=[]then(sf,false)
  else if s.getD 0 0=99 then(match lz (s.drop 1)with
    | none=>(sf,false)
    | some ms=>(yp ms,true))
  else if s.getD 0 0=115 then(yo (cy (dD (s.drop 1))).1,(cy (dD (s.drop 1))).2)
  else if s.getD 0 0=116 then(yq (di (dz (s.drop 1))).1,(di (dz (s.drop 1))).2)
  else(sf,false)
def lE:List Str→List Int
  | []=>[]
  | p :: r=>match dz p with
    | none=>[]
    | some n=>n::lE r
def j9(s:Str):Nd×Bool:=
  if s=[]then(sf,false)
  else if s.getD 0 0=99 then(yp (if s.drop 1=[]then[]else lE (aS 44 (s.drop 1))),(lz (s.drop 1)).isSome)
  else if s.getD 0 0=115 then(match dD (s.drop 1)with
    | none=>(sf,false)
    | some t=>(yo t,true))
  else if s.getD 0 0=116 then(match dz (s.drop 1)with
    | none=>(sf,false)
    | some n=>(yq n,true))
  else(sf,false)
def iW(s:Str):Option Nd:=if(ly s).2 then some (ly s).1 else none
theorem kM: ∀{ps:List Str} {ms:List Int},bB dz ps=some ms→lE ps=ms
 | [],ms,h=>by rw[bB]at h;cases h;rfl
 | p::r,ms,h=>by
  rw[bB]at h
  rw[lE]
  split at h
  cases h
  rename_i t ht
  rw[ht]
  split at h
  cases h
  rename_i ts hts
  cases h
  simp only
  rw[kM hts]
theorem nW: ∀{a b:List Str} {x:Str} {ms:List Int},bB dz a=some ms→dz x=none→lE (a++x::b)=ms
 | [],b,x,ms,h,hx=>by rw[bB]at h;cases h;rw[List.nil_append,lE,hx]
 | p::r,b,x,ms,h,hx=>by
  rw[bB]at h
  rw[List.cons_append,lE]
  split at h
  cases h
  rename_i t ht
  rw[ht]
  split at h
  cases h
  rename_i ts hts
  cases h
  simp only
  rw[nW hts hx]
theorem xC(s:Str):(j9 s).2=(ly s).2∧((j9 s).2=true→(j9 s).1=(ly s).1):=by
 unfold j9 ly
 split
 exact⟨Z,fun _=>rfl⟩
 split
 cases h:lz (s.drop 1)with
 | none=>exact⟨Z,fun h2=>absurd h2 (by simp)⟩
 | some ms=>
  refine⟨Z,fun _=>?_⟩
  unfold lz at h
  simp only
  split at h
  rename_i h2;cases h;rw[if_pos h2]
  rename_i h2;rw[if_neg h2,kM h]
 split
 cases h:dD (s.drop 1)with
 | none=>exact⟨Z,fun h2=>absurd h2 (by simp)⟩
 | some t=>exact⟨Z,fun _=>rfl⟩
 split
 cases h:dz (s.drop 1)with
 | none=>exact⟨Z,fun h2=>absurd h2 (by simp)⟩
 | some t=>exact⟨Z,fun _=>rfl⟩
 exact⟨Z,fun _=>rfl⟩
theorem wq(s:Str):iW s=if(j9 s).2 then some (j9 s).1 else none:=by
 obtain⟨h1,h2⟩:=xC s
 unfold iW
 rw[←h1]
 cases h:(j9 s).2 with
 | true=>rw[if_pos Z,if_pos Z,h2 h]
 | false=>rfl
def ba(c:UInt8):List Str→Str
  | []=>[]
  | [p]=>p
  | p::q::r=>p++c::ba c (q::r)
theorem mQ(c:UInt8): ∀(ps:List Str) (q:Str),ba c (ps++[q])=bz c ps++q
 | [],q=>rfl
 | [p],q=>by simp[ba,bz]
 | p::p2::r,q=>by
  have:=mQ c (p2::r) q
  rw[List.cons_append]at this
  rw[List.cons_append,List.cons_append,ba,this,bz];simp[bz]
theorem tG(c:UInt8)(s:Str):ba c (aS c s)=s:=by
 obtain⟨ps,q,h1,h2,_,_⟩:=fp c s
 rw[h1,mQ,←h2]
theorem vG{c:UInt8}{xs:List Str}{y:Str}(h:xs≠[]):ba c (xs++[y])=ba c xs++c::y:=by
 rw[mQ]
 obtain⟨ps,q,rfl⟩: ∃ps q,xs=ps++[q]:=⟨xs.dropLast,xs.getLast h,(List.dropLast_concat_getLast h).symm⟩
 rw[mQ]
 have: ∀(ps:List Str),bz c (ps++[q])=bz c ps++q++[c]:=by
  intro ps
  induction ps with
  | nil=>simp[bz]
  | cons p r ih=>rw[List.cons_append,bz,ih,bz];simp
 rw[this];simp
theorem tH{c:UInt8}: ∀{xs:List Str} {i:Nat},(ba c (xs.take i)).length≤(ba c xs).length
 | [],i=>by simp
 | p::r,0=>by simp[ba]
 | [p],i+1=>by simp
 | p::q::r,1=>by simp[ba]
 | p::q::r,i+2=>by
  have:=tH (c:=c) (xs:=q::r) (i:=i+1)
  rw[List.take_succ_cons]at this
  rw[List.take_succ_cons,List.take_succ_cons,ba,ba]
  simp only[bP,db];omega
def bo(x:Nd):Str:=if x.kind=1 then 99::ba 44 (x.mul.map itoa)else if x.kind=2 then 115::tS x.term else if x.kind=3 then 116::itoa x.fact else[]
def yv(n:Int):Bool:=decide (-1000000000≤n)&&decide (n≤1000000000)
theorem t5(s:Str)(n:Int):dz s=some n↔yv n=true∧s=itoa n:=by
 rw[ge];unfold yv;simp
structure NdR(x:Nd):Prop where
  kind:x.kind=1∨x.kind=2∨x.kind=3
  fact: -1000000000≤x.fact∧x.fact≤1000000000
  term:x.term.ok=true
  mul: ∀m∈x.mul,-1000000000≤m∧m≤1000000000
theorem jA{s:Str}(h:s≠[]):s=s.getD 0 0::s.drop 1:=by
 cases s with
 | nil=>exact absurd Z h
 | cons b r=>rfl
theorem sH:Tm.ok ⟨0,[]⟩=true:=by decide
theorem t7{s:Str}{x:Nd}(h:iW s=some x):s=bo x∧NdR x:=by
 unfold iW at h
 cases hb:(ly s).2 with
 | false=>rw[hb]at h;cases h
 | true=>
  rw[hb,if_pos Z]at h
  have h:=Option.some.inj h
  unfold ly at h hb
  have h2:=hb
  split at h2
  cases h2
  rename_i hs
  rw[if_neg hs]at h
  split at h2
  rename_i h99
  rw[if_pos h99]at h
  cases hm:lz (s.drop 1)with
  | none=>rw[hm]at h2;cases h2
  | some ms=>
   rw[hm]at h
   subst h
   have key:s.drop 1=ba 44 (ms.map itoa)∧∀m∈ms,yv m=true:=by
    unfold lz at hm
    split at hm
    rename_i h9;cases hm;exact⟨h9,by simp⟩
    obtain⟨q1,q2⟩:=(jp (ok:=yv) (tx:=itoa) t5).1 hm
    exact⟨by rw[←q2,tG],q1⟩
   refine⟨?_,⟨.inl Z,by simp,sH,fun m hm=>by have:=key.2 m hm;unfold yv at this;simpa using this⟩⟩
   show s=if(1:Int)=1 then _ else _
   rw[if_pos Z,←key.1,←h99]
   exact jA hs
  rename_i h99
  rw[if_neg h99]at h
  split at h2
  rename_i h115
  rw[if_pos h115]at h
  cases hm:dD (s.drop 1)with
  | none=>rw[hm]at h2;cases h2
  | some t=>
   rw[hm]at h
   subst h
   obtain⟨q1,q2⟩:=(iy _ _).1 hm
   refine⟨?_,⟨.inr (.inl Z),by simp,q1,by simp⟩⟩
   show s=if(2:Int)=1 then _ else if(2:Int)=2 then _ else _
   rw[if_neg (by decide),if_pos Z,show(cy (some t)).1=t from Z,←q2,←h115]
   exact jA hs
  rename_i h115
  rw[if_neg h115]at h
  split at h2
  rename_i h116
  rw[if_pos h116]at h
  cases hm:dz (s.drop 1)with
  | none=>rw[hm]at h2;cases h2
  | some n=>
   rw[hm]at h
   subst h
   obtain⟨q1,q2⟩:=(ge _ _).1 hm
   refine⟨?_,⟨.inr (.inr Z),q1,sH,by simp⟩⟩
   show s=if(3:Int)=1 then _ else if(3:Int)=2 then _ else if(3:Int)=3 then _ else _
   rw[if_neg (by decide),if_neg (by decide),if_pos Z,show(di (some n)).1=n from Z,←q2,←h116]
   exact jA hs
  cases h2
def rP(t:Str):Option (List Nd):=match bB iW (aS 47 t)with
  | none=>none
  | some p=>if nn p=true then some p else none
theorem jP: ∀{ss:List Str} {p:List Nd},bB iW ss=some p→ss=p.map bo∧∀x∈p,NdR x
 | [],p,h=>by rw[bB]at h;cases h;simp
 | s::r,p,h=>by
  rw[bB]at h
  split at h
  cases h
  rename_i t ht
  split at h
  cases h
  rename_i ts hts
  cases h
  obtain⟨h1,h2⟩:=t7 ht
  obtain⟨h3,h4⟩:=jP hts
  refine⟨by rw[h3,h1];rfl,fun x hx=>?_⟩
  rcases List.mem_cons.1 hx with rfl|hx
  exact h2
  exact h4 x hx
theorem vu{t:Str}{p:List Nd}(h:bB iW (aS 47 t)=some p):ba 47 (p.map bo)=t∧∀x∈p,NdR x:=by
 obtain⟨h1,h2⟩:=jP h
 exact⟨by rw[←h1,tG],h2⟩
abbrev uT(r:Option Int):A:=.tup [eI (di r).1,eB (di r).2]
theorem vP{s:Str}{i:Nat}(h:i<s.length):iX 0 (s.take (i+1))=if 48≤bt s i∧bt s i≤57 then 10*iX 0 (s.take i)+(bt s i-48)else iX 0 (s.take i):=by
 have e:s[i]=s.getD i 0:=by simp[h]
 rw[List.take_succ_eq_append_getElem h,m9,e,iX,iX]
 by_cases h2:48≤bt s i∧bt s i≤57
 rw[if_pos h2,if_pos (by rw[kD];simp[h2.1,h2.2])]
 rw[if_neg h2,if_neg (mR h2)]
theorem AH{s:Str}:s.head? = some 45↔0<s.length∧bt s 0=45:=by
 cases s with
 | nil=>simp
 | cons b r=>
  have h:bt (b::r) 0=45↔b=45:=eL (b:=b) (n:=45) (by decide)
  rw[h];simp
theorem xA{s:Str}{n:Int}{k:Bool}(h:(bif !k then true else !decide (Lib.itoa n=s))=true)(hk:k=(decide (-1000000000≤n)&&decide (n≤1000000000))): ¬((-1000000000≤n∧n≤1000000000)∧Lib.itoa n=s):=by
 rintro⟨⟨h1,h2⟩,h3⟩
 rw[hk]at h
 simp[h1,h2,h3]at h
theorem xz{s:Str}{n:Int}{k:Bool}(h: ¬(bif !k then true else !decide (Lib.itoa n=s))=true)(hk:k=(decide (-1000000000≤n)&&decide (n≤1000000000))):(-1000000000≤n∧n≤1000000000)∧Lib.itoa n=s:=by
 subst hk
 by_cases h1: -1000000000≤n<;>by_cases h2:n≤1000000000<;>by_cases h3:Lib.itoa n=s<;>simp_all
theorem sU{s:Str}:MQ h1 h2 112 [aS8 s] [] (Plain (uT (mt s))):=by
 refine MC.data (jB 53 h1 h2 Tryz.func112 Z fun O hF=>?_)
 refine ae (ac Z (jn (ag (ae (js Z (aa (aI (p:=s) O Z Z Z Z Z Z Z Z Z) Z (js Z (jf [8,3,2,0] Z (jn (ak Z (fun z8=>?_) (fun z8=>?_)))))))))))
 refine ae (ac Z (jr ?_))
 refine ay Z ?_
 rw[show mt s=none from if_pos (by have:=bc z8;omega)]
 exact .tup (.cons (.c .d) (.cons (.c .d) .nil))
 refine af (ae ?_)
 have hs11:s.length≤11:=by have:=bw z8;omega
 refine js Z (jn (ag (ae (js Z (jn (am (av (X:=Nat×Int) (fun z=>⟨[(0,aS8 s),(4,eI z.2),(5,eI (z.1:Nat))],[]⟩) (fun z=>z.1≤s.length∧z.2=iX 0 (s.take z.1)) (fun z=>s.length-z.1) (0,0) (Ent.to ⟨Z,Z,Z,ao⟩ Z) ?_ (fun z hi=>?_))))))))
 exact⟨ca _,Z⟩
 refine ag (ae (ac Z (aa (aI (p:=s) O Z Z Z Z Z Z Z Z Z) Z (js Z (jf [12,0,4,5] Z (jn (ak Z (fun z12=>?_) (fun z12=>?_))))))))
 refine af (ag (am (ae (ac Z ?_))))
 have hz0:z.1<s.length:=by have:=bc z12;omega
 have hzb:=tM (p:=s.take z.1) (by rw[List.length_take];omega)
 rw[←hi.2]at hzb
 have hby:0≤((s.getD z.1 0).toNat:Int)∧((s.getD z.1 0).toNat:Int)≤255:=iw s z.1
 refine aa (aA (p:=s) (b:=s.getD z.1 0) O Z Z Z Z Z Z Z (by omega) (aX hz0)) Z (ac Z (jf [19,12,0,4,5] Z (ar 4 Z Z Z (fun hx=>aq hx Z (aq hx Z (bf hx (aA (p:=s) (b:=s.getD z.1 0) O Z Z Z Z Z Z Z (by omega) (aX hz0)) Z (aq hx Z (AN.nil))))) Z Z ?_)))
 first|refine aa (aj O Z Z Z Z Z) Z ?_|refine aa (al O Z Z Z Z Z) Z ?_|refine aa (Val.pickB O Z Z Z Z Z) Z ?_
 refine jf [24,12,0,4,5] Z (jn ?_)
 obtain⟨n1,hn1⟩: ∃n1:Int,n1=if 48≤((s.getD z.1 0).toNat:Int)∧((s.getD z.1 0).toNat:Int)≤57 then 10*z.2+(((s.getD z.1 0).toNat:Int)-48)else z.2:=⟨_,rfl⟩
 refine bl ⟨[(0,aS8 s),(4,eI n1),(5,eI (z.1:Nat))],[]⟩ ?_ ?_
 refine ak Z (fun z24=>?_) (fun z24=>?_)
 refine ab (js Z (aa (ax O Z Z (by omega) (by omega)) Z (ac Z ?_)))
 have h2:=yz.1 z24
 refine aa (aA (p:=s) (b:=s.getD z.1 0) O Z Z Z Z Z Z Z (by omega) (aX hz0)) Z (aa (bU (k:=.u8) (n:=((s.getD z.1 0).toNat:Int)-48) O Z Z (by show(0:Int)≤_;omega) (by show _≤(255:Int);omega)) Z (aa ((Val.conv (b:=true) (dt:=.int .u8) O Z Z Z (by kernel_rfl) (by kernel_rfl)).cast (v':=eI (((s.getD z.1 0).toNat:Int)-48)) (by rw[cq .i64 _ (by show(-9223372036854775808:Int)≤_;omega) (by show _≤(9223372036854775807:Int);omega)])) Z (aa (ax O Z Z (by omega) (by omega)) Z (js Z (jf [4,24,12,0,5] Z (jn ?_))))))
 have h2:=yz.1 z24
 exact⟨Z,Ent.to ⟨Z,congrArg (fun z=>some (eI z)) (show 10*z.2+(((s.getD z.1 0).toNat:Int)-48)=n1 by rw[hn1,if_pos h2]),Z,ao⟩ Z⟩
 refine af ?_
 have h2:=dB z24 yz
 exact⟨Z,Ent.to ⟨Z,congrArg (fun z=>some (eI z)) (show z.2=n1 by rw[hn1,if_neg h2]),Z,ao⟩ Z⟩
 refine ab (js Z ?_)
 first|refine ji Z ?_|refine aU Z Z ?_
 refine js Z (jf [5,0,4] Z (jn ?_))
 refine⟨(z.1+1,n1),Ent.to ⟨Z,Z,Z,ao⟩ Z,⟨by show z.1+1≤_;omega,by show n1=iX 0 (s.take (z.1+1));rw[vP hz0,←hi.2];exact hn1⟩,by show s.length-(z.1+1)<s.length-z.1;omega⟩
 refine aJ (ag (ae (js Z ?_)))
 have hz1:z.1=s.length:=by have:=bw z12;omega
 have hz2:=hi.2
 rw[hz1,List.take_length]at hz2
 have hzb:=tM (p:=s) hs11
 refine aa (aI (p:=s) O Z Z Z Z Z Z Z Z Z) Z (ac Z (jf [36,12,0,4,5] Z (ar 3 Z Z Z (fun hx=>aq hx Z (bf hx (aA (p:=s) (b:=s.getD 0 0) O Z Z Z Z Z Z Z (by omega) (aX (i:=0) (by have:=ry hx;omega))) Z (aq hx Z (AN.nil)))) Z Z ?_)))
 first|refine aa (aj O Z Z Z Z Z) Z ?_|refine aa (al O Z Z Z Z Z) Z ?_|refine aa (Val.pickB O Z Z Z Z Z) Z ?_
 refine jf [40,12,0,4,5] Z (jn ?_)
 obtain⟨n2,hn2⟩: ∃n2:Int,n2=uE s:=⟨_,rfl⟩
 have hn2b: -100000000000<n2∧n2<100000000000:=by rw[hn2,uE];split<;>omega
 refine bl ⟨[(0,aS8 s),(4,eI n2)],[]⟩ ?_ ?_
 refine ak Z (fun z40=>?_) (fun z40=>?_)
 refine ab (js Z (aa (ax O Z Z (by omega) (by omega)) Z (js Z (jf [4,40,12,0,5] Z (jn ?_)))))
 have h2:=yz.1 z40
 exact⟨Z,Ent.to ⟨Z,congrArg (fun z=>some (eI z)) (show 0-z.2=n2 by rw[hn2,uE,if_pos (AH.2 ⟨by omega,h2.2⟩),←hz2];omega),ao⟩ Z⟩
 refine af ?_
 have h2:=dB z40 yz
 exact⟨Z,Ent.to ⟨Z,congrArg (fun z=>some (eI z)) (show z.2=n2 by rw[hn2,uE,if_neg (fun e=>h2 ⟨by have:=(AH.1 e).1;omega,(AH.1 e).2⟩),←hz2]),ao⟩ Z⟩
 refine ag (ae (js Z (aO Z (lI (x:=n2) (lo:= -1000000000) (hi:=1000000000) h1 h2) 45000 Z (ac Z (jf [46,0,4] Z (ar 4 Z Z Z (fun hx=>aq hx Z (bj O hx Z Z Z Z (nD (n:=n2) h1 h2 (by omega) (by omega)) (ah Z) Z Z Z Z Z Z Z (B0:=49000) Z (aq hx Z (bf hx (b9 (p:=Lib.itoa n2) (q:=s) O Z Z Z Z Z Z) Z (AN.nil))))) Z Z ?_))))))
 first|refine aa (al O Z Z Z Z Z) Z ?_|refine aa (Val.pickB O Z Z Z Z Z) Z ?_|refine aa (aj O Z Z Z Z Z) Z ?_
 refine jf [51,0,4] Z (jn (ak Z (fun z51=>?_) (fun z51=>?_)))
 refine ae (ac Z (jr ?_))
 refine ay Z ?_
 have h9:=xA z51 Z
 rw[hn2]at h9
 rw[show mt s=none by unfold mt;rw[if_neg (by omega),if_neg h9]]
 exact .tup (.cons (.c .d) (.cons (.c .d) .nil))
 refine af (ae (aF Z (jr ?_)))
 refine ay Z ?_
 have h9:=xz (by rw[z51];simp) Z
 rw[show mt s=some n2 by rw[hn2]at h9 ⊢;unfold mt;rw[if_neg (by omega),if_pos h9]]
 exact .tup (.cons (.c .d) (.cons (.c .d) .nil))
theorem tb{c:UInt8}: ∀{p:Str},c ∉ p→aS c p=[p]
 | [],_=>rfl
 | b::r,h=>by
  rw[aS,if_neg (fun e=>h (by rw[e];exact List.mem_cons_self ..)),tb (fun hh=>h (List.mem_cons_of_mem _ hh))];rfl
theorem xx{c:UInt8}{s:Str}{f i:Nat}(hf:f≤i)(hi:i<s.length)(hn:c ∉ (s.drop f).take (i-f))(hc:s.getD i 0=c):aS c (s.drop f)=(s.drop f).take (i-f)::aS c (s.drop (i+1)):=by
 have e:s.drop f=(s.drop f).take (i-f)++c::s.drop (i+1):=by
  conv=>lhs;rw[←List.take_append_drop (i-f) (s.drop f)]
  rw[List.drop_drop,show f+(i-f)=i by omega,cR hi,hc]
 conv=>lhs;rw[e]
 rw[ix _ hn]
theorem vA{c:UInt8}{s:Str}{f i:Nat}(hf:f≤i)(hi:i<s.length)(hn:c ∉ (s.drop f).take (i-f))(hc: ¬s.getD i 0=c):c ∉ (s.drop f).take (i+1-f):=by
 have e:(s.drop f).take (i+1-f)=(s.drop f).take (i-f)++[s.getD i 0]:=by
  rw[show i+1-f=(i-f)+1 by omega,List.take_succ_eq_append_getElem (by rw[List.length_drop];omega),List.getElem_drop]
  simp[show f+(i-f)=i by omega,hi]
 rw[e]
 simp only[List.mem_append,List.mem_singleton,not_or]
 exact⟨hn,fun h=>hc h.symm⟩
theorem BT{a b:UInt8}:((a.toNat:Int)=(b.toNat:Int))↔a=b:=by
 rw[Int.natCast_inj,UInt8.toNat_inj]
theorem sW{s:Str}{m:UInt8}(hs:s.length<L)(hs2:s.length≤1100000):MQ h1 h2 70 [aS8 s,.c (.d (.int .u8 (m.toNat:Int)))] [] (Plain (.c (.d (strs (aS m s))))):=by
 refine MC.data (jB 35 h1 h2 Tryz.func70 Z fun O hF=>?_)
 refine ae (js Z (be (aY (HS.lit O Z Z Z) Z (aB ?_))))
 refine js Z (be (js Z (jn (ag (ae (js Z (jn (am (av (X:=Nat×Nat×List Str) (fun z=>⟨[(0,aS8 s),(1,.c (.d (.int .u8 (m.toNat:Int)))),(5,.c (.rs 900 0 z.2.2.length)),(6,eI (z.2.1:Nat)),(7,eI (z.1:Nat))],[(900,.row false 1 (z.2.2.map (fun p=>[sD p])))]⟩) (fun z=>z.2.1≤z.1∧z.1≤s.length∧m ∉ ((s.drop z.2.1).take (z.1-z.2.1))∧aS m s=z.2.2++aS m (s.drop z.2.1)∧z.2.2.length≤z.1) (fun z=>s.length-z.1) (0,0,[]) ((gy 8 Z).trans ((aL 8 900 Z Z).trans (Ent.to ⟨Z,Z,Z,Z,Z,ao⟩ Z))) ?_ (fun z hi=>?_))))))))))
 exact⟨bQ _,ca _,by show m ∉ ((s.drop 0).take (0-0));simp,Z,bQ _⟩
 refine ag (ae (ac Z (aa (aI (p:=s) O Z Z Z Z Z Z Z Z Z) Z (js Z (jf [12,0,1,5,6,7] Z (jn (ak Z (fun z12=>?_) (fun z12=>?_))))))))
 refine af (ag (am (ae (ac Z ?_))))
 have hz0:z.1<s.length:=by have:=bc z12;omega
 have hol:z.2.2.length≤z.1:=hi.2.2.2.2
 refine aa (aA (p:=s) (b:=s.getD z.1 0) O Z Z Z Z Z Z Z (by omega) (aX hz0)) Z (ac Z (jf [19,12,0,1,5,6,7] Z (jn (ak Z (fun z19=>?_) (fun z19=>?_)))))
 refine ae (aM Z (aa (bn (p:=s) (a:=z.2.1) (b:=z.1) O Z Z Z Z Z Z Z Z Z Z hi.1 hi.2.1) Z (jf [24,20,19,12,0,1,5,6,7] Z (aY (bL O Z Z Z Z Z Z Z Z Z Z Z) Z (aB ?_)))))
 refine jf [25,20,19,12,0,1,5,6,7] Z (aY (cZ (own:=false) (xs:=z.2.2.map (fun p=>[sD p])) (ys:=[[sD ((s.drop z.2.1).take (z.1-z.2.1))]]) (zs:=(z.2.2++[((s.drop z.2.1).take (z.1-z.2.1))]).map (fun p=>[sD p])) (n:=(z.2.2++[((s.drop z.2.1).take (z.1-z.2.1))]).length) O Z (.row Z (bd _).symm) (.whole Z Z (.inr ⟨Z,Z⟩)) (by simp) Z (by simp;omega) (by simp;omega) (by simp) (by simp)) Z (aB ?_))
 refine aB ?_
 refine js Z (jf [5,19,12,0,1,6,7] Z (jn (ab (js Z ?_))))
 first|refine ji Z ?_|refine aU Z Z ?_
 refine js Z (jf [6,5,19,12,0,1,7] Z (jn (ab (js Z ?_))))
 first|refine ji Z ?_|refine aU Z Z ?_
 refine js Z (jf [7,6,5,19,12,0,1] Z (jn ?_))
 refine⟨(z.1+1,z.1+1,z.2.2++[((s.drop z.2.1).take (z.1-z.2.1))]),((aC [26] (e':=[(0,_),(1,_),(5,_),(6,_),(7,_)]) Z Z ⟨Z,Z,Z,Z,Z,ao⟩ Z).trans (aL 26 900 Z Z)).trans (Ent.to ⟨Z,Z,Z,Z,Z,ao⟩ Z),⟨bQ _,by show z.1+1≤_;omega,?_,?_,by show(z.2.2++[((s.drop z.2.1).take (z.1-z.2.1))]).length≤z.1+1;rw[bP];have:=hi.2.2.2.2;exact Nat.succ_le_succ this⟩,by show s.length-(z.1+1)<s.length-z.1;omega⟩
 show m ∉ ((s.drop (z.1+1)).take (z.1+1-(z.1+1)));simp
 show aS m s=(z.2.2++[((s.drop z.2.1).take (z.1-z.2.1))])++aS m (s.drop (z.1+1))
 rw[hi.2.2.2.1,xx hi.1 hz0 hi.2.2.1 (BT.1 (bc z19))];simp
 refine af (ab (js Z ?_))
 first|refine ji Z ?_|refine aU Z Z ?_
 refine js Z (jf [7,19,12,0,1,5,6] Z (jn ?_))
 refine⟨(z.1+1,z.2.1,z.2.2),Ent.to ⟨Z,Z,Z,Z,Z,ao⟩ Z,⟨by show z.2.1≤z.1+1;have:=hi.1;omega,by show z.1+1≤_;omega,vA hi.1 hz0 hi.2.2.1 (fun e=>bw z19 (BT.2 e)),hi.2.2.2.1,by show z.2.2.length≤z.1+1;have:=hi.2.2.2.2;omega⟩,by show s.length-(z.1+1)<s.length-z.1;omega⟩
 refine aJ (ae (aF Z ?_))
 have hz1:z.1=s.length:=by have:=bw z12;have:=hi.2.1;omega
 have hol:z.2.2.length≤z.1:=hi.2.2.2.2
 have hff:z.2.1≤s.length:=by have:=hi.1;omega
 refine aa ((bn (p:=s) (a:=z.2.1) (b:=s.length) O Z Z Z Z Z Z Z Z Z Z (by omega) (bQ _)).cast (v':=aS8 (s.drop z.2.1)) (by rw[List.take_of_length_le (by rw[List.length_drop];omega)])) Z (jf [32,29,12,0,1,5,6,7] Z (aY (bL O Z Z Z Z Z Z Z Z Z Z Z) Z (aB ?_)))
 refine jf [33,29,12,0,1,5,6,7] Z (aY (cZ (own:=false) (xs:=z.2.2.map (fun p=>[sD p])) (ys:=[[sD (s.drop z.2.1)]]) (zs:=(z.2.2++[(s.drop z.2.1)]).map (fun p=>[sD p])) (n:=(z.2.2++[(s.drop z.2.1)]).length) O Z (.row Z (bd _).symm) (.whole Z Z (.inr ⟨Z,Z⟩)) (by simp) Z (by simp;omega) (by simp;omega) (by simp) (by simp)) Z (aB ?_))
 refine aB ?_
 refine js Z (jf [4,12,0,1,5,6,7] Z (jr ?_))
 refine ay Z ?_
 have hno:=hi.2.2.1
 rw[hz1,List.take_of_length_le (by rw[List.length_drop];omega)]at hno
 rw[hi.2.2.2.1,tb hno]
 exact .v (.c (.whole Z (bd _).symm))
def gE(c:UInt8)(ss:List Str):Str:=if ss=[]then[]else ba c ss++[c]
theorem zl{c:UInt8}{ss:List Str}{y:Str}:ba c (ss++[y])=gE c ss++y:=by
 unfold gE
 by_cases h:ss=[]
 rw[if_pos h,h];rfl
 rw[if_neg h,vG h];simp
theorem qA{α:Type}[Inhabited α]{c:UInt8}{f:α→Str}{p:List α}{i:Nat}(h:i<p.length):ba c ((p.take (i+1)).map f)=gE c ((p.take i).map f)++f (p.getD i default):=by
 rw[List.take_succ_eq_append_getElem h,List.map_append,List.map_singleton,zl,getD_lt h]
theorem yJ{α:Type}{c:UInt8}{f:α→Str}{p:List α}{i:Nat}(h: ¬(0:Int)<(i:Int)):ba c ((p.take i).map f)=gE c ((p.take i).map f):=by
 obtain rfl:i=0:=by omega
 rfl
theorem uO{α:Type}{c:UInt8}{f:α→Str}{p:List α}{i:Nat}(h:(0:Int)<(i:Int))(hp:i<p.length):ba c ((p.take i).map f)++[c]=gE c ((p.take i).map f):=by
 unfold gE
 rw[if_neg]
 intro e
 have:=congrArg List.length e
 simp only[bd,List.length_take,List.length_nil]at this
 omega
theorem kP{c:UInt8}: ∀{ss:List Str},ss.length≤(ba c ss).length+1
 | []=>by simp
 | [p]=>by simp
 | p::q::r=>by
  have:=kP (c:=c) (ss:=q::r)
  rw[ba]
  simp only[bP,db]at *;omega
theorem qz{α:Type}{c:UInt8}{f:α→Str}{p:List α}{i:Nat}:(ba c ((p.take i).map f)).length≤(ba c (p.map f)).length:=by
 rw[List.map_take];exact tH
variable{p:List Nd}
theorem sV(hR: ∀x∈p,NdR x)(hl:(ba 47 (p.map bo)).length≤L):MQ h1 h2 73 [dF p] [] (Plain (aS8 (ba 47 (p.map bo)))):=by
 refine au ?_ Z
 refine jB 72 h1 h2 Tryz.func73 Z fun O hF=>?_
 have hpl:p.length≤L:=by have h:=hF;simp only[As.fact,A.fact,M.fact,D.fact,bd]at h;exact h.1.1
 refine ae (js Z (be (js Z (jn (ag (ae (js Z (jn (am (av (X:=Nat) (fun i=>⟨[(0,dF p),(3,aS8 (ba 47 ((p.take i).map bo))),(4,eI i)],[]⟩) (fun i=>i≤p.length) (fun i=>p.length-i) 0 (Ent.to ⟨Z,Z,Z,ao⟩ Z) ?_ (fun i hi=>?_)))))))))))
 exact ca _
 refine ag (ae (ac Z ?_))
 first|refine cm Z ?_|refine js Z ?_|refine aU Z Z ?_
 refine js Z (jf [9,0,3,4] Z (jn (ak Z (fun z9=>?_) (fun z9=>?_))))
 refine af (ag (am (ag (ae ?_))))
 have hi0:i<p.length:=by have:=bc z9;omega
 have hOl:(ba 47 ((p.take i).map bo)).length≤L:=Nat.le_trans qz hl
 have hOl2:0<i→(ba 47 ((p.take i).map bo)).length+1≤L:=fun h0=>by have h5:=uO (c:=47) (f:=bo) (p:=p) (i:=i) (by omega) hi0;have h6:(ba 47 ((p.take (i+1)).map bo)).length≤L:=Nat.le_trans qz hl;have h7:=congrArg List.length (qA (c:=47) (f:=bo) hi0);rw[bP]at h7;have h8:=congrArg List.length h5;rw[bP]at h8;have h9:[(47:UInt8)].length=1:=rfl;omega
 refine ac Z (jn ?_)
 have hxR:NdR (p.getD i default):=by rw[getD_lt hi0];exact hR _ (List.getElem_mem hi0)
 have hT:(ba 47 ((p.take (i+1)).map bo))=(gE 47 ((p.take i).map bo))++bo (p.getD i default):=qA hi0
 have hTl:(ba 47 ((p.take (i+1)).map bo)).length≤L:=Nat.le_trans qz hl
 rw[hT,bP]at hTl
 refine bl ⟨[(0,dF p),(3,aS8 (gE 47 ((p.take i).map bo))),(4,eI i)],[]⟩ ?_ ?_
 refine ak Z (fun z13=>?_) (fun z13=>?_)
 refine ab (js Z (aa (aH (p:=(ba 47 ((p.take i).map bo))) (q:=[47]) O Z Z Z Z Z Z (by have h:=hOl2 (by have:=bc z13;omega);exact h) (by show L≤_;omega)) Z (js Z (jf [3,13,12,9,0,4] Z (jn ?_)))))
 exact⟨Z,Ent.to ⟨Z,congrArg (fun s=>some (aS8 s)) (uO (bc z13) hi0),Z,ao⟩ Z⟩
 refine af ?_
 exact⟨Z,Ent.to ⟨Z,congrArg (fun s=>some (aS8 s)) (yJ (bw z13)),Z,ao⟩ Z⟩
 refine ae (ac Z (aa (aE O Z Z Z Z Z Z Z Z (cb hi0)) Z (ac Z (jf [20,0,3,4] Z (jn (bl ⟨[(0,dF p),(3,aS8 (ba 47 ((p.take (i+1)).map bo))),(4,eI i)],[]⟩ ?_ ?_))))))
 refine am (ae (ac Z (jn (ak Z (fun z21=>?_) (fun z21=>?_)))))
 refine ae (js Z ?_)
 have hk1:(p.getD i default).kind=1:=bc z21
 have hn1:bo (p.getD i default)=99::ba 44 (((p.getD i default).mul).map Lib.itoa):=if_pos hk1
 rw[hn1,db]at hTl
 have hml:=kP (c:=44) (ss:=((p.getD i default).mul).map Lib.itoa)
 rw[bd]at hml
 refine aa (aH (p:=(gE 47 ((p.take i).map bo))) (q:=[99]) O Z Z Z Z Z Z (by show(gE 47 ((p.take i).map bo)).length+1≤L;omega) (by show L≤_;omega)) Z (js Z (jf [3,21,22,20,0,4] Z (be (js Z (jn (am (av (X:=Nat) (fun j=>⟨[(0,dF p),(3,aS8 ((gE 47 ((p.take i).map bo))++99::(ba 44 (((((p.getD i default).mul)).take j).map Lib.itoa)))),(4,eI i),(5,eI j)],[]⟩) (fun j=>j≤((p.getD i default).mul).length) (fun j=>((p.getD i default).mul).length-j) 0 (Ent.to ⟨Z,Z,Z,Z,ao⟩ Z) ?_ (fun j hi=>?_))))))))
 exact ca _
 refine ag (ae (aF Z (aa (aE O Z Z Z Z Z Z Z Z (cb hi0)) Z (ac Z ?_))))
 first|refine cm Z ?_|refine js Z ?_|refine aU Z Z ?_
 refine js Z (jf [32,0,3,4,5] Z (jn (ak Z (fun z32=>?_) (fun z32=>?_))))
 refine af (ag (am (ag (ae ?_))))
 have hj0:j<((p.getD i default).mul).length:=by have:=bc z32;omega
 have hJl:(ba 44 (((((p.getD i default).mul)).take (j+1)).map Lib.itoa)).length≤(ba 44 (((p.getD i default).mul).map Lib.itoa)).length:=qz
 have hJa:(ba 44 (((((p.getD i default).mul)).take (j+1)).map Lib.itoa))=(gE 44 (((((p.getD i default).mul)).take j).map Lib.itoa))++Lib.itoa (((p.getD i default).mul).getD j default):=qA hj0
 rw[hJa,bP]at hJl
 have hmR: -1000000000≤((p.getD i default).mul).getD j default∧((p.getD i default).mul).getD j default≤1000000000:=by rw[getD_lt hj0];exact hxR.mul _ (List.getElem_mem hj0)
 have hJ1:0<j→(ba 44 (((((p.getD i default).mul)).take j).map Lib.itoa)).length+1=(gE 44 (((((p.getD i default).mul)).take j).map Lib.itoa)).length:=fun h0=>by have h5:=congrArg List.length (uO (c:=44) (f:=Lib.itoa) (p:=((p.getD i default).mul)) (i:=j) (by omega) hj0);rw[bP]at h5;exact h5
 refine ac Z (jn (bl ⟨[(0,dF p),(3,aS8 ((gE 47 ((p.take i).map bo))++99::(gE 44 (((((p.getD i default).mul)).take j).map Lib.itoa)))),(4,eI i),(5,eI j)],[]⟩ ?_ ?_))
 refine ak Z (fun z36=>?_) (fun z36=>?_)
 refine ab (js Z (aa (aH (p:=((gE 47 ((p.take i).map bo))++99::(ba 44 (((((p.getD i default).mul)).take j).map Lib.itoa)))) (q:=[44]) O Z Z Z Z Z Z (by have h:=hJ1 (by have:=bc z36;omega);have h2:[(44:UInt8)].length=1:=rfl;show _+_≤L;rw[bP,db];omega) (by show L≤_;omega)) Z (js Z (jf [3,36,35,32,0,4,5] Z (jn ?_)))))
 exact⟨Z,Ent.to ⟨Z,congrArg (fun s=>some (aS8 s)) (show((gE 47 ((p.take i).map bo))++99::(ba 44 (((((p.getD i default).mul)).take j).map Lib.itoa)))++[44]=(gE 47 ((p.take i).map bo))++99::(gE 44 (((((p.getD i default).mul)).take j).map Lib.itoa)) by rw[←uO (bc z36) hj0];simp),Z,Z,ao⟩ Z⟩
 refine af ?_
 exact⟨Z,Ent.to ⟨Z,congrArg (fun s=>some (aS8 s)) (show(gE 47 ((p.take i).map bo))++99::(ba 44 (((((p.getD i default).mul)).take j).map Lib.itoa))=(gE 47 ((p.take i).map bo))++99::(gE 44 (((((p.getD i default).mul)).take j).map Lib.itoa)) by rw[yJ (bw z36)]),Z,Z,ao⟩ Z⟩
 refine ab (aF Z (aa (aE O Z Z Z Z Z Z Z Z (cb hi0)) Z (aF Z (aa (aE O Z Z Z Z Z Z Z Z (cb hj0)) Z (js Z (jf [47,39,0,3,4,5] Z (aO Z (nD (n:=((p.getD i default).mul).getD j default) h1 h2 (by omega) (by omega)) 49000 Z (aa (aH (p:=((gE 47 ((p.take i).map bo))++99::(gE 44 (((((p.getD i default).mul)).take j).map Lib.itoa)))) (q:=(Lib.itoa (((p.getD i default).mul).getD j default))) O Z Z Z Z Z Z (by show _+_≤L;rw[bP,db];omega) (by show L≤_;omega)) Z (js Z (jf [3,0,4,5] Z (jn (ab (js Z ?_)))))))))))))
 first|refine ji Z ?_|refine aU Z Z ?_
 refine js Z (jf [5,3,0,4] Z (jn ?_))
 refine⟨j+1,Ent.to ⟨Z,congrArg (fun s=>some (aS8 s)) (show((gE 47 ((p.take i).map bo))++99::(gE 44 (((((p.getD i default).mul)).take j).map Lib.itoa)))++Lib.itoa (((p.getD i default).mul).getD j default)=(gE 47 ((p.take i).map bo))++99::(ba 44 (((((p.getD i default).mul)).take (j+1)).map Lib.itoa)) by rw[qA hj0];simp),Z,Z,ao⟩ Z,by omega,by omega⟩
 refine aJ ?_
 have hjl:j=((p.getD i default).mul).length:=by have:=bw z32;omega
 exact⟨Z,(aC [] (e':=[(0,_),(3,_),(4,_)]) Z Z ⟨Z,Z,Z,ao⟩ Z).trans (Ent.to ⟨Z,congrArg (fun s=>some (aS8 s)) (show(gE 47 ((p.take i).map bo))++99::(ba 44 (((((p.getD i default).mul)).take j).map Lib.itoa))=(ba 47 ((p.take (i+1)).map bo)) by rw[hT,hn1,hjl,List.take_length]),Z,ao⟩ Z)⟩
 refine ae (ac Z (jn (ak Z (fun z50=>?_) (fun z50=>?_))))
 refine ab ?_
 have hk2:(p.getD i default).kind=2:=bc z50
 have hn2:bo (p.getD i default)=115::tS (p.getD i default).term:=by unfold bo;rw[hk2,if_neg (by decide),if_pos Z]
 rw[hn2,db]at hTl
 refine aF Z (aa (aE O Z Z Z Z Z Z Z Z (cb hi0)) Z (js Z (jf [56,52,50,51,21,22,20,0,3,4] Z (aZ O Z Z Z Z (qG (t:=(p.getD i default).term) h1 h2 hxR.term) (.cons (.c (.sub Z)) .nil) Z Z Z Z Z (B0:=58000) Z (aa (aH (p:=[115]) (q:=(tS (p.getD i default).term)) O Z Z Z Z Z Z (by show 1+(tS (p.getD i default).term).length≤L;omega) (by show L≤_;omega)) Z (aa (aH (p:=(gE 47 ((p.take i).map bo))) (q:=(115::tS (p.getD i default).term)) O Z Z Z Z Z Z (by show _+_≤L;rw[db];omega) (by show L≤_;omega)) Z (js Z (jf [3,50,51,21,22,20,0,4] Z (jn ?_)))))))))
 exact⟨Z,(aC [] (e':=[(0,_),(3,_),(4,_)]) Z Z ⟨Z,Z,Z,ao⟩ Z).trans (Ent.to ⟨Z,congrArg (fun s=>some (aS8 s)) (show(gE 47 ((p.take i).map bo))++(115::tS (p.getD i default).term)=(ba 47 ((p.take (i+1)).map bo)) by rw[hT,hn2]),Z,ao⟩ Z)⟩
 refine ae (ac Z (jn (ak Z (fun z60=>?_) (fun z60=>?_))))
 refine ab ?_
 have hk3:(p.getD i default).kind=3:=bc z60
 have hn3:bo (p.getD i default)=116::Lib.itoa (p.getD i default).fact:=by unfold bo;rw[hk3,if_neg (by decide),if_neg (by decide),if_pos Z]
 rw[hn3,db]at hTl
 have hfR:=hxR.fact
 refine aF Z (aa (aE O Z Z Z Z Z Z Z Z (cb hi0)) Z (ac Z (jf [67,62,60,61,50,51,21,22,20,0,3,4] Z (aO Z (nD (n:=(p.getD i default).fact) h1 h2 (by omega) (by omega)) 69000 Z (aa (aH (p:=[116]) (q:=(Lib.itoa (p.getD i default).fact)) O Z Z Z Z Z Z (by show 1+(Lib.itoa (p.getD i default).fact).length≤L;omega) (by show L≤_;omega)) Z (aa (aH (p:=(gE 47 ((p.take i).map bo))) (q:=(116::Lib.itoa (p.getD i default).fact)) O Z Z Z Z Z Z (by show _+_≤L;rw[db];omega) (by show L≤_;omega)) Z (js Z (jf [3,60,61,50,51,21,22,20,0,4] Z (jn ?_)))))))))
 exact⟨Z,(aC [] (e':=[(0,_),(3,_),(4,_)]) Z Z ⟨Z,Z,Z,ao⟩ Z).trans (Ent.to ⟨Z,congrArg (fun s=>some (aS8 s)) (show(gE 47 ((p.take i).map bo))++(116::Lib.itoa (p.getD i default).fact)=(ba 47 ((p.take (i+1)).map bo)) by rw[hT,hn3]),Z,ao⟩ Z)⟩
 refine af ?_
 exact absurd hxR.kind (by have h1:=bw z21;have h2:=bw z50;have h3:=bw z60;exact fun h=>h.elim h1 (fun h=>h.elim h2 h3))
 refine ab (js Z ?_)
 first|refine ji Z ?_|refine aU Z Z ?_
 refine js Z (jf [4,0,3] Z (jn ?_))
 refine⟨i+1,Ent.to ⟨Z,Z,Z,ao⟩ Z,by omega,by omega⟩
 refine aJ (ae (ac Z (jr ?_)))
 refine ay Z ?_
 obtain rfl:i=p.length:=by have:=bw z9;omega
 rw[List.take_length]
theorem ff{s:Str}{n:Nat}(hn:n<256)(h:s.getD 0 0=UInt8.ofNat n):((s.getD 0 0).toNat:Int)=n:=(eL hn).2 h
theorem c8{s:Str}{n:Nat}(hn:n<256)(h: ¬s.getD 0 0=UInt8.ofNat n): ¬((s.getD 0 0).toNat:Int)=n:=fun e=>h ((eL hn).1 e)
theorem bZ{s:Str}(h:s≠[]):0<s.length:=List.length_pos_iff.2 h
abbrev uJ(r:Nd×Bool):A:=.tup [yj r.1,eB r.2]
theorem wl{s:Str}(h:s≠[])(hb:s.getD 0 0=99):j9 s=(yp (if s.drop 1=[]then[]else lE (aS 44 (s.drop 1))),(lz (s.drop 1)).isSome):=by
 unfold j9;rw[if_neg h,if_pos hb]
theorem wj{s:Str}(h:s≠[])(hb:s.getD 0 0=115):j9 s=(match dD (s.drop 1)with
    | none=>(sf,false)
    | some t=>(yo t,true)):=by
  unfold j9;rw[if_neg h,if_neg (by rw[hb];decide),if_pos hb]<;>rfl
theorem wi{s:Str}(h:s≠[])(hb:s.getD 0 0=116):j9 s=(match dz (s.drop 1)with
    | none=>(sf,false)
    | some t=>(yq t,true)):=by
  unfold j9;rw[if_neg h,if_neg (by rw[hb];decide),if_neg (by rw[hb];decide),if_pos hb]<;>rfl
theorem wk{s:Str}(h:s≠[]→¬s.getD 0 0=99∧¬s.getD 0 0=115∧¬s.getD 0 0=116):j9 s=(sf,false):=by
 unfold j9
 by_cases hs:s=[]
 rw[if_pos hs]
 obtain⟨h1,h2,h3⟩:=h hs
 rw[if_neg hs,if_neg h1,if_neg h2,if_neg h3]
theorem tN{s:Str}(h:s.length≤1):s.drop 1=[]:=List.drop_eq_nil_of_le h
theorem wB{r:Str}{ms:List Int}(h:r≠[])(hr:bB dz (aS 44 r)=some ms):lz r=some ms:=by unfold lz;rw[if_neg h,hr]
theorem pp{r:Option Int}(h:(di r).2=true):r=some (di r).1:=by
 cases r with
 | none=>cases h
 | some n=>rfl
theorem pq{r:Option Int}(h:(di r).2=false):r=none:=by
 cases r with
 | none=>rfl
 | some n=>cases h
theorem x7{s:Str}(hsL:s.length≤L)(hs:s.length≤1048576)(hne:s≠[])(hb:s.getD 0 0=99):MQ h1 h2 71 [aS8 s] [] (Plain (uJ (j9 s))):=by
 refine MC.data (jB 84 h1 h2 Tryz.func71 Z fun O hF=>?_)
 refine ae (jl Z (aB ?_))
 refine js Z (be (aY (HS.lit O Z Z Z) Z (aB ?_)))
 refine js Z (jf [14,3,2,0] Z (jl Z (aB ?_)))
 refine jo Z (aB ?_)
 refine jn (ag (ae (js Z (aa (Val.seq (p:=s) (q:=[]) O Z Z Z Z Z Z) Z (jn (ak Z (fun z16=>?_) (fun z16=>?_)))))))
 exact absurd (bc z16) hne
 refine af (ag (ae (js Z (aa (aA (p:=s) (b:=s.getD 0 0) O Z Z Z Z Z Z Z (by omega) (aX (i:=0) (bZ hne))) Z (jf [19,15,4,14,3,2,0] Z (jn (am (ae (ac Z (jn (ak Z (fun z21=>?_) (fun z21=>?_))))))))))))
 refine ae (js Z (jf [23,22,19,15,4,14,3,2,0] Z (jo Z (aB ?_))))
 refine be (js Z ?_)
 have hdl:(s.drop 1).length≤1048576:=by rw[List.length_drop];omega
 have hdL:(s.drop 1).length<L:=by have:=bZ hne;rw[List.length_drop];omega
 have hQ0:=eb 44 (s.drop 1)
 have hQ1:0<(aS 44 (s.drop 1)).length:=List.length_pos_iff.2 (pm 44 _)
 refine aa ((bn (p:=s) (a:=1) (b:=s.length) O Z Z Z Z Z Z Z Z Z Z (bZ hne) (bQ _)).cast (v':=aS8 (s.drop 1)) (by rw[List.take_of_length_le (by rw[List.length_drop];omega)])) Z (jf [25,23,22,19,15,4,14,3,2,0] Z (aw O Z Z Z Z (sW (s:=s.drop 1) (m:=44) h1 h2 hdL (by omega)) (ah Z) Z Z Z Z (B0:=27000) Z Z (js Z (jf [5,23,22,19,15,4,14,3,2,0] Z (be (js Z (jn (am (av (X:=Nat×List Int) (fun z=>⟨[(0,aS8 s),(2,.c (.pt 2 0 0)),(4,.c (.pt 4 0 0)),(5,.c (.d (strs (aS 44 (s.drop 1))))),(6,eI (z.1:Nat))],[(2,.box [.d (.int .i64 0),.d (.int .i64 0),.d (.int .i64 0),.d .nils,.d .nils]),(4,.box [.d (.int .i64 1),.d (.int .i64 0),.d (.int .i64 0),.d .nils,.rs 900 0 z.2.length]),(900,.row false 1 (z.2.map (fun n=>[D.int .i64 n])))]⟩) (fun z=>z.1≤(aS 44 (s.drop 1)).length∧z.2.length=z.1∧bB dz ((aS 44 (s.drop 1)).take z.1)=some z.2∧(1<s.length∨z.1=0)) (fun z=>(aS 44 (s.drop 1)).length-z.1) (0,[]) ((gy 13 Z).trans ((aL 13 900 Z Z).trans (Ent.to ⟨Z,Z,Z,Z,Z,ao⟩ Z))) ?_ (fun z hi=>?_))))))))))
 exact⟨ca _,Z,Z,.inr Z⟩
 refine ag (ae (ac Z ?_))
 first|refine cm Z ?_|refine js Z ?_|refine aU Z Z ?_
 refine ac Z (jf [31,0,2,4,5,6] Z (ar 3 Z Z Z (fun hx=>aq hx Z (bf hx (aI (p:=s) O Z Z Z Z Z Z Z Z Z) Z (aq hx Z (AN.nil)))) Z Z ?_))
 first|refine aa (aj O Z Z Z Z Z) Z ?_|refine aa (al O Z Z Z Z Z) Z ?_|refine aa (Val.pickB O Z Z Z Z Z) Z ?_
 refine jf [35,0,2,4,5,6] Z (jn (ak Z (fun z35=>?_) (fun z35=>?_)))
 refine af (ag (am (ae (ac Z ?_))))
 have hcc:=yz.1 z35
 have hi0:z.1<(aS 44 (s.drop 1)).length:=by have:=hcc.1;omega
 obtain⟨n,hn⟩: ∃n,n=(di (mt ((aS 44 (s.drop 1)).getD z.1 default))).1:=⟨_,rfl⟩
 obtain⟨nB,hnB⟩: ∃b,b=(di (mt ((aS 44 (s.drop 1)).getD z.1 default))).2:=⟨_,rfl⟩
 refine aa (aE O Z Z Z Z Z Z Z Z (cb (by omega))) Z (js Z (jf [42,35,0,2,4,5,6] Z (aw O Z Z Z Z ((sU (s:=((aS 44 (s.drop 1)).getD z.1 default)) h1 h2).plain (v:=_) (u:=.tup [eI n,eB nB]) (by rw[hn,hnB])) (ah Z) Z Z Z Z (B0:=44000) Z Z (aM Z (js Z (jf [8,7,35,0,2,4,5,6] Z (jn (ag (ae (ac Z (jf [47,7,35,0,2,4,5,6] Z (jn (ak Z (fun z47=>?_) (fun z47=>?_))))))))))))))
 refine ae (js Z (jo Z (aB ?_)))
 refine js Z (jr ?_)
 refine ay Z ?_
 have h1s:s.drop 1≠[]:=fun e=>by have h7:=congrArg List.length e;rw[List.length_drop,List.length_nil]at h7;have:=hcc.2;omega
 have hx:dz ((aS 44 (s.drop 1)).getD z.1 default)=none:=by rw[nz];exact pq (by rw[←hnB];simpa using z47)
 have hq:(aS 44 (s.drop 1))=(aS 44 (s.drop 1)).take z.1++((aS 44 (s.drop 1)).getD z.1 default)::(aS 44 (s.drop 1)).drop (z.1+1):=by conv=>lhs;rw[←List.take_append_drop z.1 (aS 44 (s.drop 1)),List.drop_eq_getElem_cons hi0,←getD_lt hi0]
 have hpv:lE (aS 44 (s.drop 1))=z.2:=by rw[hq];exact nW hi.2.2.1 hx
 have hms:lz (s.drop 1)=none:=by unfold lz;rw[if_neg h1s,hq];exact ej hx
 rw[wl hne hb,if_neg h1s,hpv,hms]
 exact .tup (.cons (.agg (.cons .d (.cons .d (.cons .d (.cons .nils (.cons (.whole Z (bd _).symm) .nil)))))) (.cons (.c .d) .nil))
 refine af (ab ?_)
 have hok1:dz ((aS 44 (s.drop 1)).getD z.1 default)=some n:=by rw[nz,hn];exact pp (by rw[←hnB];simpa using z47)
 refine aF Z (jf [51,50,47,35,0,2,4,5,6] Z (aY (bL O Z Z Z Z Z Z Z Z Z Z Z) Z (aB ?_)))
 refine jf [52,50,47,35,0,2,4,5,6] Z (aY (cZ (own:=false) (xs:=z.2.map (fun n=>[D.int .i64 n])) (ys:=[[.int .i64 n]]) (zs:=(z.2++[n]).map (fun n=>[D.int .i64 n])) (n:=(z.2++[n]).length) O Z (.row Z (bd _).symm) (.whole Z Z (.inr ⟨Z,Z⟩)) (by simp) Z (by simp;omega) (by simp;omega) (by simp) (by simp)) Z (aB ?_))
 refine aB ?_
 refine js Z (jf [54,53,47,35,0,2,4,5,6] Z (jo Z (aB ?_)))
 refine jf [47,35,0,2,4,5,6] Z (jn (ab (js Z ?_)))
 first|refine ji Z ?_|refine aU Z Z ?_
 refine js Z (jf [6,47,35,0,2,4,5] Z (jn ?_))
 refine⟨(z.1+1,z.2++[n]),((aC [2,4,53] (e':=[(0,_),(2,_),(4,_),(5,_),(6,_)]) Z Z ⟨Z,Z,Z,Z,Z,ao⟩ Z).trans (aL 53 900 Z Z)).trans (Ent.to ⟨Z,Z,Z,Z,Z,ao⟩ Z),⟨by show z.1+1≤_;omega,by show(z.2++[n]).length=z.1+1;rw[bP,hi.2.1];rfl,?_,.inl (by have:=hcc.2;omega)⟩,by show(aS 44 (s.drop 1)).length-(z.1+1)<(aS 44 (s.drop 1)).length-z.1;omega⟩
 show bB dz ((aS 44 (s.drop 1)).take (z.1+1))=some (z.2++[n])
 rw[List.take_succ_eq_append_getElem hi0,←getD_lt hi0]
 exact dL hi.2.2.1 hok1
 refine aJ (ae ?_)
 have hend:(z.1=(aS 44 (s.drop 1)).length∧1<s.length)∨s.length≤1:=by
  have h9:=dB z35 yz
  by_cases h8:1<s.length
  exact .inl ⟨by have h7: ¬(z.1:Int)<((aS 44 (s.drop 1)).length:Int):=fun e=>h9 ⟨e,by omega⟩;have:=hi.1;omega,h8⟩
  exact .inr (by omega)
 refine js Z (jo Z (aB ?_))
 refine js Z (jr ?_)
 refine ay Z ?_
 have hmv:lz (s.drop 1)=some z.2∧(if s.drop 1=[]then[]else lE (aS 44 (s.drop 1)))=z.2:=by
  rcases hend with⟨h8,h9⟩|h8
  have h1s:s.drop 1≠[]:=fun e=>by have h7:=congrArg List.length e;rw[List.length_drop,List.length_nil]at h7;omega
  have hall:=hi.2.2.1
  rw[h8,List.take_length]at hall
  exact⟨wB h1s hall,by rw[if_neg h1s,kM hall]⟩
  have h7:z.1=0:=hi.2.2.2.resolve_left (by omega)
  have h6:z.2=[]:=List.length_eq_zero_iff.1 (by rw[hi.2.1,h7])
  rw[h6]
  exact⟨by unfold lz;rw[if_pos (tN h8)],if_pos (tN h8)⟩
 rw[wl hne hb,hmv.1,hmv.2]
 exact .tup (.cons (.agg (.cons .d (.cons .d (.cons .d (.cons .nils (.cons (.whole Z (bd _).symm) .nil)))))) (.cons (.c .d) .nil))
 exact absurd (ff (n:=99) (by decide) hb) (bw z21)
theorem x6{s:Str}(hsL:s.length≤L)(hs:s.length≤1048576)(hne:s≠[])(hb:s.getD 0 0=115):MQ h1 h2 71 [aS8 s] [] (Plain (uJ (j9 s))):=by
 refine MC.data (jB 84 h1 h2 Tryz.func71 Z fun O hF=>?_)
 refine ae (jl Z (aB ?_))
 refine js Z (jn (ae (aY (HS.lit O Z Z Z) Z (aB ?_))))
 refine js Z (jf [14,3,2,0] Z (jl Z (aB ?_)))
 refine jo Z (aB ?_)
 refine jn (ag (ae (js Z (aa (Val.seq (p:=s) (q:=[]) O Z Z Z Z Z Z) Z (jn (ak Z (fun z16=>?_) (fun z16=>?_)))))))
 exact absurd (bc z16) hne
 refine af (ag (ae (js Z (aa (aA (p:=s) (b:=s.getD 0 0) O Z Z Z Z Z Z Z (by omega) (aX (i:=0) (bZ hne))) Z (jf [19,15,4,14,3,2,0] Z (jn (am (ae (ac Z (jn (ak Z (fun z21=>?_) (fun z21=>?_))))))))))))
 exact absurd (bc z21) (c8 (n:=99) (by decide) (by rw[hb];decide))
 refine ae (ac Z (jf [55,22,19,15,4,14,3,2,0] Z (jn (ak Z (fun z55=>?_) (fun z55=>?_)))))
 refine ae (js Z ?_)
 have hdl:(s.drop 1).length≤1048576:=by rw[List.length_drop];omega
 obtain⟨t,ht⟩: ∃t,t=(cy (mu (s.drop 1))).1:=⟨_,rfl⟩
 obtain⟨tB,htB⟩: ∃b,b=(cy (mu (s.drop 1))).2:=⟨_,rfl⟩
 refine aa ((bn (p:=s) (a:=1) (b:=s.length) O Z Z Z Z Z Z Z Z Z Z (bZ hne) (bQ _)).cast (v':=aS8 (s.drop 1)) (by rw[List.take_of_length_le (by rw[List.length_drop];omega)])) Z (jf [59,22,19,15,4,14,3,2,0] Z (aw O Z Z Z Z ((Ah (s:=s.drop 1) h1 h2 (by omega)).plain (v:=_) (u:=.tup [i7 t,eB tB]) (by rw[ht,htB])) (ah Z) Z Z Z Z (B0:=61000) Z Z (aF Z (jf [62,61,22,19,15,4,14,3,2,0] Z (jl Z (aB ?_))))))
 refine jo Z (aB ?_)
 refine js Z (jf [10,9,22,19,15,4,14,3,2,0] Z (jn (ag (ae (ac Z (jf [64,9,22,19,15,4,14,3,2,0] Z (jn (ak Z (fun z64=>?_) (fun z64=>?_)))))))))
 refine ae (js Z (jf [65,9,22,19,15,4,14,3,2,0] Z (jo Z (aB ?_))))
 refine js Z (jr ?_)
 refine ay Z ?_
 have hx:dD (s.drop 1)=none:=by rw[wo];exact xE (by rw[←htB];simpa using z64)
 rw[wj hne hb,hx]
 exact .tup (.cons (.agg (.cons .d (.cons .d (.cons .d (.cons .nils (.cons (.whole Z Z) .nil)))))) (.cons (.c .d) .nil))
 refine af (ae (js Z (jf [66,9,22,19,15,4,14,3,2,0] Z (jo Z (aB ?_)))))
 refine jn (ab (ac Z (jo Z (aB ?_))))
 refine jf [66,9,22,19,15,4,14,3,2,0] Z (jn (ae (js Z (jo Z (aB ?_)))))
 refine js Z (jr ?_)
 refine ay Z ?_
 have hx:dD (s.drop 1)=some t:=by rw[wo,ht];exact xD (by rw[←htB];simpa using z64)
 rw[wj hne hb,hx]
 exact .tup (.cons (.agg (.cons .d (.cons .d (.cons .d (.cons .d (.cons (.whole Z Z) .nil)))))) (.cons (.c .d) .nil))
 exact absurd (ff (n:=115) (by decide) hb) (bw z55)
theorem x5{s:Str}(hsL:s.length≤L)(hs:s.length≤1048576)(hne:s≠[])(hb:s.getD 0 0=116):MQ h1 h2 71 [aS8 s] [] (Plain (uJ (j9 s))):=by
 refine MC.data (jB 84 h1 h2 Tryz.func71 Z fun O hF=>?_)
 refine ae (jl Z (aB ?_))
 refine js Z (jn (ae (aY (HS.lit O Z Z Z) Z (aB ?_))))
 refine js Z (jf [14,3,2,0] Z (jl Z (aB ?_)))
 refine jo Z (aB ?_)
 refine jn (ag (ae (js Z (aa (Val.seq (p:=s) (q:=[]) O Z Z Z Z Z Z) Z (jn (ak Z (fun z16=>?_) (fun z16=>?_)))))))
 exact absurd (bc z16) hne
 refine af (ag (ae (js Z (aa (aA (p:=s) (b:=s.getD 0 0) O Z Z Z Z Z Z Z (by omega) (aX (i:=0) (bZ hne))) Z (jf [19,15,4,14,3,2,0] Z (jn (am (ae (ac Z (jn (ak Z (fun z21=>?_) (fun z21=>?_))))))))))))
 exact absurd (bc z21) (c8 (n:=99) (by decide) (by rw[hb];decide))
 refine ae (ac Z (jf [55,22,19,15,4,14,3,2,0] Z (jn (ak Z (fun z55=>?_) (fun z55=>?_)))))
 exact absurd (bc z55) (c8 (n:=115) (by decide) (by rw[hb];decide))
 refine ae (ac Z (jf [69,22,19,15,4,14,3,2,0] Z (jn (ak Z (fun z69=>?_) (fun z69=>?_)))))
 refine ae (js Z ?_)
 obtain⟨t,ht⟩: ∃t,t=(di (mt (s.drop 1))).1:=⟨_,rfl⟩
 obtain⟨tB,htB⟩: ∃b,b=(di (mt (s.drop 1))).2:=⟨_,rfl⟩
 refine aa ((bn (p:=s) (a:=1) (b:=s.length) O Z Z Z Z Z Z Z Z Z Z (bZ hne) (bQ _)).cast (v':=aS8 (s.drop 1)) (by rw[List.take_of_length_le (by rw[List.length_drop];omega)])) Z (jf [73,22,19,15,4,14,3,2,0] Z (aw O Z Z Z Z ((sU (s:=s.drop 1) h1 h2).plain (v:=_) (u:=.tup [eI t,eB tB]) (by rw[ht,htB])) (ah Z) Z Z Z Z (B0:=75000) Z Z (aM Z (js Z (jf [12,11,22,19,15,4,14,3,2,0] Z (jn (ag (ae (ac Z (jf [78,11,22,19,15,4,14,3,2,0] Z (jn (ak Z (fun z78=>?_) (fun z78=>?_)))))))))))))
 refine ae (js Z (jf [79,11,22,19,15,4,14,3,2,0] Z (jo Z (aB ?_))))
 refine js Z (jr ?_)
 refine ay Z ?_
 have hx:dz (s.drop 1)=none:=by rw[nz];exact pq (by rw[←htB];simpa using z78)
 rw[wi hne hb,hx]
 exact .tup (.cons (.agg (.cons .d (.cons .d (.cons .d (.cons .nils (.cons (.whole Z Z) .nil)))))) (.cons (.c .d) .nil))
 refine af (ae (js Z (jf [80,11,22,19,15,4,14,3,2,0] Z (jo Z (aB ?_)))))
 refine jn (ab (ac Z (jf [82,81,80,22,19,15,4,14,3,2,0] Z (jo Z (aB ?_)))))
 refine jf [80,22,19,15,4,14,3,2,0] Z (jn (ae (js Z (jo Z (aB ?_)))))
 refine js Z (jr ?_)
 refine ay Z ?_
 have hx:dz (s.drop 1)=some t:=by rw[nz,ht];exact pp (by rw[←htB];simpa using z78)
 rw[wi hne hb,hx]
 exact .tup (.cons (.agg (.cons .d (.cons .d (.cons .d (.cons .nils (.cons (.whole Z Z) .nil)))))) (.cons (.c .d) .nil))
 exact absurd (ff (n:=116) (by decide) hb) (bw z69)
theorem tQ{s:Str}(hsL:s.length≤L)(hs:s.length≤1048576)(hn:s≠[]→¬s.getD 0 0=99∧¬s.getD 0 0=115∧¬s.getD 0 0=116):MQ h1 h2 71 [aS8 s] [] (Plain (uJ (j9 s))):=by
 refine MC.data (jB 84 h1 h2 Tryz.func71 Z fun O hF=>?_)
 refine ae (jl Z (aB ?_))
 refine js Z (be (aY (HS.lit O Z Z Z) Z (aB ?_)))
 refine js Z (jf [14,3,2,0] Z (jl Z (aB ?_)))
 refine jo Z (aB ?_)
 refine jn (ag (ae (js Z (aa (Val.seq (p:=s) (q:=[]) O Z Z Z Z Z Z) Z (jn (ak Z (fun z16=>?_) (fun z16=>?_)))))))
 refine ae (js Z (jf [17,15,4,14,3,2,0] Z (jo Z (aB ?_))))
 refine js Z (jr ?_)
 refine ay Z ?_
 rw[wk hn]
 exact .tup (.cons (.agg (.cons .d (.cons .d (.cons .d (.cons .nils (.cons (.whole Z Z) .nil)))))) (.cons (.c .d) .nil))
 refine af (ag (ae (js Z ?_)))
 have hne:s≠[]:=bw z16
 refine aa (aA (p:=s) (b:=s.getD 0 0) O Z Z Z Z Z Z Z (by omega) (aX (i:=0) (bZ hne))) Z (jf [19,15,4,14,3,2,0] Z (jn (am (ae (ac Z (jn (ak Z (fun z21=>?_) (fun z21=>?_))))))))
 exact absurd (bc z21) (c8 (n:=99) (by decide) (hn hne).1)
 refine ae (ac Z (jf [55,22,19,15,4,14,3,2,0] Z (jn (ak Z (fun z55=>?_) (fun z55=>?_)))))
 exact absurd (bc z55) (c8 (n:=115) (by decide) (hn hne).2.1)
 refine ae (ac Z (jf [69,22,19,15,4,14,3,2,0] Z (jn (ak Z (fun z69=>?_) (fun z69=>?_)))))
 exact absurd (bc z69) (c8 (n:=116) (by decide) (hn hne).2.2)
 refine ae (js Z (jf [20,22,19,15,4,14,3,2,0] Z (jo Z (aB ?_))))
 refine js Z (jr ?_)
 refine ay Z ?_
 rw[wk hn]
 exact .tup (.cons (.agg (.cons .d (.cons .d (.cons .d (.cons .nils (.cons (.whole Z Z) .nil)))))) (.cons (.c .d) .nil))
theorem Af{L:Nat}(h1:4096≤L)(h2:L≤1073741824){s:Str}(hsL:s.length≤L)(hs:s.length≤1048576):MC Tryz.prog L 71 [aS8 s] [] (Plain (uJ (j9 s))):=by
 by_cases hne:s=[]
 exact tQ h1 h2 hsL hs (fun h=>absurd hne h)
 by_cases h99:s.getD 0 0=99
 exact x7 h1 h2 hsL hs hne h99
 by_cases h115:s.getD 0 0=115
 exact x6 h1 h2 hsL hs hne h115
 by_cases h116:s.getD 0 0=116
 exact x5 h1 h2 hsL hs hne h116
 exact tQ h1 h2 hsL hs (fun _=>⟨h99,h115,h116⟩)
theorem gq{T:Type}{rd:Str→Option T}: ∀{ss:List Str} {ts:List T},bB rd ss=some ts→ts.length=ss.length
 | [],ts,h=>by rw[bB]at h;cases h;rfl
 | s::r,ts,h=>by
  rw[bB]at h
  split at h
  cases h
  split at h
  cases h
  rename_i ts' hts
  cases h
  rw[db,db,gq hts]
theorem px{t:Str}(h:bB iW (aS 47 t)=none):rP t=none:=by unfold rP;rw[h]
theorem sr{t:Str}{p:List Nd}(h:bB iW (aS 47 t)=some p):rP t=if nn p=true then some p else none:=by unfold rP;rw[h]
theorem qV{t:Str}(h:60<(aS 47 t).length):rP t=none:=by
 cases h2:bB iW (aS 47 t)with
 | none=>exact px h2
 | some p=>
  rw[sr h2,if_neg]
  intro h3
  have h4:=(kQ h3).1
  rw[gq h2]at h4
  omega
abbrev AR(r:Option (List Nd)):A:=match r with
  | none=>.tup [dF [],eB false]
  | some p=>.tup [dF p,eB true]
theorem zh{s:Str}(h:(j9 s).2=true):iW s=some (j9 s).1:=by rw[wq,h];rfl
theorem zi{s:Str}(h:(j9 s).2=false):iW s=none:=by rw[wq,h];rfl
theorem rA{k:Bool}{a:Prop}[Decidable a]:(bif !k then true else decide a)=true↔(k=false∨a):=by
 cases k<;>simp
theorem q_or{k:Bool}{a:Prop}[Decidable a]:(bif !k then true else !decide a)=true↔(k=false∨¬a):=by
 cases k<;>simp
theorem Ai{t:Str}(hL:1048576<L)(hs:t.length≤1048576):MQ h1 h2 27 [aS8 t] [] (Plain (AR (rP t))):=by
 refine MC.data (jB 47 h1 h2 Tryz.func27 Z fun O hF=>?_)
 refine ae (ac Z (be ?_))
 have hQ0:=eb 47 t
 refine js Z (aw O Z Z Z Z (sW (s:=t) (m:=47) h1 h2 (by omega) (by omega)) (ah Z) Z Z Z Z (B0:=11000) Z Z (js Z (jf [4,3,2,0] Z (be (aY (HS.lit O Z Z Z) Z (aB ?_))))))
 refine js Z (jn (ag (ae (js Z (jn (am (av (X:=Nat×List Nd) (fun z=>⟨[(0,aS8 t),(4,.c (.d (strs (aS 47 t)))),(5,.c (.rs 900 0 z.2.length)),(6,eI (z.1:Nat))],[(900,.row false 5 (z.2.map Nd.cells))]⟩) (fun z=>z.1≤(aS 47 t).length∧z.2.length=z.1∧bB iW ((aS 47 t).take z.1)=some z.2∧z.2.length≤60) (fun z=>(aS 47 t).length-z.1) (0,[]) ((gy 11 Z).trans ((aL 11 900 Z Z).trans (Ent.to ⟨Z,Z,Z,Z,ao⟩ Z))) ?_ (fun z hi=>?_))))))))
 exact⟨ca _,Z,Z,by decide⟩
 refine ag (ae (ac Z ?_))
 first|refine cm Z ?_|refine js Z ?_|refine aU Z Z ?_
 refine js Z (jf [15,0,4,5,6] Z (jn (ak Z (fun z15=>?_) (fun z15=>?_))))
 refine af (ag (am (ae (ac Z ?_))))
 have hi0:z.1<(aS 47 t).length:=by have:=bc z15;omega
 have hpl:((aS 47 t).getD z.1 default).length≤1048576:=by
  have h9:((aS 47 t).getD z.1 default)∈(aS 47 t):=by rw[getD_lt hi0];exact List.getElem_mem hi0
  have:=i8 _ h9;omega
 obtain⟨x,hx⟩: ∃x,x=(j9 ((aS 47 t).getD z.1 default)).1:=⟨_,rfl⟩
 obtain⟨b,hxb⟩: ∃b,b=(j9 ((aS 47 t).getD z.1 default)).2:=⟨_,rfl⟩
 refine aa (aE O Z Z Z Z Z Z Z Z (cb (by omega))) Z (js Z (jf [22,15,0,4,5,6] Z (aw O Z Z Z Z ((Af (s:=((aS 47 t).getD z.1 default)) h1 h2 (by omega) (by omega)).plain (v:=_) (u:=.tup [yj x,eB b]) (by rw[hx,hxb])) (ah Z) Z Z Z Z (B0:=24000) Z Z (aF Z (jf [25,24,15,0,4,5,6] Z (jl Z (aB ?_)))))))
 refine jo Z (aB ?_)
 refine js Z (jf [8,7,15,0,4,5,6] Z (jn (ag (ae (aF Z (jf [28,7,15,0,4,5,6] Z (ar 3 Z Z Z (fun hx=>aq hx Z (bf hx (br O Z Z (by have:=hi.2.2.2;omega)) Z (aq hx Z (AN.nil)))) Z Z ?_)))))))
 first|refine aa (al O Z Z Z Z Z) Z ?_|refine aa (Val.pickB O Z Z Z Z Z) Z ?_|refine aa (aj O Z Z Z Z Z) Z ?_
 refine jf [32,7,15,0,4,5,6] Z (jn (ak Z (fun z32=>?_) (fun z32=>?_)))
 refine ae (ac Z (jr ?_))
 refine ay Z ?_
 have hbad:rP t=none:=by
  rcases rA.1 z32 with h|h
  refine px ?_
  have hq:(aS 47 t)=(aS 47 t).take z.1++((aS 47 t).getD z.1 default)::(aS 47 t).drop (z.1+1):=by conv=>lhs;rw[←List.take_append_drop z.1 (aS 47 t),List.drop_eq_getElem_cons hi0,←getD_lt hi0]
  rw[hq];exact ej (zi (by rw[←hxb];exact h))
  exact qV (by have:=hi.2.1;omega)
 rw[hbad]
 exact .tup (.cons (.c .nils) (.cons (.c .d) .nil))
 refine af (ab ?_)
 have hno:=dB z32 rA
 have hb1:b=true:=by cases h:b with
 | true=>rfl
 | false=>exact absurd (.inl h) hno
 have hok1:iW ((aS 47 t).getD z.1 default)=some x:=by rw[hx];exact zh (by rw[←hxb];exact hb1)
 have h60: ¬z.2.length=60:=fun e=>hno (.inr (by omega))
 refine ac Z (aY (bL O Z Z Z Z Z Z Z Z Z Z Z) Z (aB ?_))
 refine jf [35,33,32,7,15,0,4,5,6] Z (aY (cZ (own:=false) (xs:=z.2.map Nd.cells) (ys:=[Nd.cells x]) (zs:=(z.2++[x]).map Nd.cells) (n:=(z.2++[x]).length) O Z (.row Z (bd _).symm) (.whole Z Z (.inr ⟨Z,Z⟩)) (by simp) Z (by simp;omega) (by simp;omega) (by simp) (by simp)) Z (aB ?_))
 refine aB ?_
 refine js Z (jf [5,32,7,15,0,4,6] Z (jn (ab (js Z ?_))))
 first|refine ji Z ?_|refine aU Z Z ?_
 refine js Z (jf [6,5,32,7,15,0,4] Z (jn ?_))
 refine⟨(z.1+1,z.2++[x]),((aC [36] (e':=[(0,_),(4,_),(5,_),(6,_)]) Z Z ⟨Z,Z,Z,Z,ao⟩ Z).trans (aL 36 900 Z Z)).trans (Ent.to ⟨Z,Z,Z,Z,ao⟩ Z),⟨by show z.1+1≤_;omega,by show(z.2++[x]).length=z.1+1;rw[bP,hi.2.1];rfl,?_,by show(z.2++[x]).length≤60;rw[bP];have:[x].length=1:=rfl;omega⟩,by show(aS 47 t).length-(z.1+1)<(aS 47 t).length-z.1;omega⟩
 show bB iW ((aS 47 t).take (z.1+1))=some (z.2++[x])
 rw[List.take_succ_eq_append_getElem hi0,←getD_lt hi0]
 exact dL hi.2.2.1 hok1
 refine aJ (ag (ae ?_))
 have hz1:z.1=(aS 47 t).length:=by have:=bw z15;omega
 have hall:=hi.2.2.1
 rw[hz1,List.take_length]at hall
 obtain⟨htx,htR⟩:=vu hall
 refine js Z (aZ O Z Z Z Z (Ca (p:=z.2) h1 h2) (.cons (.c (.whole Z (bd _).symm)) .nil) Z Z Z Z Z (B0:=39000) Z (ac Z (jf [40,15,0,4,5,6] Z (ar 4 Z Z Z (fun hx=>aq hx Z (bj O hx Z Z Z Z (sV (p:=z.2) h1 h2 htR (by rw[htx];omega)) (.cons (.c (.whole Z (bd _).symm)) .nil) Z Z Z Z Z Z Z (B0:=43000) Z (aq hx Z (bf hx (b9 (p:=ba 47 (z.2.map bo)) (q:=t) O Z Z Z Z Z Z) Z (AN.nil))))) Z Z ?_))))
 first|refine aa (al O Z Z Z Z Z) Z ?_|refine aa (Val.pickB O Z Z Z Z Z) Z ?_|refine aa (aj O Z Z Z Z Z) Z ?_
 refine jf [45,15,0,4,5,6] Z (jn (ak Z (fun z45=>?_) (fun z45=>?_)))
 refine ae (ac Z (jr ?_))
 refine ay Z ?_
 have hbad:rP t=none:=by
  rw[sr hall,pE]
  rcases q_or.1 z45 with h|h
  rw[h];rfl
  exact absurd htx h
 rw[hbad]
 exact .tup (.cons (.c .nils) (.cons (.c .d) .nil))
 refine af (ae (aF Z (jr ?_)))
 refine ay Z ?_
 have hyes:rP t=some z.2:=by
  have h9:isB z.2=true:=by cases h:isB z.2 with
 | true=>rfl
 | false=>exact absurd (q_or.2 (.inl h)) (by rw[z45];simp)
  rw[sr hall,pE,if_pos h9]
 rw[hyes]
 exact .tup (.cons (.c (.whole Z (bd _).symm)) (.cons (.c .d) .nil))
end Go.Al
/- What the program's ReadDecimal answers: strconv.ParseInt, a bound, and the decimal text compared. -/
namespace Go.Al
variable{L:Nat}(h1:4096≤L)(h2:L≤1073741824)
open Go.Proofs Go.RowKit
theorem Frame.below{w w':World}(h:Frame w w' []):Below w.heap.size w w':=⟨h.os,h.tape,h.output,h.size,fun k hk=>h.block k hk (by simp)⟩
theorem Frame.of_below{w w':World}(h:Below w.heap.size w w'):Frame w w' []:=⟨h.os,h.tape,h.output,h.size,fun k hk _=>h.block k hk⟩
theorem GOk.below{P:Program}{w w':World}{ok:Nat→Prop}(h:GOk P w ok)(hb:Below w.heap.size w w'):GOk P w' ok:=h.mono fun b h1 h2=>⟨h2,hb.block b h1⟩
theorem MC.calls{P:Program}{L f:Nat}{args:List A}{v:A}(h:MC P L f args [] (Plain v)){w:World}{ok:Nat→Prop}{vs:List Value}(hg:GOk P w ok)(ha:RAs L w ok (fun _=>.nil) args vs) :
    Calls P f vs.toArray w (lD fun x w'=>Below w.heap.size w w'∧∃ok' m',RA L w' ok' m' v x):=by
 refine Calls.mono (h.2 w (fun _=>.nil) [] ok vs hg .nil List.nodup_nil (fun b hb=>by cases hb) (fun _ _ _ _ h=>by cases h) ha) fun e w' he=>?_
 cases e with
 | returned x=>
  obtain⟨res,H',m',F',⟨rfl,rfl⟩,_,_,_,hres,hf,_,_⟩:=he
  exact⟨hf.below,_,_,hres⟩
 | _=>exact he.elim
theorem jX{L:Nat}(h1:4096≤L)(h2:L≤1073741824){v:Int}{w:World}{ok:Nat→Prop}(hg:GOk Tryz.prog w ok)(hv: -9223372036854775808≤v∧v≤9223372036854775807) :
    Calls Tryz.prog 12 #[.int .i64 v,.int .i64 (-1000000000),.int .i64 1000000000] w fun e w'=>e= .returned (.bool (cQ (-1000000000) 1000000000 v))∧Below w.heap.size w w':=by
 refine Calls.mono ((iu (x:=v) (lo:= -1000000000) (hi:=1000000000) h1 h2).calls hg (vs:=[.int .i64 v,.int .i64 (-1000000000),.int .i64 1000000000]) (.cons (.c (.d (.int hv.1 hv.2))) (.cons (.c (.d (.int (by decide) (by decide)))) (.cons (.c (.d (.int (by decide) (by decide)))) .nil)))) fun e w' he=>?_
 cases e with
 | returned x=>
  obtain⟨hB,_,_,hr⟩:=he
  exact⟨by rw[hr.bool_inv],hB⟩
 | _=>exact he.elim
theorem ng{L:Nat}(h1:4096≤L)(h2:L≤1073741824){v:Int}{w:World}{ok:Nat→Prop}(hg:GOk Tryz.prog w ok)(hv: -9223372036854775808≤v∧v≤9223372036854775807) :
    Calls Tryz.prog 99 #[.int .i64 v] w fun e w'=>e= .returned (.string (bS (Lib.itoa v)))∧Below w.heap.size w w':=by
 refine Calls.mono ((lO (n:=v) h1 h2 hv.1 hv.2).calls hg (vs:=[.int .i64 v]) (.cons (.c (.d (.int hv.1 hv.2))) .nil)) fun e w' he=>?_
 cases e with
 | returned x=>
  obtain⟨hB,_,_,hr⟩:=he
  exact⟨by rw[hr.str_inv.1],hB⟩
 | _=>exact he.elim
theorem nJ{s:ByteArray}{w:World}{v:Int}{tp:TypeId}(hP:Calls Tryz.prog 134 #[.string s,.int .i64 10,.int .i64 64] w fun e w'=> ∃p,e= .returned (.tuple #[.int .i64 v,.iface tp p])∧Below w.heap.size w w') :
    Calls Tryz.prog 86 #[.string s] w fun e w'=>e= .returned (.tuple #[.int .i64 0,.bool false])∧Below w.heap.size w w':=by
 go_enter Tryz.func86,Tryz.ntmps86
 go_wp2_with fail
 refine hP.mono fun e W1 ⟨p,he,hB⟩=>?_
 subst he
 go_wp2_with fail
 go_ret2
 exact⟨Z,hB⟩
theorem t6{s:ByteArray}{w:World}{v:Int}(hP:Calls Tryz.prog 134 #[.string s,.int .i64 10,.int .i64 64] w fun e w'=>e= .returned (.tuple #[.int .i64 v,.nilIface])∧Below w.heap.size w w')
    (hI: ∀W1,Below w.heap.size w W1→Calls Tryz.prog 12 #[.int .i64 v,.int .i64 (-1000000000),.int .i64 1000000000] W1 fun e w'=>e= .returned (.bool false)∧Below W1.heap.size W1 w') :
    Calls Tryz.prog 86 #[.string s] w fun e w'=>e= .returned (.tuple #[.int .i64 0,.bool false])∧Below w.heap.size w w':=by
 go_enter Tryz.func86,Tryz.ntmps86
 go_wp2_with fail
 refine hP.mono fun e W1 ⟨he,hB⟩=>?_
 subst he
 go_wp2_with fail
 refine(hI W1 hB).mono fun e W2 ⟨he,hB2⟩=>?_
 subst he
 go_wp2_with fail
 go_ret2
 exact⟨Z,hB.trans (hB2.mono hB.size)⟩
theorem vk{w:World}{v:Int}{s d:ByteArray}(hs:d=s)(hP:Calls Tryz.prog 134 #[.string s,.int .i64 10,.int .i64 64] w fun e w'=>e= .returned (.tuple #[.int .i64 v,.nilIface])∧Below w.heap.size w w')
    (hI: ∀W1,Below w.heap.size w W1→Calls Tryz.prog 12 #[.int .i64 v,.int .i64 (-1000000000),.int .i64 1000000000] W1 fun e w'=>e= .returned (.bool true)∧Below W1.heap.size W1 w')
    (hD: ∀W1,Below w.heap.size w W1→Calls Tryz.prog 99 #[.int .i64 v] W1 fun e w'=>e= .returned (.string d)∧Below W1.heap.size W1 w') :
    Calls Tryz.prog 86 #[.string s] w fun e w'=>e= .returned (.tuple #[.int .i64 v,.bool true])∧Below w.heap.size w w':=by
 subst hs
 go_enter Tryz.func86,Tryz.ntmps86
 go_wp2_with fail
 refine hP.mono fun e W1 ⟨he,hB⟩=>?_
 subst he
 go_wp2_with fail
 refine(hI W1 hB).mono fun e W2 ⟨he,hB2⟩=>?_
 subst he
 have hB3:=hB.trans (hB2.mono hB.size)
 go_wp2_with fail
 refine(hD W2 hB3).mono fun e W3 ⟨he,hB4⟩=>?_
 subst he
 have hB5:=hB3.trans (hB4.mono hB3.size)
 go_wp2_with fail
 go_ret2
 exact⟨Z,hB5⟩
theorem vj{w:World}{v:Int}{s d:ByteArray}(hs:(!d.toList==s.toList)=true)(hP:Calls Tryz.prog 134 #[.string s,.int .i64 10,.int .i64 64] w fun e w'=>e= .returned (.tuple #[.int .i64 v,.nilIface])∧Below w.heap.size w w')
    (hI: ∀W1,Below w.heap.size w W1→Calls Tryz.prog 12 #[.int .i64 v,.int .i64 (-1000000000),.int .i64 1000000000] W1 fun e w'=>e= .returned (.bool true)∧Below W1.heap.size W1 w')
    (hD: ∀W1,Below w.heap.size w W1→Calls Tryz.prog 99 #[.int .i64 v] W1 fun e w'=>e= .returned (.string d)∧Below W1.heap.size W1 w') :
    Calls Tryz.prog 86 #[.string s] w fun e w'=>e= .returned (.tuple #[.int .i64 0,.bool false])∧Below w.heap.size w w':=by
 go_enter Tryz.func86,Tryz.ntmps86
 go_wp2_with fail
 refine hP.mono fun e W1 ⟨he,hB⟩=>?_
 subst he
 go_wp2_with fail
 refine(hI W1 hB).mono fun e W2 ⟨he,hB2⟩=>?_
 subst he
 have hB3:=hB.trans (hB2.mono hB.size)
 go_wp2_with fail
 refine(hD W2 hB3).mono fun e W3 ⟨he,hB4⟩=>?_
 subst he
 have hB5:=hB3.trans (hB4.mono hB3.size)
 go_wp2_with fail
 go_ret2
 exact⟨Z,hB5⟩
theorem nC{s:Str}(hs:s.length≤1100000):MQ h1 h2 86 [aS8 s] [] (Plain (uT (dz s))):=by
 refine jj ⟨_,_,Tryz.func86,by kernel_rfl,Z⟩ fun w ok m vs h0 h5=>?_
 cases h5 with
 | cons a1 a2=>
  cases a2
  obtain⟨rfl,hsL⟩:=RA.str_inv a1
  have hsz:(bS s).size≤1100000:=by rw[bS_size];exact hs
  have hdl:(bS s).data.toList=s:=fX s
  have fin: ∀{n:Int} {b:Bool} {e w'},(-9223372036854775808≤n∧n≤9223372036854775807)→e=Ending.returned (.tuple #[.int .i64 n,.bool b])∧Below w.heap.size w w'→uT (dz s)= .tup [eI n,eB b]→lD (fun x w'=>Frame w w' []∧∀ok' m',(∀b,w.heap.size≤b→ok' b)→RA L w' ok' m' (uT (dz s)) x) e w':=by
   rintro n b e w' hn ⟨rfl,hB⟩ hv
   rw[hv]
   exact⟨.of_below hB,fun ok' m' _=>.tup (.cons (.c (.d (.int hn.1 hn.2))) (.cons (.c (.d .bool)) .nil))⟩
  cases hp:Lib.parseIntB 64 s
  case ok v=>
   have hb:=Lib.parseIntB_bounds hp
   have hb2: -9223372036854775808≤v∧v≤9223372036854775807:=by simp at hb;omega
   have hP:=(Tryz.strconv_ParseInt_10_at64_ok (bS s) (by omega) v (by rw[hdl];exact hp) w).mono (R':=fun e w'=>e= .returned (.tuple #[.int .i64 v,.nilIface])∧Below w.heap.size w w') fun e w' ⟨a,hw⟩=>⟨a,by
    rcases hw with rfl|⟨t,rfl⟩
    ·
     exact Below.refl _ _
    ·
     exact Lib.bytesWorld_below _ _ _⟩
   by_cases hr: -1000000000≤v∧v≤1000000000
   ·
    have hin:cQ (-1000000000) 1000000000 v=true:=by unfold cQ;simp[hr.1,hr.2]
    have hW:=fun(W1:World) (hB:Below w.heap.size w W1)=>show Calls Tryz.prog 12 #[.int .i64 v,.int .i64 (-1000000000),.int .i64 1000000000] W1 fun e w'=>e= .returned (.bool true)∧Below W1.heap.size W1 w' by have h:=jX h1 h2 (h0.below hB) hb2;rw[hin]at h;exact h
    have hD:=fun(W1:World) (hB:Below w.heap.size w W1)=>ng h1 h2 (h0.below hB) hb2
    have hd:(bS (Lib.itoa v)=bS s)↔Lib.itoa v=s:=⟨fun h=>by have:=congrArg (fun b=>b.data.toList) h;simpa[fX]using this,fun h=>by rw[h]⟩
    by_cases h9:Lib.itoa v=s
    ·
     refine Calls.mono (vk (hd.2 h9) hP hW hD) fun e w' he=>fin (by omega) he ?_
     unfold dz
     rw[hp]
     simp only[h9,hr,and_self,if_true];rfl
    ·
     refine Calls.mono (vj (by rw[iG,iG];simp[h9]) hP hW hD) fun e w' he=>fin (by decide) he ?_
     unfold dz
     rw[hp]
     simp only[h9,hr,and_false,if_false];rfl
   ·
    have hin:cQ (-1000000000) 1000000000 v=false:=by unfold cQ;simp;omega
    refine Calls.mono (t6 hP (fun W1 hB=>by have h:=jX h1 h2 (h0.below hB) hb2;rw[hin]at h;exact h)) fun e w' he=>fin (by decide) he ?_
    unfold dz
    rw[hp]
    simp only[hr,false_and,if_false];rfl
  case range=>
   obtain⟨_,cs,hv,hc⟩:=h0 "strconv.ErrRange" 2 (by simp[GN]) (by kernel_rfl)
   obtain⟨ev,he,hev⟩:=tW hc (.inr rfl)
   have hcell:=World.var?_cell (show Tryz.prog.globalNamed "strconv.ErrRange" = some 2 by kernel_rfl) hv 0
   rw[he]at hcell
   refine Calls.mono (nJ ((Tryz.strconv_ParseInt_10_at64_range (bS s) (by omega) (by rw[hdl];exact hp) ev w hcell hev).mono fun e w' ⟨N,a,_,_,hB⟩=>⟨_,a,hB⟩)) fun e w' he=>fin (by decide) he (by unfold dz;rw[hp];rfl)
  ·
   obtain⟨_,cs,hv,hc⟩:=h0 "strconv.ErrSyntax" 1 (by simp[GN]) (by kernel_rfl)
   obtain⟨ev,he,hev⟩:=tW hc (.inl rfl)
   have hcell:=World.var?_cell (show Tryz.prog.globalNamed "strconv.ErrSyntax" = some 1 by kernel_rfl) hv 0
   rw[he]at hcell
   refine Calls.mono (nJ ((Tryz.strconv_ParseInt_10_at64_syntax (bS s) (by omega) (by rw[hdl];exact hp) ev w hcell hev).mono fun e w' ⟨N,a,_,_,hB⟩=>⟨_,a,hB⟩)) fun e w' he=>fin (by decide) he (by unfold dz;rw[hp];rfl)
theorem qv{s:Str}(h:s≠[])(hb:s.getD 0 0=99):ly s=(match lz (s.drop 1)with
    | none=>(sf,false)
    | some ms=>(yp ms,true)):=by
  unfold ly;rw[if_neg h,if_pos hb]<;>rfl
theorem wn{s:Str}(h:s≠[])(hb:s.getD 0 0=115):ly s=(yo (cy (dD (s.drop 1))).1,(cy (dD (s.drop 1))).2):=by
 unfold ly;rw[if_neg h,if_neg (by rw[hb];decide),if_pos hb]
theorem wm{s:Str}(h:s≠[])(hb:s.getD 0 0=116):ly s=(yq (di (dz (s.drop 1))).1,(di (dz (s.drop 1))).2):=by
 unfold ly;rw[if_neg h,if_neg (by rw[hb];decide),if_neg (by rw[hb];decide),if_pos hb]
theorem qu{s:Str}(h:s≠[]→¬s.getD 0 0=99∧¬s.getD 0 0=115∧¬s.getD 0 0=116):ly s=(sf,false):=by
 unfold ly
 by_cases hs:s=[]
 rw[if_pos hs]
 obtain⟨h1,h2,h3⟩:=h hs
 rw[if_neg hs,if_neg h1,if_neg h2,if_neg h3]
theorem x4{s:Str}(hL:1048576<L)(hs:s.length≤1048576)(hne:s≠[])(hb:s.getD 0 0=99):MQ h1 h2 40 [aS8 s] [] (Plain (uJ (ly s))):=by
 refine MC.data (jB 71 h1 h2 Tryz.func40 Z fun O hF=>?_)
 refine ae (jl Z (aB ?_))
 refine js Z (jn (ag (ae (js Z (aa (Val.seq (p:=s) (q:=[]) O Z Z Z Z Z Z) Z (jn (ak Z (fun z15=>?_) (fun z15=>?_))))))))
 exact absurd (bc z15) hne
 refine af (ae (js Z ?_))
 have hdl:(s.drop 1).length≤1048576:=by rw[List.length_drop];omega
 refine aa ((bn (p:=s) (a:=1) (b:=s.length) O Z Z Z Z Z Z Z Z Z Z (bZ hne) (bQ _)).cast (v':=aS8 (s.drop 1)) (by rw[List.take_of_length_le (by rw[List.length_drop];omega)])) Z (js Z (jf [4,14,3,2,0] Z (jn (ag (ae (js Z (aa (aA (p:=s) (b:=s.getD 0 0) O Z Z Z Z Z Z Z (by omega) (aX (i:=0) (bZ hne))) Z (jn (am (ae (ac Z (jn (ak Z (fun z21=>?_) (fun z21=>?_))))))))))))))
 refine ae (js Z (jf [23,22,20,19,4,14,3,2,0] Z (jl Z (aB ?_))))
 refine jo Z (aB ?_)
 refine jn (ag (ae (js Z (aa (Val.seq (p:=s.drop 1) (q:=[]) O Z Z Z Z Z Z) Z (jn (ak Z (fun z25=>?_) (fun z25=>?_)))))))
 refine ae (js Z (jf [26,24,5,23,22,20,19,4,14,3,2,0] Z (jo Z (aB ?_))))
 refine js Z (jr ?_)
 refine ay Z ?_
 rw[qv hne hb,show lz (s.drop 1)=some [] by unfold lz;rw[if_pos (bc z25)]]
 exact .tup (.cons (.agg (.cons .d (.cons .d (.cons .d (.cons .nils (.cons .nils .nil)))))) (.cons (.c .d) .nil))
 refine af (ag (ae ?_))
 have hne1:s.drop 1≠[]:=bw z25
 have hQ0:=eb 44 (s.drop 1)
 refine js Z (jf [27,24,5,23,22,20,19,4,14,3,2,0] Z (aw O Z Z Z Z ((nE (s:=s.drop 1) (sep:=[44]) h1 h2 (by simp) (by rw[dZ];omega)).plain (v:=_) (u:=.c (.d (strs (aS 44 (s.drop 1))))) (by rw[dZ])) (ah Z) Z Z Z Z (B0:=29000) Z Z ?_))
 first|refine cm Z ?_|refine js Z ?_|refine aU Z Z ?_
 refine js Z (jn (am (av (X:=Nat×List Int) (fun z=>⟨[(2,.c (.pt 2 0 0)),(5,.c (.pt 5 0 0)),(28,.c (.d (strs (aS 44 (s.drop 1))))),(29,eI (aS 44 (s.drop 1)).length),(30,eI (z.1:Nat))],[(2,.box [.d (.int .i64 0),.d (.int .i64 0),.d (.int .i64 0),.d .nils,.d .nils]),(5,.box [.d (.int .i64 1),.d (.int .i64 0),.d (.int .i64 0),.d .nils,.rs 900 0 z.2.length]),(900,.row false 1 (z.2.map (fun n=>[D.int .i64 n])))]⟩) (fun z=>z.1≤(aS 44 (s.drop 1)).length∧z.2.length=z.1∧bB dz ((aS 44 (s.drop 1)).take z.1)=some z.2) (fun z=>(aS 44 (s.drop 1)).length-z.1) (0,[]) ((ap 5 900 1 false 4 Z Z Z).trans (Ent.to ⟨Z,Z,Z,Z,Z,ao⟩ Z)) ?_ (fun z hi=>?_))))
 exact⟨ca _,Z,Z⟩
 refine ae (js Z (jn (ag (ak Z (fun z31=>?_) (fun z31=>?_)))))
 refine af (ag (am (ae ?_)))
 have hi0:z.1<(aS 44 (s.drop 1)).length:=by have:=bc z31;omega
 have hpl:((aS 44 (s.drop 1)).getD z.1 default).length≤1048576:=by
  have h9:((aS 44 (s.drop 1)).getD z.1 default)∈(aS 44 (s.drop 1)):=by rw[getD_lt hi0];exact List.getElem_mem hi0
  have:=i8 _ h9;omega
 obtain⟨n,hn⟩: ∃n,n=(di (dz ((aS 44 (s.drop 1)).getD z.1 default))).1:=⟨_,rfl⟩
 obtain⟨nB,hnB⟩: ∃b,b=(di (dz ((aS 44 (s.drop 1)).getD z.1 default))).2:=⟨_,rfl⟩
 refine aa (aE O Z Z Z Z Z Z Z Z (cb (by omega))) Z (ac Z (jf [7,31,2,5,28,29,30] Z (be (js Z (jf [35,31,2,5,28,29,30] Z (aw O Z Z Z Z ((nC (s:=((aS 44 (s.drop 1)).getD z.1 default)) h1 h2 (by omega)).plain (v:=_) (u:=.tup [eI n,eB nB]) (by rw[hn,hnB])) (ah Z) Z Z Z Z (B0:=37000) Z Z (aM Z (js Z (jf [9,8,31,2,5,28,29,30] Z (jn (ag (ae (ac Z (jf [40,8,31,2,5,28,29,30] Z (jn (ak Z (fun z40=>?_) (fun z40=>?_)))))))))))))))))
 refine ae (js Z (jo Z (aB ?_)))
 refine js Z (jr ?_)
 refine ay Z ?_
 have hx:dz ((aS 44 (s.drop 1)).getD z.1 default)=none:=pq (by rw[←hnB];simpa using z40)
 have hq:(aS 44 (s.drop 1))=(aS 44 (s.drop 1)).take z.1++((aS 44 (s.drop 1)).getD z.1 default)::(aS 44 (s.drop 1)).drop (z.1+1):=by conv=>lhs;rw[←List.take_append_drop z.1 (aS 44 (s.drop 1)),List.drop_eq_getElem_cons hi0,←getD_lt hi0]
 have hms:lz (s.drop 1)=none:=by unfold lz;rw[if_neg hne1,hq];exact ej hx
 rw[qv hne hb,hms]
 exact .tup (.cons (.agg (.cons .d (.cons .d (.cons .d (.cons .nils (.cons .nils .nil)))))) (.cons (.c .d) .nil))
 refine af (ab ?_)
 have hok1:dz ((aS 44 (s.drop 1)).getD z.1 default)=some n:=by rw[hn];exact pp (by rw[←hnB];simpa using z40)
 refine aF Z (jf [44,43,40,31,2,5,28,29,30] Z (aY (bL O Z Z Z Z Z Z Z Z Z Z Z) Z (aB ?_)))
 refine jf [45,43,40,31,2,5,28,29,30] Z (aY (cZ (own:=false) (xs:=z.2.map (fun n=>[D.int .i64 n])) (ys:=[[.int .i64 n]]) (zs:=(z.2++[n]).map (fun n=>[D.int .i64 n])) (n:=(z.2++[n]).length) O Z (.row Z (bd _).symm) (.whole Z Z (.inr ⟨Z,Z⟩)) (by simp) Z (by simp;omega) (by simp;omega) (by simp) (by simp)) Z (aB ?_))
 refine aB ?_
 refine js Z (jf [47,46,40,31,2,5,28,29,30] Z (jo Z (aB ?_)))
 refine jf [40,31,2,5,28,29,30] Z (jn (ab ?_))
 first|refine ji Z ?_|refine aU Z Z ?_
 refine js Z (jn ?_)
 refine⟨(z.1+1,z.2++[n]),((aC [2,5,46] (e':=[(2,_),(5,_),(28,_),(29,_),(30,_)]) Z Z ⟨Z,Z,Z,Z,Z,ao⟩ Z).trans (aL 46 900 Z Z)).trans (Ent.to ⟨Z,Z,Z,Z,Z,ao⟩ Z),⟨by show z.1+1≤_;omega,by show(z.2++[n]).length=z.1+1;rw[bP,hi.2.1];rfl,?_⟩,by show(aS 44 (s.drop 1)).length-(z.1+1)<(aS 44 (s.drop 1)).length-z.1;omega⟩
 show bB dz ((aS 44 (s.drop 1)).take (z.1+1))=some (z.2++[n])
 rw[List.take_succ_eq_append_getElem hi0,←getD_lt hi0]
 exact dL hi.2.2 hok1
 refine aJ (ae (js Z (jo Z (aB ?_))))
 refine js Z (jr ?_)
 refine ay Z ?_
 have hz1:z.1=(aS 44 (s.drop 1)).length:=by have:=bw z31;omega
 have hall:=hi.2.2
 rw[hz1,List.take_length]at hall
 rw[qv hne hb,wB hne1 hall]
 exact .tup (.cons (.agg (.cons .d (.cons .d (.cons .d (.cons .nils (.cons (.whole Z (bd _).symm) .nil)))))) (.cons (.c .d) .nil))
 exact absurd (ff (n:=99) (by decide) hb) (bw z21)
theorem x3{s:Str}(hL:1048576<L)(hs:s.length≤1048576)(hne:s≠[])(hb:s.getD 0 0=115):MQ h1 h2 40 [aS8 s] [] (Plain (uJ (ly s))):=by
 refine MC.data (jB 71 h1 h2 Tryz.func40 Z fun O hF=>?_)
 refine ae (jl Z (aB ?_))
 refine js Z (jn (ag (ae (js Z (aa (Val.seq (p:=s) (q:=[]) O Z Z Z Z Z Z) Z (jn (ak Z (fun z15=>?_) (fun z15=>?_))))))))
 exact absurd (bc z15) hne
 refine af (ae (js Z ?_))
 have hdl:(s.drop 1).length≤1048576:=by rw[List.length_drop];omega
 refine aa ((bn (p:=s) (a:=1) (b:=s.length) O Z Z Z Z Z Z Z Z Z Z (bZ hne) (bQ _)).cast (v':=aS8 (s.drop 1)) (by rw[List.take_of_length_le (by rw[List.length_drop];omega)])) Z (js Z (jf [4,14,3,2,0] Z (jn (ag (ae (js Z (aa (aA (p:=s) (b:=s.getD 0 0) O Z Z Z Z Z Z Z (by omega) (aX (i:=0) (bZ hne))) Z (jn (am (ae (ac Z (jn (ak Z (fun z21=>?_) (fun z21=>?_))))))))))))))
 exact absurd (bc z21) (c8 (n:=99) (by decide) (by rw[hb];decide))
 refine ae (ac Z (jf [50,22,20,19,4,14,3,2,0] Z (jn (ak Z (fun z50=>?_) (fun z50=>?_)))))
 refine ae ?_
 obtain⟨t,ht⟩: ∃t,t=(cy (dD (s.drop 1))).1:=⟨_,rfl⟩
 obtain⟨tB,htB⟩: ∃b,b=(cy (dD (s.drop 1))).2:=⟨_,rfl⟩
 refine js Z (jf [53,22,20,19,4,14,3,2,0] Z (aw O Z Z Z Z ((Aj (s:=s.drop 1) h1 h2 (by omega)).plain (v:=_) (u:=.tup [i7 t,eB tB]) (by rw[ht,htB])) (ah Z) Z Z Z Z (B0:=55000) Z Z (aF Z (jf [56,55,22,20,19,4,14,3,2,0] Z (jl Z (aB ?_))))))
 refine jo Z (aB ?_)
 refine js Z (jf [11,10,22,20,19,4,14,3,2,0] Z (be (aF Z (jf [59,58,10,22,20,19,4,14,3,2,0] Z (jo Z (aB ?_))))))
 refine js Z (jf [3,10,22,20,19,4,14,2,0] Z (jr ?_))
 refine ay Z ?_
 rw[wn hne hb,←ht,←htB]
 exact .tup (.cons (.agg (.cons .d (.cons .d (.cons .d (.cons .d (.cons .nils .nil)))))) (.cons (.c .d) .nil))
 exact absurd (ff (n:=115) (by decide) hb) (bw z50)
theorem x2{s:Str}(hL:1048576<L)(hs:s.length≤1048576)(hne:s≠[])(hb:s.getD 0 0=116):MQ h1 h2 40 [aS8 s] [] (Plain (uJ (ly s))):=by
 refine MC.data (jB 71 h1 h2 Tryz.func40 Z fun O hF=>?_)
 refine ae (jl Z (aB ?_))
 refine js Z (jn (ag (ae (js Z (aa (Val.seq (p:=s) (q:=[]) O Z Z Z Z Z Z) Z (jn (ak Z (fun z15=>?_) (fun z15=>?_))))))))
 exact absurd (bc z15) hne
 refine af (ae (js Z ?_))
 have hdl:(s.drop 1).length≤1048576:=by rw[List.length_drop];omega
 refine aa ((bn (p:=s) (a:=1) (b:=s.length) O Z Z Z Z Z Z Z Z Z Z (bZ hne) (bQ _)).cast (v':=aS8 (s.drop 1)) (by rw[List.take_of_length_le (by rw[List.length_drop];omega)])) Z (js Z (jf [4,14,3,2,0] Z (jn (ag (ae (js Z (aa (aA (p:=s) (b:=s.getD 0 0) O Z Z Z Z Z Z Z (by omega) (aX (i:=0) (bZ hne))) Z (jn (am (ae (ac Z (jn (ak Z (fun z21=>?_) (fun z21=>?_))))))))))))))
 exact absurd (bc z21) (c8 (n:=99) (by decide) (by rw[hb];decide))
 refine ae (ac Z (jf [50,22,20,19,4,14,3,2,0] Z (jn (ak Z (fun z50=>?_) (fun z50=>?_)))))
 exact absurd (bc z50) (c8 (n:=115) (by decide) (by rw[hb];decide))
 refine ae (ac Z (jf [60,22,20,19,4,14,3,2,0] Z (jn (ak Z (fun z60=>?_) (fun z60=>?_)))))
 refine ae ?_
 obtain⟨t,ht⟩: ∃t,t=(di (dz (s.drop 1))).1:=⟨_,rfl⟩
 obtain⟨tB,htB⟩: ∃b,b=(di (dz (s.drop 1))).2:=⟨_,rfl⟩
 refine js Z (jf [63,22,20,19,4,14,3,2,0] Z (aw O Z Z Z Z ((nC (s:=s.drop 1) h1 h2 (by omega)).plain (v:=_) (u:=.tup [eI t,eB tB]) (by rw[ht,htB])) (ah Z) Z Z Z Z (B0:=65000) Z Z (aM Z (js Z (jf [13,12,22,20,19,4,14,3,2,0] Z (be (aF Z (jf [69,68,22,20,19,4,14,3,2,0] Z (jo Z (aB ?_))))))))))
 refine js Z (jf [3,22,20,19,4,14,2,0] Z (jr ?_))
 refine ay Z ?_
 rw[wm hne hb,←ht,←htB]
 exact .tup (.cons (.agg (.cons .d (.cons .d (.cons .d (.cons .nils (.cons .nils .nil)))))) (.cons (.c .d) .nil))
 exact absurd (ff (n:=116) (by decide) hb) (bw z60)
theorem tP{s:Str}(hL:1048576<L)(hs:s.length≤1048576)(hn:s≠[]→¬s.getD 0 0=99∧¬s.getD 0 0=115∧¬s.getD 0 0=116):MQ h1 h2 40 [aS8 s] [] (Plain (uJ (ly s))):=by
 refine MC.data (jB 71 h1 h2 Tryz.func40 Z fun O hF=>?_)
 refine ae (jl Z (aB ?_))
 refine js Z (jn (ag (ae (js Z (aa (Val.seq (p:=s) (q:=[]) O Z Z Z Z Z Z) Z (jn (ak Z (fun z15=>?_) (fun z15=>?_))))))))
 refine ae (js Z (jf [16,14,3,2,0] Z (jo Z (aB ?_))))
 refine js Z (jr ?_)
 refine ay Z ?_
 rw[qu hn]
 exact .tup (.cons (.agg (.cons .d (.cons .d (.cons .d (.cons .nils (.cons .nils .nil)))))) (.cons (.c .d) .nil))
 refine af (ae (js Z ?_))
 have hne:s≠[]:=bw z15
 have hdl:(s.drop 1).length≤1048576:=by rw[List.length_drop];omega
 refine aa ((bn (p:=s) (a:=1) (b:=s.length) O Z Z Z Z Z Z Z Z Z Z (bZ hne) (bQ _)).cast (v':=aS8 (s.drop 1)) (by rw[List.take_of_length_le (by rw[List.length_drop];omega)])) Z (js Z (jf [4,14,3,2,0] Z (jn (ag (ae (js Z (aa (aA (p:=s) (b:=s.getD 0 0) O Z Z Z Z Z Z Z (by omega) (aX (i:=0) (bZ hne))) Z (jn (am (ae (ac Z (jn (ak Z (fun z21=>?_) (fun z21=>?_))))))))))))))
 exact absurd (bc z21) (c8 (n:=99) (by decide) (hn hne).1)
 refine ae (ac Z (jf [50,22,20,19,4,14,3,2,0] Z (jn (ak Z (fun z50=>?_) (fun z50=>?_)))))
 exact absurd (bc z50) (c8 (n:=115) (by decide) (hn hne).2.1)
 refine ae (ac Z (jf [60,22,20,19,4,14,3,2,0] Z (jn (ak Z (fun z60=>?_) (fun z60=>?_)))))
 exact absurd (bc z60) (c8 (n:=116) (by decide) (hn hne).2.2)
 refine af (ae (js Z (jf [70,22,20,19,4,14,3,2,0] Z (jo Z (aB ?_)))))
 refine js Z (jr ?_)
 refine ay Z ?_
 rw[qu hn]
 exact .tup (.cons (.agg (.cons .d (.cons .d (.cons .d (.cons .nils (.cons .nils .nil)))))) (.cons (.c .d) .nil))
theorem Ae{L:Nat}(h1:4096≤L)(h2:L≤1073741824){s:Str}(hL:1048576<L)(hs:s.length≤1048576):MC Tryz.prog L 40 [aS8 s] [] (Plain (uJ (ly s))):=by
 by_cases hne:s=[]
 exact tP h1 h2 hL hs (fun h=>absurd hne h)
 by_cases h99:s.getD 0 0=99
 exact x4 h1 h2 hL hs hne h99
 by_cases h115:s.getD 0 0=115
 exact x3 h1 h2 hL hs hne h115
 by_cases h116:s.getD 0 0=116
 exact x2 h1 h2 hL hs hne h116
 exact tP h1 h2 hL hs (fun _=>⟨h99,h115,h116⟩)
theorem jm{s:Str}{x:Nd}(h:iW s=some x):s≠[]∧((s.getD 0 0=99∧∃ms,lz (s.drop 1)=some ms∧x=yp ms)∨(s.getD 0 0=115∧∃t,dD (s.drop 1)=some t∧x=yo t)∨(s.getD 0 0=116∧∃n,dz (s.drop 1)=some n∧x=yq n)):=by
 have hne:s≠[]:=fun e=>by
  unfold iW at h
  rw[qu (fun h9=>absurd e h9)]at h
  cases h
 refine⟨hne,?_⟩
 unfold iW at h
 by_cases h99:s.getD 0 0=99
 rw[qv hne h99]at h
 cases hm:lz (s.drop 1)with
 | none=>rw[hm]at h;cases h
 | some ms=>rw[hm]at h;exact .inl ⟨h99,ms,rfl,(Option.some.inj h).symm⟩
 by_cases h115:s.getD 0 0=115
 rw[wn hne h115]at h
 cases hm:dD (s.drop 1)with
 | none=>rw[hm]at h;cases h
 | some t=>rw[hm]at h;exact .inr (.inl ⟨h115,t,rfl,(Option.some.inj h).symm⟩)
 by_cases h116:s.getD 0 0=116
 rw[wm hne h116]at h
 cases hm:dz (s.drop 1)with
 | none=>rw[hm]at h;cases h
 | some n=>rw[hm]at h;exact .inr (.inr ⟨h116,n,rfl,(Option.some.inj h).symm⟩)
 rw[qu (fun _=>⟨h99,h115,h116⟩)]at h
 cases h
theorem wC{r:Str}{ms:List Int}(h:lz r=some ms):(r=[]∧ms=[])∨(r≠[]∧bB dz (aS 44 r)=some ms∧ms≠[]):=by
 unfold lz at h
 split at h
 rename_i h2;cases h;exact .inl ⟨h2,rfl⟩
 rename_i h2
 refine .inr ⟨h2,h,fun e=>?_⟩
 have h3:=gq h
 rw[e]at h3
 exact pm 44 r (List.length_eq_zero_iff.1 h3.symm)
theorem vV{s:Str}{ms:List Int}(hL:1048576<L)(hs:s.length≤1048576)(hne:s≠[])(hb:s.getD 0 0=99)(hr:s.drop 1≠[])(hms:bB dz (aS 44 (s.drop 1))=some ms):MQ h1 h2 40 [aS8 s] [] (Rows (.tup [.agg [.d (.int .i64 1),.d (.int .i64 0),.d (.int .i64 0),.d .nils,.rs 0 0 ms.length],eB true]) [cL ms]):=by
 refine cK (jB 71 h1 h2 Tryz.func40 Z fun O hF=>?_)
 refine ae (jl Z (aB ?_))
 refine js Z (jn (ag (ae (js Z (aa (Val.seq (p:=s) (q:=[]) O Z Z Z Z Z Z) Z (jn (ak Z (fun z15=>?_) (fun z15=>?_))))))))
 exact absurd (bc z15) hne
 refine af (ae (js Z ?_))
 have hdl:(s.drop 1).length≤1048576:=by rw[List.length_drop];omega
 refine aa ((bn (p:=s) (a:=1) (b:=s.length) O Z Z Z Z Z Z Z Z Z Z (bZ hne) (bQ _)).cast (v':=aS8 (s.drop 1)) (by rw[List.take_of_length_le (by rw[List.length_drop];omega)])) Z (js Z (jf [4,14,3,2,0] Z (jn (ag (ae (js Z (aa (aA (p:=s) (b:=s.getD 0 0) O Z Z Z Z Z Z Z (by omega) (aX (i:=0) (bZ hne))) Z (jn (am (ae (ac Z (jn (ak Z (fun z21=>?_) (fun z21=>?_))))))))))))))
 refine ae (js Z (jf [23,22,20,19,4,14,3,2,0] Z (jl Z (aB ?_))))
 refine jo Z (aB ?_)
 refine jn (ag (ae (js Z (aa (Val.seq (p:=s.drop 1) (q:=[]) O Z Z Z Z Z Z) Z (jn (ak Z (fun z25=>?_) (fun z25=>?_)))))))
 exact absurd (bc z25) hr
 refine af (ag (ae ?_))
 have hQ0:=eb 44 (s.drop 1)
 refine js Z (jf [27,24,5,23,22,20,19,4,14,3,2,0] Z (aw O Z Z Z Z ((nE (s:=s.drop 1) (sep:=[44]) h1 h2 (by simp) (by rw[dZ];omega)).plain (v:=_) (u:=.c (.d (strs (aS 44 (s.drop 1))))) (by rw[dZ])) (ah Z) Z Z Z Z (B0:=29000) Z Z ?_))
 first|refine cm Z ?_|refine js Z ?_|refine aU Z Z ?_
 refine js Z (jn (am (av (X:=Nat×List Int) (fun z=>⟨[(2,.c (.pt 2 0 0)),(5,.c (.pt 5 0 0)),(28,.c (.d (strs (aS 44 (s.drop 1))))),(29,eI (aS 44 (s.drop 1)).length),(30,eI (z.1:Nat))],[(2,.box [.d (.int .i64 0),.d (.int .i64 0),.d (.int .i64 0),.d .nils,.d .nils]),(5,.box [.d (.int .i64 1),.d (.int .i64 0),.d (.int .i64 0),.d .nils,.rs 900 0 z.2.length]),(900,.row true 1 (z.2.map (fun n=>[D.int .i64 n])))]⟩) (fun z=>z.1≤(aS 44 (s.drop 1)).length∧z.2.length=z.1∧bB dz ((aS 44 (s.drop 1)).take z.1)=some z.2) (fun z=>(aS 44 (s.drop 1)).length-z.1) (0,[]) ((ap 5 900 1 true 4 Z Z Z).trans (Ent.to ⟨Z,Z,Z,Z,Z,ao⟩ Z)) ?_ (fun z hi=>?_))))
 exact⟨ca _,Z,Z⟩
 refine ae (js Z (jn (ag (ak Z (fun z31=>?_) (fun z31=>?_)))))
 refine af (ag (am (ae ?_)))
 have hi0:z.1<(aS 44 (s.drop 1)).length:=by have:=bc z31;omega
 have hpl:((aS 44 (s.drop 1)).getD z.1 default).length≤1048576:=by
  have h9:((aS 44 (s.drop 1)).getD z.1 default)∈(aS 44 (s.drop 1)):=by rw[getD_lt hi0];exact List.getElem_mem hi0
  have:=i8 _ h9;omega
 have hn0:dz ((aS 44 (s.drop 1)).getD z.1 default)≠none:=fun h=>by
  have hq:(aS 44 (s.drop 1))=(aS 44 (s.drop 1)).take z.1++((aS 44 (s.drop 1)).getD z.1 default)::(aS 44 (s.drop 1)).drop (z.1+1):=by conv=>lhs;rw[←List.take_append_drop z.1 (aS 44 (s.drop 1)),List.drop_eq_getElem_cons hi0,←getD_lt hi0]
  rw[hq,ej h]at hms
  cases hms
 obtain⟨n,hok1⟩:=Option.ne_none_iff_exists'.1 hn0
 refine aa (aE O Z Z Z Z Z Z Z Z (cb (by omega))) Z (ac Z (jf [7,31,2,5,28,29,30] Z (be (js Z (jf [35,31,2,5,28,29,30] Z (aw O Z Z Z Z ((nC (s:=((aS 44 (s.drop 1)).getD z.1 default)) h1 h2 (by omega)).plain (v:=_) (u:=.tup [eI n,eB true]) (by rw[hok1];rfl)) (ah Z) Z Z Z Z (B0:=37000) Z Z (aM Z (js Z (jf [9,8,31,2,5,28,29,30] Z (jn (ag (ae (ac Z (jf [40,8,31,2,5,28,29,30] Z (jn (ak Z (fun z40=>?_) (fun z40=>?_)))))))))))))))))
 exact oY z40
 refine af (ab (aF Z (jf [44,43,40,31,2,5,28,29,30] Z (aY (HS.lit O Z Z Z) Z (aB ?_)))))
 refine jf [45,43,40,31,2,5,28,29,30] Z (aY (bI (zs:=(z.2++[n]).map (fun n=>[D.int .i64 n])) (n:=(z.2++[n]).length) O Z Z Z Z Z Z Z Z Z Z Z Z Z Z Z Z (.row Z (bd _).symm) Z Z (by decide) Z (by simp;omega) (by simp;omega) (by simp) (by simp)) Z (aB ?_))
 refine aB ?_
 refine js Z (jf [47,46,40,31,2,5,28,29,30] Z (jo Z (aB ?_)))
 refine jf [40,31,2,5,28,29,30] Z (jn (ab ?_))
 first|refine ji Z ?_|refine aU Z Z ?_
 refine js Z (jn ?_)
 refine⟨(z.1+1,z.2++[n]),((aC [2,5,46] (e':=[(2,_),(5,_),(28,_),(29,_),(30,_)]) Z Z ⟨Z,Z,Z,Z,Z,ao⟩ Z).trans (aL 46 900 Z Z)).trans (Ent.to ⟨Z,Z,Z,Z,Z,ao⟩ Z),⟨by show z.1+1≤_;omega,by show(z.2++[n]).length=z.1+1;rw[bP,hi.2.1];rfl,?_⟩,by show(aS 44 (s.drop 1)).length-(z.1+1)<(aS 44 (s.drop 1)).length-z.1;omega⟩
 show bB dz ((aS 44 (s.drop 1)).take (z.1+1))=some (z.2++[n])
 rw[List.take_succ_eq_append_getElem hi0,←getD_lt hi0]
 exact dL hi.2.2 hok1
 refine aJ (ae (js Z (jo Z (aB ?_))))
 refine js Z (jr ?_)
 have hz1:z.1=(aS 44 (s.drop 1)).length:=by have:=bw z31;omega
 have hall:=hi.2.2
 rw[hz1,List.take_length,hms]at hall
 obtain rfl:=Option.some.inj hall
 refine⟨.inl Z,_,cY,_,Z,[900],by decide,Z,Z,Z⟩
 exact absurd (ff (n:=99) (by decide) hb) (bw z21)
theorem vS{s:Str}(hL:1048576<L)(hs:s.length≤1048576)(hne:s≠[])(hb:s.getD 0 0=99)(hr:s.drop 1=[]):MQ h1 h2 40 [aS8 s] [] (Plain (.tup [.agg [.d (.int .i64 1),.d (.int .i64 0),.d (.int .i64 0),.d .nils,.d .nils],eB true])):=by
 refine MC.data (jB 71 h1 h2 Tryz.func40 Z fun O hF=>?_)
 refine ae (jl Z (aB ?_))
 refine js Z (jn (ag (ae (js Z (aa (Val.seq (p:=s) (q:=[]) O Z Z Z Z Z Z) Z (jn (ak Z (fun z15=>?_) (fun z15=>?_))))))))
 exact absurd (bc z15) hne
 refine af (ae (js Z ?_))
 have hdl:(s.drop 1).length≤1048576:=by rw[List.length_drop];omega
 refine aa ((bn (p:=s) (a:=1) (b:=s.length) O Z Z Z Z Z Z Z Z Z Z (bZ hne) (bQ _)).cast (v':=aS8 (s.drop 1)) (by rw[List.take_of_length_le (by rw[List.length_drop];omega)])) Z (js Z (jf [4,14,3,2,0] Z (jn (ag (ae (js Z (aa (aA (p:=s) (b:=s.getD 0 0) O Z Z Z Z Z Z Z (by omega) (aX (i:=0) (bZ hne))) Z (jn (am (ae (ac Z (jn (ak Z (fun z21=>?_) (fun z21=>?_))))))))))))))
 refine ae (js Z (jf [23,22,20,19,4,14,3,2,0] Z (jl Z (aB ?_))))
 refine jo Z (aB ?_)
 refine jn (ag (ae (js Z (aa (Val.seq (p:=s.drop 1) (q:=[]) O Z Z Z Z Z Z) Z (jn (ak Z (fun z25=>?_) (fun z25=>?_)))))))
 refine ae (js Z (jf [26,24,5,23,22,20,19,4,14,3,2,0] Z (jo Z (aB ?_))))
 refine js Z (jr ?_)
 refine ay Z ?_
 exact .tup (.cons (.agg (aW Z)) (.cons (.c .d) .nil))
 exact absurd hr (bw z25)
 exact absurd (ff (n:=99) (by decide) hb) (bw z21)
variable{t:Tm}
theorem vU{s:Str}(hL:1048576<L)(hs:s.length≤1048576)(hne:s≠[])(hb:s.getD 0 0=115)(ht:dD (s.drop 1)=some t):MQ h1 h2 40 [aS8 s] [] (Rows (.tup [.agg [.d (.int .i64 2),.d (.int .i64 0),.d (.int .i64 t.c),.rs 0 0 t.xs.length,.d .nils],eB true]) [cL t.xs]):=by
 refine cK (jB 71 h1 h2 Tryz.func40 Z fun O hF=>?_)
 refine ae (jl Z (aB ?_))
 refine js Z (jn (ag (ae (js Z (aa (Val.seq (p:=s) (q:=[]) O Z Z Z Z Z Z) Z (jn (ak Z (fun z15=>?_) (fun z15=>?_))))))))
 exact absurd (bc z15) hne
 refine af (ae (js Z ?_))
 have hdl:(s.drop 1).length≤1048576:=by rw[List.length_drop];omega
 refine aa ((bn (p:=s) (a:=1) (b:=s.length) O Z Z Z Z Z Z Z Z Z Z (bZ hne) (bQ _)).cast (v':=aS8 (s.drop 1)) (by rw[List.take_of_length_le (by rw[List.length_drop];omega)])) Z (js Z (jf [4,14,3,2,0] Z (jn (ag (ae (js Z (aa (aA (p:=s) (b:=s.getD 0 0) O Z Z Z Z Z Z Z (by omega) (aX (i:=0) (bZ hne))) Z (jn (am (ae (ac Z (jn (ak Z (fun z21=>?_) (fun z21=>?_))))))))))))))
 exact absurd (bc z21) (c8 (n:=99) (by decide) (by rw[hb];decide))
 refine ae (ac Z (jf [50,22,20,19,4,14,3,2,0] Z (jn (ak Z (fun z50=>?_) (fun z50=>?_)))))
 refine ae (js Z (jf [53,22,20,19,4,14,3,2,0] Z (bk O (B0:=55000) Z Z Z Z (x9 (s:=s.drop 1) (t:=t) h1 h2 (by omega) ht) (ah Z) Z Z Z Z Z Z (aB ?_))))
 refine aF Z (jf [56,55,22,20,19,4,14,3,2,0] Z (jl Z (aB ?_)))
 refine jo Z (aB ?_)
 refine js Z (jf [11,10,22,20,19,4,14,3,2,0] Z (be (aF Z (jf [59,58,10,22,20,19,4,14,3,2,0] Z (jo Z (aB ?_))))))
 refine js Z (jf [3,10,22,20,19,4,14,2,0] Z (jr ?_))
 refine⟨.inl Z,_,cY,_,Z,[55000],by decide,Z,Z,Z⟩
 exact absurd (ff (n:=115) (by decide) hb) (bw z50)
variable{n:Int}
theorem vT{s:Str}(hL:1048576<L)(hs:s.length≤1048576)(hne:s≠[])(hb:s.getD 0 0=116)(hn:dz (s.drop 1)=some n):MQ h1 h2 40 [aS8 s] [] (Plain (.tup [.agg [.d (.int .i64 3),.d (.int .i64 n),.d (.int .i64 0),.d .nils,.d .nils],eB true])):=by
 refine MC.data (jB 71 h1 h2 Tryz.func40 Z fun O hF=>?_)
 refine ae (jl Z (aB ?_))
 refine js Z (jn (ag (ae (js Z (aa (Val.seq (p:=s) (q:=[]) O Z Z Z Z Z Z) Z (jn (ak Z (fun z15=>?_) (fun z15=>?_))))))))
 exact absurd (bc z15) hne
 refine af (ae (js Z ?_))
 have hdl:(s.drop 1).length≤1048576:=by rw[List.length_drop];omega
 refine aa ((bn (p:=s) (a:=1) (b:=s.length) O Z Z Z Z Z Z Z Z Z Z (bZ hne) (bQ _)).cast (v':=aS8 (s.drop 1)) (by rw[List.take_of_length_le (by rw[List.length_drop];omega)])) Z (js Z (jf [4,14,3,2,0] Z (jn (ag (ae (js Z (aa (aA (p:=s) (b:=s.getD 0 0) O Z Z Z Z Z Z Z (by omega) (aX (i:=0) (bZ hne))) Z (jn (am (ae (ac Z (jn (ak Z (fun z21=>?_) (fun z21=>?_))))))))))))))
 exact absurd (bc z21) (c8 (n:=99) (by decide) (by rw[hb];decide))
 refine ae (ac Z (jf [50,22,20,19,4,14,3,2,0] Z (jn (ak Z (fun z50=>?_) (fun z50=>?_)))))
 exact absurd (bc z50) (c8 (n:=115) (by decide) (by rw[hb];decide))
 refine ae (ac Z (jf [60,22,20,19,4,14,3,2,0] Z (jn (ak Z (fun z60=>?_) (fun z60=>?_)))))
 refine ae (js Z (jf [63,22,20,19,4,14,3,2,0] Z (aw O Z Z Z Z ((nC (s:=s.drop 1) h1 h2 (by omega)).plain (v:=_) (u:=.tup [eI n,eB true]) (by rw[hn];rfl)) (ah Z) Z Z Z Z (B0:=65000) Z Z (aM Z (js Z (jf [13,12,22,20,19,4,14,3,2,0] Z (be (aF Z (jf [69,68,22,20,19,4,14,3,2,0] Z (jo Z (aB ?_)))))))))))
 refine js Z (jf [3,22,20,19,4,14,2,0] Z (jr ?_))
 refine ay Z ?_
 exact .tup (.cons (.agg (aW Z)) (.cons (.c .d) .nil))
 exact absurd (ff (n:=116) (by decide) hb) (bw z60)
theorem eW{L:Nat}(h1:4096≤L)(h2:L≤1073741824){s:Str}{x:Nd}(hL:1048576<L)(hs:s.length≤1048576)(hx:iW s=some x)(hk: ¬x.kind=2)(hm:x.mul≠[]):MC Tryz.prog L 40 [aS8 s] [] (Rows (.tup [.agg [.d (.int .i64 x.kind),.d (.int .i64 x.fact),.d (.int .i64 x.term.c),.d .nils,.rs 0 0 x.mul.length],eB true]) [cL x.mul])∧x.term.xs=[]:=by
 obtain⟨hne,h|h|h⟩:=jm hx
 obtain⟨hb,ms,h3,rfl⟩:=h
 rcases wC h3 with⟨h4,h5⟩|⟨h4,h5,h6⟩
 exact absurd h5 hm
 exact⟨vV h1 h2 hL hs hne hb h4 h5,Z⟩
 obtain⟨_,t,_,rfl⟩:=h;exact absurd rfl hk
 obtain⟨_,t,_,rfl⟩:=h;exact absurd rfl hm
theorem iF{L:Nat}(h1:4096≤L)(h2:L≤1073741824){s:Str}{x:Nd}(hL:1048576<L)(hs:s.length≤1048576)(hx:iW s=some x)(hk:x.kind=2):MC Tryz.prog L 40 [aS8 s] [] (Rows (.tup [.agg [.d (.int .i64 x.kind),.d (.int .i64 x.fact),.d (.int .i64 x.term.c),.rs 0 0 x.term.xs.length,.d .nils],eB true]) [cL x.term.xs])∧x.mul=[]:=by
 obtain⟨hne,h|h|h⟩:=jm hx
 obtain⟨hb,ms,h3,rfl⟩:=h;exact absurd hk (show¬(1:Int)=2 by decide)
 obtain⟨hb,t,ht,rfl⟩:=h;exact⟨vU h1 h2 hL hs hne hb ht,rfl⟩
 obtain⟨_,t,_,rfl⟩:=h;exact absurd hk (show¬(3:Int)=2 by decide)
theorem eX{L:Nat}(h1:4096≤L)(h2:L≤1073741824){s:Str}{x:Nd}(hL:1048576<L)(hs:s.length≤1048576)(hx:iW s=some x)(hk: ¬x.kind=2)(hm:x.mul=[]):MC Tryz.prog L 40 [aS8 s] [] (Plain (.tup [.agg [.d (.int .i64 x.kind),.d (.int .i64 x.fact),.d (.int .i64 x.term.c),.d .nils,.d .nils],eB true]))∧x.term.xs=[]:=by
 obtain⟨hne,h|h|h⟩:=jm hx
 obtain⟨hb,ms,h3,rfl⟩:=h
 rcases wC h3 with⟨h4,h5⟩|⟨h4,h5,h6⟩
 exact⟨vS h1 h2 hL hs hne hb h4,Z⟩
 exact absurd hm h6
 obtain⟨_,t,_,rfl⟩:=h;exact absurd rfl hk
 obtain⟨hb,n,hn,rfl⟩:=h;exact⟨vT h1 h2 hL hs hne hb hn,rfl⟩
set_option maxHeartbeats 8000000
theorem nO{T:Type}[Inhabited T]{rd:Str→Option T}: ∀{ss:List Str} {ts:List T} {i:Nat},bB rd ss=some ts→i<ss.length→rd (ss.getD i default)=some (ts.getD i default)
 | [],ts,i,h,hi=>absurd hi (Nat.not_lt_zero _)
 | s::r,ts,i,h,hi=>by
  rw[bB]at h
  split at h
  cases h
  rename_i t ht
  split at h
  cases h
  rename_i ts' hts
  cases h
  cases i with
  | zero=>exact ht
  | succ i=>exact(nO (ss:=r) (i:=i) hts (by rw[db]at hi;omega) :)
theorem vv{t:Str}{p:List Nd}(h:rP t=some p):bB iW (aS 47 t)=some p∧nn p=true:=by
 unfold rP at h
 split at h
 cases h
 rename_i q hq
 split at h
 rename_i hi;cases h;exact⟨hq,hi⟩
 cases h
theorem kf{a b c:D}{x y u v:D}(h1:NLe x u)(h2:NLe y v):NLess [[a,b,c,x,y]] [[a,b,c,u,v]]:=.cons (uN (uN (uN (.cons h1 (.cons h2 .nil))))) .nil
theorem d9{xs:List Int}(h:xs=[]):NLe .nils (cf xs):=by subst h;exact .nil
theorem wY{t:Str}(hL:1048576<L)(hs:t.length≤1048576):MQ h1 h2 14 [aS8 t] [] (Plain (AR (rP t))):=by
 refine MC.data (jB 37 h1 h2 Tryz.func14 Z fun O hF=>?_)
 refine ae (ac Z (be (js Z (jn (ag (ae ?_))))))
 have hQ0:=eb 47 t
 refine js Z (jf [9,4,3,2] Z (aw O Z Z Z Z ((nE (s:=t) (sep:=[47]) h1 h2 (by simp) (by rw[dZ];omega)).plain (v:=_) (u:=.c (.d (strs (aS 47 t)))) (by rw[dZ])) (ah Z) Z Z Z Z (B0:=11000) Z Z ?_))
 first|refine cm Z ?_|refine js Z ?_|refine aU Z Z ?_
 refine js Z (jn (am (av (X:=Nat×List Nd) (fun z=>⟨[(4,.c (.rs 900 0 z.2.length)),(10,.c (.d (strs (aS 47 t)))),(11,eI (aS 47 t).length),(12,eI (z.1:Nat))],[(900,.row false 5 (z.2.map Nd.cells))]⟩) (fun z=>z.1≤(aS 47 t).length∧z.2.length=z.1∧bB iW ((aS 47 t).take z.1)=some z.2∧z.2.length≤60) (fun z=>(aS 47 t).length-z.1) (0,[]) ((df 4 900 5 false Z Z).trans (Ent.to ⟨Z,Z,Z,Z,ao⟩ Z)) ?_ (fun z hi=>?_))))
 exact⟨ca _,Z,Z,by decide⟩
 refine ae (js Z (jn (ag (ak Z (fun z13=>?_) (fun z13=>?_)))))
 refine af (ag (am (ae ?_)))
 have hi0:z.1<(aS 47 t).length:=by have:=bc z13;omega
 have hpl:((aS 47 t).getD z.1 default).length≤1048576:=by
  have h9:((aS 47 t).getD z.1 default)∈(aS 47 t):=by rw[getD_lt hi0];exact List.getElem_mem hi0
  have:=i8 _ h9;omega
 obtain⟨x,hx⟩: ∃x,x=(ly ((aS 47 t).getD z.1 default)).1:=⟨_,rfl⟩
 obtain⟨b,hxb⟩: ∃b,b=(ly ((aS 47 t).getD z.1 default)).2:=⟨_,rfl⟩
 refine aa (aE O Z Z Z Z Z Z Z Z (cb (by omega))) Z (ac Z (jf [6,13,4,10,11,12] Z (be (js Z (jf [17,13,4,10,11,12] Z (aw O Z Z Z Z ((Ae (s:=((aS 47 t).getD z.1 default)) h1 h2 hL (by omega)).plain (v:=_) (u:=.tup [yj x,eB b]) (by rw[hx,hxb])) (ah Z) Z Z Z Z (B0:=19000) Z Z (aF Z (jf [20,19,13,4,10,11,12] Z (jl Z (aB ?_))))))))))
 refine jo Z (aB ?_)
 refine js Z (jf [8,7,13,4,10,11,12] Z (jn (ag (ae (aF Z (jf [23,7,13,4,10,11,12] Z (ar 3 Z Z Z (fun hx=>aq hx Z (bf hx (br O Z Z (by have:=hi.2.2.2;omega)) Z (aq hx Z (AN.nil)))) Z Z ?_)))))))
 first|refine aa (al O Z Z Z Z Z) Z ?_|refine aa (Val.pickB O Z Z Z Z Z) Z ?_|refine aa (aj O Z Z Z Z Z) Z ?_
 refine jf [27,7,13,4,10,11,12] Z (jn (ak Z (fun z27=>?_) (fun z27=>?_)))
 refine ae (ac Z (jr ?_))
 refine ay Z ?_
 have hbad:rP t=none:=by
  rcases rA.1 z27 with h|h
  refine px ?_
  have hq:(aS 47 t)=(aS 47 t).take z.1++((aS 47 t).getD z.1 default)::(aS 47 t).drop (z.1+1):=by conv=>lhs;rw[←List.take_append_drop z.1 (aS 47 t),List.drop_eq_getElem_cons hi0,←getD_lt hi0]
  rw[hq];exact ej (by unfold iW;rw[←hxb,h];rfl)
  exact qV (by have:=hi.2.1;omega)
 rw[hbad]
 exact .tup (.cons (.c .nils) (.cons (.c .d) .nil))
 refine af (ab ?_)
 have hno:=dB z27 rA
 have hb1:b=true:=by cases h:b with
 | true=>rfl
 | false=>exact absurd (.inl h) hno
 have hok1:iW ((aS 47 t).getD z.1 default)=some x:=by unfold iW;rw[←hxb,hb1,hx];rfl
 have h60: ¬z.2.length=60:=fun e=>hno (.inr (by omega))
 refine ac Z (aY (bL O Z Z Z Z Z Z Z Z Z Z Z) Z (aB ?_))
 refine jf [30,28,27,7,13,4,10,11,12] Z (aY (cZ (own:=false) (xs:=z.2.map Nd.cells) (ys:=[Nd.cells x]) (zs:=(z.2++[x]).map Nd.cells) (n:=(z.2++[x]).length) O Z (.row Z (bd _).symm) (.whole Z Z (.inr ⟨Z,Z⟩)) (by simp) Z (by simp;omega) (by simp;omega) (by simp) (by simp)) Z (aB ?_))
 refine aB ?_
 refine js Z (jf [4,27,7,13,10,11,12] Z (jn (ab ?_)))
 first|refine ji Z ?_|refine aU Z Z ?_
 refine js Z (jn ?_)
 refine⟨(z.1+1,z.2++[x]),((aC [31] (e':=[(4,_),(10,_),(11,_),(12,_)]) Z Z ⟨Z,Z,Z,Z,ao⟩ Z).trans (aL 31 900 Z Z)).trans (Ent.to ⟨Z,Z,Z,Z,ao⟩ Z),⟨by show z.1+1≤_;omega,by show(z.2++[x]).length=z.1+1;rw[bP,hi.2.1];rfl,?_,by show(z.2++[x]).length≤60;rw[bP];have:[x].length=1:=rfl;omega⟩,by show(aS 47 t).length-(z.1+1)<(aS 47 t).length-z.1;omega⟩
 show bB iW ((aS 47 t).take (z.1+1))=some (z.2++[x])
 rw[List.take_succ_eq_append_getElem hi0,←getD_lt hi0]
 exact dL hi.2.2.1 hok1
 refine aJ (ag (ae ?_))
 have hz1:z.1=(aS 47 t).length:=by have:=bw z13;omega
 have hall:=hi.2.2.1
 rw[hz1,List.take_length]at hall
 refine js Z (aZ O Z Z Z Z (xn (p:=z.2) h1 h2) (.cons (.c (.whole Z (bd _).symm)) .nil) Z Z Z Z Z (B0:=35000) Z (js Z (jf [35,13,4,10,11,12] Z (jn (ak Z (fun z35=>?_) (fun z35=>?_))))))
 refine ae (ac Z (jr ?_))
 refine ay Z ?_
 have h9:nn z.2=false:=by simpa using z35
 rw[sr hall,h9]
 exact .tup (.cons (.c .nils) (.cons (.c .d) .nil))
 refine af (ae (aF Z (jr ?_)))
 refine ay Z ?_
 have h9:nn z.2=true:=by simpa using z35
 rw[sr hall,if_pos h9]
 exact .tup (.cons (.c (.whole Z (bd _).symm)) (.cons (.c .d) .nil))
variable{p:List Nd}
theorem tR{t:Str}(hL:1048576<L)(hs:t.length≤1048576)(hy:rP t=some p):MQ h1 h2 14 [aS8 t] [] (Rows (.tup [.c (.rs 0 0 p.length),eB true]) [ky p]):=by
 refine cK (jB 37 h1 h2 Tryz.func14 Z fun O hF=>?_)
 obtain⟨hall,hI⟩:=vv hy
 have hp60:=(kQ hI).1
 have hpQ:=gq hall
 refine ae (ac Z (be (js Z (jn (ag (ae ?_))))))
 have hQ0:=eb 47 t
 refine js Z (jf [9,4,3,2] Z (aw O Z Z Z Z ((nE (s:=t) (sep:=[47]) h1 h2 (by simp) (by rw[dZ];omega)).plain (v:=_) (u:=.c (.d (strs (aS 47 t)))) (by rw[dZ])) (ah Z) Z Z Z Z (B0:=11000) Z Z ?_))
 first|refine cm Z ?_|refine js Z ?_|refine aU Z Z ?_
 refine js Z (jn (am (av (X:=Nat) (fun i=>⟨[(4,.c (.rs 900 0 i)),(10,.c (.d (strs (aS 47 t)))),(11,eI (aS 47 t).length),(12,eI i)],[(900,ky (p.take i))]⟩) (fun i=>i≤p.length) (fun i=>p.length-i) 0 ((df 4 900 5 true Z Z).trans (Ent.to ⟨Z,Z,Z,Z,ao⟩ Z)) ?_ (fun i hi=>?_))))
 exact ca _
 refine ae (js Z (jn (ag (ak Z (fun z13=>?_) (fun z13=>?_)))))
 refine af (ag (am (ae ?_)))
 have hi0:i<(aS 47 t).length:=by have:=bc z13;omega
 have hpl:((aS 47 t).getD i default).length≤1048576:=by
  have h9:((aS 47 t).getD i default)∈(aS 47 t):=by rw[getD_lt hi0];exact List.getElem_mem hi0
  have:=i8 _ h9;omega
 have hx:=nO hall hi0
 refine aa (aE O Z Z Z Z Z Z Z Z (cb (by omega))) Z (ac Z (jf [6,13,4,10,11,12] Z (be ?_)))
 cases hb17:decide ((p.getD i default).kind=2)with
 | true=>
  have hk2:(p.getD i default).kind=2:=bc hb17
  have hm2:=(iF h1 h2 hL hpl hx hk2).2
  refine js Z ?_
  cases hb18:(p.getD i default).mul.isEmpty with
  | true=>
   have hm0:(p.getD i default).mul=[]:=List.isEmpty_iff.1 hb18
   refine jf [17,13,4,10,11,12] Z ?_
   first|refine bk O (B0:=19000) Z Z Z Z ((iF (s:=((aS 47 t).getD i default)) (x:=(p.getD i default)) h1 h2 hL hpl hx hk2).1) (ah Z) Z Z Z Z Z Z ?_|refine bk O (B0:=19000) Z Z Z Z ((eW (s:=((aS 47 t).getD i default)) (x:=(p.getD i default)) h1 h2 hL hpl hx hk0 hm1).1) (ah Z) Z Z Z Z Z Z ?_|refine aw O Z Z Z Z ((eX (s:=((aS 47 t).getD i default)) (x:=(p.getD i default)) h1 h2 hL hpl hx hk0 hm0).1) (ah Z) Z Z Z Z (B0:=19000) Z Z ?_
   refine aB ?_
   refine aF Z (jf [20,19,13,4,10,11,12] Z (jl Z (aB ?_)))
   refine jo Z (aB ?_)
   refine js Z (jf [8,7,13,4,10,11,12] Z (jn (ag (ae (aF Z (jf [23,7,13,4,10,11,12] Z (ar 3 Z Z Z (fun hx=>aq hx Z (bf hx (br O Z Z (by omega)) Z (aq hx Z (AN.nil)))) Z Z ?_)))))))
   first|refine aa (al O Z Z Z Z Z) Z ?_|refine aa (Val.pickB O Z Z Z Z Z) Z ?_|refine aa (aj O Z Z Z Z Z) Z ?_
   refine jf [27,7,13,4,10,11,12] Z (jn (ak Z (fun z27=>?_) (fun z27=>?_)))
   exact absurd ((rA (k:=true)).1 z27) (by simp;omega)
   refine af (ab ?_)
   have hz:i<p.length:=by omega
   refine ac Z ?_
   first|refine aK (aC [900,19000] (e':=[(29,_),(28,_),(4,_),(10,_),(11,_),(12,_)]) Z Z ⟨Z,Z,Z,Z,Z,Z,ao⟩ Z) ?_|refine aK (aC [900] (e':=[(29,_),(28,_),(4,_),(10,_),(11,_),(12,_)]) Z Z ⟨Z,Z,Z,Z,Z,Z,ao⟩ Z) ?_
   first|refine aY (bq (ds:=[.int .i64 (p.getD i default).kind,.int .i64 (p.getD i default).fact,.int .i64 (p.getD i default).term.c,cf (p.getD i default).term.xs,.nils]) O Z Z Z Z Z Z Z Z Z Z (.d Z (.d Z (.d Z (.rs Z (bd _).symm (.d Z .nil))))) Z Z Z) Z ?_|refine aY (bq (ds:=[.int .i64 (p.getD i default).kind,.int .i64 (p.getD i default).fact,.int .i64 (p.getD i default).term.c,.nils,cf (p.getD i default).mul]) O Z Z Z Z Z Z Z Z Z Z (.d Z (.d Z (.d Z (.d Z (.rs Z (bd _).symm .nil))))) Z Z Z) Z ?_|refine aY (bq (ds:=[.int .i64 (p.getD i default).kind,.int .i64 (p.getD i default).fact,.int .i64 (p.getD i default).term.c,.nils,.nils]) O Z Z Z Z Z Z Z Z Z Z (.d Z (.d Z (.d Z (.d Z (.d Z .nil))))) Z Z Z) Z ?_
   refine aB ?_
   first|refine aK (Ent.rowLe 30 (ys:=[Nd.cells (p.getD i default)]) Z (kf .refl (d9 hm2))) ?_|refine aK (Ent.rowLe 30 (ys:=[Nd.cells (p.getD i default)]) Z (kf (d9 (eW h1 h2 hL hpl hx hk0 hm1).2) .refl)) ?_|refine aK (Ent.rowLe 30 (ys:=[Nd.cells (p.getD i default)]) Z (kf (d9 (eX h1 h2 hL hpl hx hk0 hm0).2) (d9 hm0))) ?_
   refine aB ?_
   refine aB ?_
   refine jf [30,28,4,10,11,12] Z (aY (bI (zs:=(p.take (i+1)).map Nd.cells) (n:=i+1) O Z Z Z Z Z Z Z Z Z Z Z Z Z Z Z Z (.row Z (by simp;omega)) Z Z (by decide) Z (by simp;omega) (by simp;omega) (by rw[List.take_succ_eq_append_getElem (show i<p.length by omega),getD_lt (show i<p.length by omega),List.map_append];rfl) (by simp;omega)) Z (aB ?_))
   refine aB ?_
   refine js Z (jf [4,10,11,12] Z (jn (ab ?_)))
   first|refine ji Z ?_|refine aU Z Z ?_
   refine js Z (jn ?_)
   refine⟨i+1,((aC [31] (e':=[(4,_),(10,_),(11,_),(12,_)]) Z Z ⟨Z,Z,Z,Z,ao⟩ Z).trans (aL 31 900 Z Z)).trans (Ent.to ⟨Z,Z,Z,Z,ao⟩ Z),by omega,by omega⟩
  | false=>
   have hm1:(p.getD i default).mul≠[]:=fun e=>by rw[e]at hb18;cases hb18
   refine jf [17,13,4,10,11,12] Z ?_
   first|refine bk O (B0:=19000) Z Z Z Z ((iF (s:=((aS 47 t).getD i default)) (x:=(p.getD i default)) h1 h2 hL hpl hx hk2).1) (ah Z) Z Z Z Z Z Z ?_|refine bk O (B0:=19000) Z Z Z Z ((eW (s:=((aS 47 t).getD i default)) (x:=(p.getD i default)) h1 h2 hL hpl hx hk0 hm1).1) (ah Z) Z Z Z Z Z Z ?_|refine aw O Z Z Z Z ((eX (s:=((aS 47 t).getD i default)) (x:=(p.getD i default)) h1 h2 hL hpl hx hk0 hm0).1) (ah Z) Z Z Z Z (B0:=19000) Z Z ?_
   refine aB ?_
   refine aF Z (jf [20,19,13,4,10,11,12] Z (jl Z (aB ?_)))
   refine jo Z (aB ?_)
   refine js Z (jf [8,7,13,4,10,11,12] Z (jn (ag (ae (aF Z (jf [23,7,13,4,10,11,12] Z (ar 3 Z Z Z (fun hx=>aq hx Z (bf hx (br O Z Z (by omega)) Z (aq hx Z (AN.nil)))) Z Z ?_)))))))
   first|refine aa (al O Z Z Z Z Z) Z ?_|refine aa (Val.pickB O Z Z Z Z Z) Z ?_|refine aa (aj O Z Z Z Z Z) Z ?_
   refine jf [27,7,13,4,10,11,12] Z (jn (ak Z (fun z27=>?_) (fun z27=>?_)))
   exact absurd ((rA (k:=true)).1 z27) (by simp;omega)
   refine af (ab ?_)
   have hz:i<p.length:=by omega
   refine ac Z ?_
   first|refine aK (aC [900,19000] (e':=[(29,_),(28,_),(4,_),(10,_),(11,_),(12,_)]) Z Z ⟨Z,Z,Z,Z,Z,Z,ao⟩ Z) ?_|refine aK (aC [900] (e':=[(29,_),(28,_),(4,_),(10,_),(11,_),(12,_)]) Z Z ⟨Z,Z,Z,Z,Z,Z,ao⟩ Z) ?_
   first|refine aY (bq (ds:=[.int .i64 (p.getD i default).kind,.int .i64 (p.getD i default).fact,.int .i64 (p.getD i default).term.c,cf (p.getD i default).term.xs,.nils]) O Z Z Z Z Z Z Z Z Z Z (.d Z (.d Z (.d Z (.rs Z (bd _).symm (.d Z .nil))))) Z Z Z) Z ?_|refine aY (bq (ds:=[.int .i64 (p.getD i default).kind,.int .i64 (p.getD i default).fact,.int .i64 (p.getD i default).term.c,.nils,cf (p.getD i default).mul]) O Z Z Z Z Z Z Z Z Z Z (.d Z (.d Z (.d Z (.d Z (.rs Z (bd _).symm .nil))))) Z Z Z) Z ?_|refine aY (bq (ds:=[.int .i64 (p.getD i default).kind,.int .i64 (p.getD i default).fact,.int .i64 (p.getD i default).term.c,.nils,.nils]) O Z Z Z Z Z Z Z Z Z Z (.d Z (.d Z (.d Z (.d Z (.d Z .nil))))) Z Z Z) Z ?_
   refine aB ?_
   first|refine aK (Ent.rowLe 30 (ys:=[Nd.cells (p.getD i default)]) Z (kf .refl (d9 hm2))) ?_|refine aK (Ent.rowLe 30 (ys:=[Nd.cells (p.getD i default)]) Z (kf (d9 (eW h1 h2 hL hpl hx hk0 hm1).2) .refl)) ?_|refine aK (Ent.rowLe 30 (ys:=[Nd.cells (p.getD i default)]) Z (kf (d9 (eX h1 h2 hL hpl hx hk0 hm0).2) (d9 hm0))) ?_
   refine aB ?_
   refine aB ?_
   refine jf [30,28,4,10,11,12] Z (aY (bI (zs:=(p.take (i+1)).map Nd.cells) (n:=i+1) O Z Z Z Z Z Z Z Z Z Z Z Z Z Z Z Z (.row Z (by simp;omega)) Z Z (by decide) Z (by simp;omega) (by simp;omega) (by rw[List.take_succ_eq_append_getElem (show i<p.length by omega),getD_lt (show i<p.length by omega),List.map_append];rfl) (by simp;omega)) Z (aB ?_))
   refine aB ?_
   refine js Z (jf [4,10,11,12] Z (jn (ab ?_)))
   first|refine ji Z ?_|refine aU Z Z ?_
   refine js Z (jn ?_)
   refine⟨i+1,((aC [31] (e':=[(4,_),(10,_),(11,_),(12,_)]) Z Z ⟨Z,Z,Z,Z,ao⟩ Z).trans (aL 31 900 Z Z)).trans (Ent.to ⟨Z,Z,Z,Z,ao⟩ Z),by omega,by omega⟩
 | false=>
  have hk0: ¬(p.getD i default).kind=2:=bw hb17
  refine js Z ?_
  cases hb18:(p.getD i default).mul.isEmpty with
  | true=>
   have hm0:(p.getD i default).mul=[]:=List.isEmpty_iff.1 hb18
   refine jf [17,13,4,10,11,12] Z ?_
   first|refine bk O (B0:=19000) Z Z Z Z ((iF (s:=((aS 47 t).getD i default)) (x:=(p.getD i default)) h1 h2 hL hpl hx hk2).1) (ah Z) Z Z Z Z Z Z ?_|refine bk O (B0:=19000) Z Z Z Z ((eW (s:=((aS 47 t).getD i default)) (x:=(p.getD i default)) h1 h2 hL hpl hx hk0 hm1).1) (ah Z) Z Z Z Z Z Z ?_|refine aw O Z Z Z Z ((eX (s:=((aS 47 t).getD i default)) (x:=(p.getD i default)) h1 h2 hL hpl hx hk0 hm0).1) (ah Z) Z Z Z Z (B0:=19000) Z Z ?_
   refine aB ?_
   refine aF Z (jf [20,19,13,4,10,11,12] Z (jl Z (aB ?_)))
   refine jo Z (aB ?_)
   refine js Z (jf [8,7,13,4,10,11,12] Z (jn (ag (ae (aF Z (jf [23,7,13,4,10,11,12] Z (ar 3 Z Z Z (fun hx=>aq hx Z (bf hx (br O Z Z (by omega)) Z (aq hx Z (AN.nil)))) Z Z ?_)))))))
   first|refine aa (al O Z Z Z Z Z) Z ?_|refine aa (Val.pickB O Z Z Z Z Z) Z ?_|refine aa (aj O Z Z Z Z Z) Z ?_
   refine jf [27,7,13,4,10,11,12] Z (jn (ak Z (fun z27=>?_) (fun z27=>?_)))
   exact absurd ((rA (k:=true)).1 z27) (by simp;omega)
   refine af (ab ?_)
   have hz:i<p.length:=by omega
   refine ac Z ?_
   first|refine aK (aC [900,19000] (e':=[(29,_),(28,_),(4,_),(10,_),(11,_),(12,_)]) Z Z ⟨Z,Z,Z,Z,Z,Z,ao⟩ Z) ?_|refine aK (aC [900] (e':=[(29,_),(28,_),(4,_),(10,_),(11,_),(12,_)]) Z Z ⟨Z,Z,Z,Z,Z,Z,ao⟩ Z) ?_
   first|refine aY (bq (ds:=[.int .i64 (p.getD i default).kind,.int .i64 (p.getD i default).fact,.int .i64 (p.getD i default).term.c,cf (p.getD i default).term.xs,.nils]) O Z Z Z Z Z Z Z Z Z Z (.d Z (.d Z (.d Z (.rs Z (bd _).symm (.d Z .nil))))) Z Z Z) Z ?_|refine aY (bq (ds:=[.int .i64 (p.getD i default).kind,.int .i64 (p.getD i default).fact,.int .i64 (p.getD i default).term.c,.nils,cf (p.getD i default).mul]) O Z Z Z Z Z Z Z Z Z Z (.d Z (.d Z (.d Z (.d Z (.rs Z (bd _).symm .nil))))) Z Z Z) Z ?_|refine aY (bq (ds:=[.int .i64 (p.getD i default).kind,.int .i64 (p.getD i default).fact,.int .i64 (p.getD i default).term.c,.nils,.nils]) O Z Z Z Z Z Z Z Z Z Z (.d Z (.d Z (.d Z (.d Z (.d Z .nil))))) Z Z Z) Z ?_
   refine aB ?_
   first|refine aK (Ent.rowLe 30 (ys:=[Nd.cells (p.getD i default)]) Z (kf .refl (d9 hm2))) ?_|refine aK (Ent.rowLe 30 (ys:=[Nd.cells (p.getD i default)]) Z (kf (d9 (eW h1 h2 hL hpl hx hk0 hm1).2) .refl)) ?_|refine aK (Ent.rowLe 30 (ys:=[Nd.cells (p.getD i default)]) Z (kf (d9 (eX h1 h2 hL hpl hx hk0 hm0).2) (d9 hm0))) ?_
   refine aB ?_
   refine aB ?_
   refine jf [30,28,4,10,11,12] Z (aY (bI (zs:=(p.take (i+1)).map Nd.cells) (n:=i+1) O Z Z Z Z Z Z Z Z Z Z Z Z Z Z Z Z (.row Z (by simp;omega)) Z Z (by decide) Z (by simp;omega) (by simp;omega) (by rw[List.take_succ_eq_append_getElem (show i<p.length by omega),getD_lt (show i<p.length by omega),List.map_append];rfl) (by simp;omega)) Z (aB ?_))
   refine aB ?_
   refine js Z (jf [4,10,11,12] Z (jn (ab ?_)))
   first|refine ji Z ?_|refine aU Z Z ?_
   refine js Z (jn ?_)
   refine⟨i+1,((aC [31] (e':=[(4,_),(10,_),(11,_),(12,_)]) Z Z ⟨Z,Z,Z,Z,ao⟩ Z).trans (aL 31 900 Z Z)).trans (Ent.to ⟨Z,Z,Z,Z,ao⟩ Z),by omega,by omega⟩
  | false=>
   have hm1:(p.getD i default).mul≠[]:=fun e=>by rw[e]at hb18;cases hb18
   refine jf [17,13,4,10,11,12] Z ?_
   first|refine bk O (B0:=19000) Z Z Z Z ((iF (s:=((aS 47 t).getD i default)) (x:=(p.getD i default)) h1 h2 hL hpl hx hk2).1) (ah Z) Z Z Z Z Z Z ?_|refine bk O (B0:=19000) Z Z Z Z ((eW (s:=((aS 47 t).getD i default)) (x:=(p.getD i default)) h1 h2 hL hpl hx hk0 hm1).1) (ah Z) Z Z Z Z Z Z ?_|refine aw O Z Z Z Z ((eX (s:=((aS 47 t).getD i default)) (x:=(p.getD i default)) h1 h2 hL hpl hx hk0 hm0).1) (ah Z) Z Z Z Z (B0:=19000) Z Z ?_
   refine aB ?_
   refine aF Z (jf [20,19,13,4,10,11,12] Z (jl Z (aB ?_)))
   refine jo Z (aB ?_)
   refine js Z (jf [8,7,13,4,10,11,12] Z (jn (ag (ae (aF Z (jf [23,7,13,4,10,11,12] Z (ar 3 Z Z Z (fun hx=>aq hx Z (bf hx (br O Z Z (by omega)) Z (aq hx Z (AN.nil)))) Z Z ?_)))))))
   first|refine aa (al O Z Z Z Z Z) Z ?_|refine aa (Val.pickB O Z Z Z Z Z) Z ?_|refine aa (aj O Z Z Z Z Z) Z ?_
   refine jf [27,7,13,4,10,11,12] Z (jn (ak Z (fun z27=>?_) (fun z27=>?_)))
   exact absurd ((rA (k:=true)).1 z27) (by simp;omega)
   refine af (ab ?_)
   have hz:i<p.length:=by omega
   refine ac Z ?_
   first|refine aK (aC [900,19000] (e':=[(29,_),(28,_),(4,_),(10,_),(11,_),(12,_)]) Z Z ⟨Z,Z,Z,Z,Z,Z,ao⟩ Z) ?_|refine aK (aC [900] (e':=[(29,_),(28,_),(4,_),(10,_),(11,_),(12,_)]) Z Z ⟨Z,Z,Z,Z,Z,Z,ao⟩ Z) ?_
   first|refine aY (bq (ds:=[.int .i64 (p.getD i default).kind,.int .i64 (p.getD i default).fact,.int .i64 (p.getD i default).term.c,cf (p.getD i default).term.xs,.nils]) O Z Z Z Z Z Z Z Z Z Z (.d Z (.d Z (.d Z (.rs Z (bd _).symm (.d Z .nil))))) Z Z Z) Z ?_|refine aY (bq (ds:=[.int .i64 (p.getD i default).kind,.int .i64 (p.getD i default).fact,.int .i64 (p.getD i default).term.c,.nils,cf (p.getD i default).mul]) O Z Z Z Z Z Z Z Z Z Z (.d Z (.d Z (.d Z (.d Z (.rs Z (bd _).symm .nil))))) Z Z Z) Z ?_|refine aY (bq (ds:=[.int .i64 (p.getD i default).kind,.int .i64 (p.getD i default).fact,.int .i64 (p.getD i default).term.c,.nils,.nils]) O Z Z Z Z Z Z Z Z Z Z (.d Z (.d Z (.d Z (.d Z (.d Z .nil))))) Z Z Z) Z ?_
   refine aB ?_
   first|refine aK (Ent.rowLe 30 (ys:=[Nd.cells (p.getD i default)]) Z (kf .refl (d9 hm2))) ?_|refine aK (Ent.rowLe 30 (ys:=[Nd.cells (p.getD i default)]) Z (kf (d9 (eW h1 h2 hL hpl hx hk0 hm1).2) .refl)) ?_|refine aK (Ent.rowLe 30 (ys:=[Nd.cells (p.getD i default)]) Z (kf (d9 (eX h1 h2 hL hpl hx hk0 hm0).2) (d9 hm0))) ?_
   refine aB ?_
   refine aB ?_
   refine jf [30,28,4,10,11,12] Z (aY (bI (zs:=(p.take (i+1)).map Nd.cells) (n:=i+1) O Z Z Z Z Z Z Z Z Z Z Z Z Z Z Z Z (.row Z (by simp;omega)) Z Z (by decide) Z (by simp;omega) (by simp;omega) (by rw[List.take_succ_eq_append_getElem (show i<p.length by omega),getD_lt (show i<p.length by omega),List.map_append];rfl) (by simp;omega)) Z (aB ?_))
   refine aB ?_
   refine js Z (jf [4,10,11,12] Z (jn (ab ?_)))
   first|refine ji Z ?_|refine aU Z Z ?_
   refine js Z (jn ?_)
   refine⟨i+1,((aC [31] (e':=[(4,_),(10,_),(11,_),(12,_)]) Z Z ⟨Z,Z,Z,Z,ao⟩ Z).trans (aL 31 900 Z Z)).trans (Ent.to ⟨Z,Z,Z,Z,ao⟩ Z),by omega,by omega⟩
 refine aJ (ag (ae ?_))
 have hz1:i=p.length:=by have:=bw z13;omega
 rw[hz1,List.take_length]
 refine js Z (aZ O Z Z Z Z (xn (p:=p) h1 h2) (.cons (.c (.whole Z (bd _).symm)) .nil) Z Z Z Z Z (B0:=35000) Z (js Z (jf [35,13,4,10,11,12] Z (jn (ak Z (fun z35=>?_) (fun z35=>?_))))))
 exact absurd z35 (by rw[hI];decide)
 refine af (ae (aF Z (jr ?_)))
 refine⟨.inl Z,_,cY,_,Z,[900],by decide,Z,Z,Z⟩
end Go.Al
/- Instructions as texts, in plain Lean: what is written, what both readers read. -/
namespace Go.Al
variable{L:Nat}(h1:4096≤L)(h2:L≤1073741824)
open Go.Lib
def xd:List Str:=[[112,117,115,104],[108,111,97,100],[115,116,111,114,101],[97,100,100],[115,99,97,108,101],[106,117,109,112],[116,101,115,116],[103,101,116],[112,117,116],[101,109,105,116],[99,104,101,99,107],[104,97,108,116]]
def jE(op:Int):Str:=xd.getD op.toNat []
def i5(op:Int):Bool:=[(0:Int),1,2,4,5,6,9].contains op
def fU(x:In):Str:=if i5 x.op then jE x.op++[32]++itoa x.a else jE x.op
def ep(w:Str):Int:=match xd.findIdx? (fun v=>decide (v=w))with
  | some i=>(i:Int)
  | none=> -1
def yk(s:Str):In:=⟨ep (cut s [32]).1,if i5 (ep (cut s [32]).1)then(di (dz (cut s [32]).2.1)).1 else 0⟩
def mv(s:Str):Option In:=if aV (yk s)=true∧fU (yk s)=s then some (yk s)else none
def w5(s:Str):In:=⟨ep ((aS 32 s).getD 0 []),if(aS 32 s).length=2 then(di (dz ((aS 32 s).getD 1 []))).1 else 0⟩
def ym(s:Str):Bool:=if(aS 32 s).length=2 then(di (dz ((aS 32 s).getD 1 []))).2 else true
def mA(s:Str):Option In:=if ym s=true∧aV (w5 s)=true∧fU (w5 s)=s then some (w5 s)else none
theorem f6{x:In}(h:aV x=true):(0≤x.op∧x.op≤11)∧(-1000000000≤x.a∧x.a≤1000000000)∧(i5 x.op=false→x.a=0):=by
 have hn: ∀{z:Int},jF z=true→ -1000000000≤z∧z≤1000000000:=fun{z} hz=>by have:=AE.1 hz;omega
 have hb: ∀{u v z:Int},cQ u v z=true→u≤z∧z≤v:=fun{u v z} hz=>by unfold cQ at hz;simpa using hz
 unfold aV at h
 split at h
 rename_i h1
 refine⟨by omega,hn h,fun h2=>?_⟩
 rcases h1 with h1|h1<;>(rw[h1]at h2;exact absurd h2 (by decide))
 split at h
 rename_i h1
 have:=hb h
 refine⟨by omega,by omega,fun h2=>?_⟩
 rcases h1 with h1|h1<;>(rw[h1]at h2;exact absurd h2 (by decide))
 split at h
 rename_i h1
 have:=hb h
 refine⟨by omega,by omega,fun h2=>?_⟩
 rcases h1 with h1|h1<;>(rw[h1]at h2;exact absurd h2 (by decide))
 split at h
 rename_i h1
 have:=hb h
 refine⟨by omega,by omega,fun h2=>?_⟩
 rw[h1]at h2;exact absurd h2 (by decide)
 split at h
 rename_i h1
 have:=bc h
 exact⟨by omega,by omega,fun _=>this⟩
 cases h
theorem od{c:UInt8}: ∀{p:Str},c ∉ p→index p [c]= -1
 | [],_=>rfl
 | b::p,h=>by
  rw[gt,if_neg (fun e=>h (by rw[e];exact List.mem_cons_self ..)),if_pos (od (fun hh=>h (List.mem_cons_of_mem _ hh)))]
theorem oe{c:UInt8}(r:Str): ∀{p:Str},c ∉ p→index (p++c::r) [c]=p.length
 | [],_=>by rw[List.nil_append,gt,if_pos Z];rfl
 | b::p,h=>by
  have ih:=oe r (fun hh=>h (List.mem_cons_of_mem _ hh)) (p:=p)
  rw[List.cons_append,gt,if_neg (fun e=>h (by rw[e];exact List.mem_cons_self ..)),ih,if_neg (by omega),db]
  omega
theorem pJ{c:UInt8}{p:Str}(h:c ∉ p):cut p [c]=(p,[],false):=by
 unfold cut
 rw[od h,if_neg (by omega)]
theorem tO{c:UInt8}{p:Str}(r:Str)(h:c ∉ p):cut (p++c::r) [c]=(p,r,true):=by
 unfold cut
 rw[oe r h,if_pos (by omega)]
 simp
theorem iK{c:UInt8}: ∀{p:Str},c ∉ p→aS c p=[p]
 | [],_=>rfl
 | b::r,h=>by
  rw[aS,if_neg (fun e=>h (by rw[e];exact List.mem_cons_self ..)),iK (fun hh=>h (List.mem_cons_of_mem _ hh))];rfl
theorem kO{P:Int→Prop}(h: ∀k:Fin 12,P (k.val:Int)){o:Int}(h0:0≤o)(h1:o≤11):P o:=by
 have:=h ⟨o.toNat,by omega⟩
 rwa[show((⟨o.toNat,by omega⟩:Fin 12).val:Int)=o by simp;omega]at this
theorem mM{o:Int}(h0:0≤o)(h1:o≤11):(32:UInt8) ∉ jE o:=kO (P:=fun o=>(32:UInt8) ∉ jE o) (by decide) h0 h1
theorem kC{o:Int}(h0:0≤o)(h1:o≤11):ep (jE o)=o:=kO (P:=fun o=>ep (jE o)=o) (by decide) h0 h1
theorem vJ{n:Int}:(32:UInt8) ∉ itoa n:=by
 intro h
 unfold itoa at h
 split at h
 rcases List.mem_cons.1 h with h|h
 exact absurd h (by decide)
 have:=fi _ _ h;revert this;decide
 have:=fi _ _ h;revert this;decide
theorem xy{x:In}(h:aV x=true):yk (fU x)=x:=by
 obtain⟨⟨h0,h1⟩,h2,h3⟩:=f6 h
 unfold yk fU
 cases ha:i5 x.op with
 | true=>
  rw[if_pos Z,dh,List.singleton_append,tO _ (mM h0 h1)]
  simp only[kC h0 h1,ha,if_true]
  rw[(ge (itoa x.a) x.a).2 ⟨h2,rfl⟩];rfl
 | false=>
  rw[if_neg (by decide),pJ (mM h0 h1)]
  simp only[kC h0 h1,ha]
  have:=h3 ha
  cases x;simp_all
theorem tg{x:In}(h:aV x=true):w5 (fU x)=x∧ym (fU x)=true:=by
 obtain⟨⟨h0,h1⟩,h2,h3⟩:=f6 h
 unfold w5 ym fU
 cases ha:i5 x.op with
 | true=>
  rw[if_pos Z,dh,List.singleton_append,ix _ (mM h0 h1),iK vJ]
  have hv:=(ge (itoa x.a) x.a).2 ⟨h2,rfl⟩
  simp[kC h0 h1,hv,di]
 | false=>
  rw[if_neg (by decide),iK (mM h0 h1)]
  have:=h3 ha
  simp[kC h0 h1]
  cases x;simp_all
theorem qW(s:Str)(x:In):mv s=some x↔aV x=true∧s=fU x:=by
 unfold mv
 constructor
 intro h
 split at h
 rename_i h2;cases h;exact⟨h2.1,h2.2.symm⟩
 cases h
 rintro⟨h,rfl⟩
 rw[xy h,if_pos ⟨h,rfl⟩]
theorem nR(s:Str)(x:In):mA s=some x↔aV x=true∧s=fU x:=by
 unfold mA
 constructor
 intro h
 split at h
 rename_i h2;cases h;exact⟨h2.2.1,h2.2.2.symm⟩
 cases h
 rintro⟨h,rfl⟩
 rw[(tg h).1,(tg h).2,if_pos ⟨rfl,h,rfl⟩]
theorem xJ(s:Str):mv s=mA s:=by
 cases h:mv s with
 | some x=>exact((nR s x).2 ((qW s x).1 h)).symm
 | none=>
  cases h2:mA s with
  | none=>rfl
  | some x=>rw[(qW s x).2 ((nR s x).1 h2)]at h;cases h
end Go.Al
/- Annotated code as text, in plain Lean: what is written, what is read. -/
namespace Go.Al
variable{L:Nat}(h1:4096≤L)(h2:L≤1073741824)
open Go.Lib
def cr:Str:=[112,114,101]
def bR:Str:=[112,111,115,116]
def jD:Str:=[97,116]
def bT:Str:=[112,111,105,110,116]
def ch(w:Str)(fs:List Tm):List Str:=fs.map fun t=>w++[32]++tS t
def sn(a:An)(i:Nat):List Str:=(match a.pts.findIdx? (fun p=>decide (p.k=(i:Int)))with
  | none=>[]
  | some k=>bT::ch jD (a.pts.getD k default).fs)++[fU (a.code.getD i default)]
def dj(a:An):Nat→List Str
  | 0=>[]
  | i+1=>dj a i++sn a i
def f1(a:An):List Str:=ch cr a.pre++ch bR a.post++dj a a.code.length
def cH(a:An):Str:=bz 10 (f1 a)
theorem ct(c:UInt8): ∀(p q:List Str),bz c (p++q)=bz c p++bz c q
 | [],q=>rfl
 | x::p,q=>by rw[List.cons_append,bz,ct c p q,bz];simp
def iV(a:An)(l:Str):Option An:=
  if(cut l [32]).1=cr∧(cy (dD (cut l [32]).2.1)).2=true then some ⟨a.pre++[(cy (dD (cut l [32]).2.1)).1],a.post,a.code,a.pts⟩
  else if(cut l [32]).1=bR∧(cy (dD (cut l [32]).2.1)).2=true then some ⟨a.pre,a.post++[(cy (dD (cut l [32]).2.1)).1],a.code,a.pts⟩
  else if l=bT then some ⟨a.pre,a.post,a.code,a.pts++[⟨(a.code.length:Int),[]⟩]⟩
  else if(cut l [32]).1=jD∧(cy (dD (cut l [32]).2.1)).2=true∧0<a.pts.length then
    some ⟨a.pre,a.post,a.code,a.pts.set (a.pts.length-1) ⟨(a.pts.getD (a.pts.length-1) default).k,(a.pts.getD (a.pts.length-1) default).fs++[(cy (dD (cut l [32]).2.1)).1]⟩⟩
  else match mv l with
    | none=>none
    | some x=>some ⟨a.pre,a.post,a.code++[x],a.pts⟩
def cp:List Str→An→Option An
  | [],a=>some a
  | l :: r,a=>match iV a l with
    | none=>none
    | some b=>cp r b
theorem ic: ∀{ls:List Str} {l:Str} {a:An},cp (ls++[l]) a=match cp ls a with
    | none=>none
    | some b=>iV b l
  | [],l,a=>by
    rw[List.nil_append,cp,cp]
    simp only
    cases iV a l with
    | none=>rfl
    | some b=>rfl
  | x :: r,l,a=>by
    rw[List.cons_append,cp,cp]
    cases iV a x with
    | none=>rfl
    | some b=>exact ic
theorem jz: ∀{ls r:List Str} {l:Str} {a b:An},cp ls a=some b→iV b l=none→cp (ls++l::r) a=none
 | [],r,l,a,b,h,hl=>by rw[cp]at h;cases h;rw[List.nil_append,cp,hl]
 | x::ls,r,l,a,b,h,hl=>by
  rw[cp]at h
  rw[List.cons_append,cp]
  cases hx:iV a x with
  | none=>rfl
  | some c=>rw[hx]at h;exact jz h hl
abbrev nq:An:=⟨[],[],[],[]⟩
def fV(t:Str):Option An:=match cp (aS 10 t).dropLast nq with
  | none=>none
  | some a=>if(aS 10 t).getLast? = some []∧dC a=true∧cH a=t then some a else none
theorem mj{c:UInt8}{B:Nat}: ∀{ls:List Str},(∀l∈ls,l.length≤B)→(bz c ls).length≤(B+1)*ls.length
 | [],_=>by simp[bz]
 | l::r,h=>by
  have h1:=mj (c:=c) (ls:=r) fun x hx=>h x (List.mem_cons_of_mem _ hx)
  have h2:=h l (List.mem_cons_self ..)
  rw[bz,bP,db,db,Nat.mul_add]
  omega
theorem mX{t:Tm}(h:t.term=true):(tS t).length≤45:=by
 unfold Tm.term at h
 simp only[bK,decide_eq_true_eq]at h
 obtain⟨h1,h2,h3⟩:=jb h.1
 have h4:=ph (i:=0) (out:=[]) h2
 have h5:=s5 (out:=tX 0 t.xs []) h1
 have h6:=h.2
 unfold tS w4 tZ
 split
 decide
 simp only[List.length_nil]at h4;omega
theorem terms_sp{ts:List Tm}{n:Nat}(h:terms ts n=true):(∀t∈ts,t.term=true)∧ts.length≤n:=by
 unfold terms at h
 simp only[bK,decide_eq_true_eq,List.all_eq_true]at h
 exact⟨h.1,by omega⟩
theorem fc{w:Str}{fs:List Tm}(hw:w.length≤4)(h:terms fs 6=true):(bz 10 (ch w fs)).length≤306:=by
 obtain⟨h1,h2⟩:=terms_sp (n:=6) h
 have h3:=mj (c:=10) (B:=50) (ls:=ch w fs) fun l hl=>by
  unfold ch at hl
  obtain⟨t,ht,rfl⟩:=List.mem_map.1 hl
  have:=mX (h1 t ht)
  simp only[bP,sj];omega
 unfold ch at h3
 rw[bd]at h3
 unfold ch
 omega
theorem m3{o:Int}(h0:0≤o)(h1:o≤11):(jE o).length≤5:=kO (P:=fun o=>(jE o).length≤5) (by decide) h0 h1
theorem m5{x:In}(h:aV x=true):(fU x).length≤17:=by
 obtain⟨⟨h0,h1⟩,h2,_⟩:=f6 h
 have h3:=m3 h0 h1
 have h4:=iC h2
 unfold fU
 split
 simp only[bP,sj];omega
 omega
theorem annB_sp{a:An}(h:dC a=true):(∀i,i<a.code.length→aV (a.code.getD i default)=true)∧a.code.length≤80∧1≤a.code.length∧terms a.pre 6=true∧terms a.post 6=true∧a.pts.length≤8∧∀k,k<a.pts.length→terms (a.pts.getD k default).fs 6=true:=by
 unfold dC eT at h
 simp only[bK,decide_eq_true_eq,List.all_eq_true]at h
 obtain⟨⟨h1,h2⟩,h3,h4,h5,h6⟩:=h
 unfold cQ at h2
 simp only[bK,decide_eq_true_eq]at h2
 refine⟨fun i hi=>by rw[getD_lt hi];exact h1 _ (List.getElem_mem hi),by omega,by omega,h3,h4,h5,fun k hk=>?_⟩
 unfold rz at h6
 have:=List.all_eq_true.1 h6 k (List.mem_range.2 hk)
 unfold sd at this
 simp only[bK]at this
 exact this.1.2
theorem rj{a:An}(h:dC a=true){i:Nat}(hi:i<a.code.length):(bz 10 (sn a i)).length≤330:=by
 obtain⟨h1,_,_,_,_,_,h7⟩:=annB_sp h
 have h2:=m5 (h1 i hi)
 unfold sn
 rw[ct,bP]
 have h8:(bz 10 [fU (a.code.getD i default)]).length≤18:=by
  simp only[bz,bP,db,List.length_nil];omega
 cases hk:a.pts.findIdx? (fun p=>decide (p.k=(i:Int)))with
 | none=>show 0+_≤330;omega
 | some k=>
  have hkl:k<a.pts.length:=by
   have:=List.findIdx?_eq_some_iff_findIdx_eq.1 hk
   omega
  have h9:=fc (w:=jD) (by decide) (h7 k hkl)
  show(bT++10::bz 10 (ch jD (a.pts.getD k default).fs)).length+_≤330
  rw[bP,db]
  have:bT.length=5:=rfl
  omega
theorem k0{a:An}(h:dC a=true): ∀{n:Nat},n≤a.code.length→(bz 10 (dj a n)).length≤330*n
 | 0,_=>by simp[dj,bz]
 | n+1,hn=>by
  have h1:=k0 h (n:=n) (by omega)
  have h2:=rj h (i:=n) (by omega)
  rw[dj,ct,bP]
  omega
theorem eg{a:An}(h:dC a=true):(cH a).length≤30000:=by
 obtain⟨_,h1,_,h3,h4,_,_⟩:=annB_sp h
 have q1:=fc (w:=cr) (by decide) h3
 have q2:=fc (w:=bR) (by decide) h4
 have q3:=k0 h (n:=a.code.length) (bQ _)
 unfold cH f1
 rw[ct,ct,bP,bP]
 omega
theorem t8{t:Str}(h:40000<t.length):fV t=none:=by
 unfold fV
 split
 rfl
 rw[if_neg]
 rintro⟨_,h2,h3⟩
 have:=eg h2
 rw[h3]at this
 omega
def nu(s:Str):Prop:=40000<s.length∨(s≠[]∧s.getLast? ≠some 10)
instance(s:Str):Decidable (nu s):=by unfold nu;infer_instance
abbrev yB(s:Str):A:=if nu s then .tup [.c (.d (strs [])),eB false]else .tup [.c (.d (strs (aS 10 s).dropLast)),eB true]
theorem q9{f:Str}(h:f≠[]):f.getLast? = some 10↔((f.getD (f.length-1) 0).toNat:Int)=10:=by
 have hl:=List.length_pos_iff.2 h
 rw[List.getLast?_eq_getElem?,List.getElem?_eq_getElem (by omega),show((f.getD (f.length-1) 0).toNat:Int)=10↔f.getD (f.length-1) 0=10 from eL (n:=10) (by decide)]
 simp[show f.length-1<f.length by omega]
theorem yN{f:Str}{b:Prop}[Decidable b](hb:f≠[]→(f.getLast? = some 10↔b)):(bif decide ((40000:Int)<(f.length:Int))then true else(bif !decide (f=[])then !decide b else false))=true↔nu f:=by
 unfold nu
 by_cases h0:(40000:Int)<(f.length:Int)
 simp[h0,show 40000<f.length by omega]
 by_cases h:f=[]
 simp[h]
 have:=hb h
 by_cases h2:b<;>simp_all<;>omega
theorem Ag{s:Str}(hL:1048576<L)(hs:s.length≤1048576):MQ h1 h2 33 [aS8 s] [] (Plain (yB s)):=by
 refine MC.data (jB 27 h1 h2 Tryz.func33 Z fun O hF=>?_)
 refine ae (ac Z (jn (ag (ae (js Z (aa (aI (p:=s) O Z Z Z Z Z Z Z Z Z) Z (ac Z (jf [8,3,2,0] Z (ar 10 Z Z Z (fun hx=>aq hx Z (bf hx (b9 (p:=s) (q:=[]) O Z Z Z Z Z Z) Z (aq hx Z (pS 6 Z Z Z Z (fun hx'=>aq hx' Z (aq hx' Z (bf hx' (aI (p:=s) O Z Z Z Z Z Z Z Z Z) Z (bf hx' (vF Z) Z (bf hx' (aA (p:=s) (b:=s.getD (s.length-1) 0) O Z Z Z Z Z Z Z (xO hx') (Br (yM hx'))) Z (aq hx' Z (AN.nil))))))) Z Z (bf hx (aj O Z Z Z Z Z) Z (AN.nil)))))) Z Z ?_)))))))))
 first|refine aa (al O Z Z Z Z Z) Z ?_|refine aa (Val.pickB O Z Z Z Z Z) Z ?_|refine aa (aj O Z Z Z Z Z) Z ?_
 refine jf [19,3,2,0] Z (jn (ak Z (fun z19=>?_) (fun z19=>?_)))
 refine ae (ac Z (jr ?_))
 refine ay Z ?_
 have hyes:nu s:=(yN fun h=>q9 h).1 z19
 rw[show yB s=_ from if_pos hyes]
 exact .tup (.cons (.c .nils) (.cons (.c .d) .nil))
 refine af (ae ?_)
 have hno: ¬nu s:=dB z19 (yN fun h=>q9 h)
 have hQ0:=eb 10 s
 obtain⟨Q,q0,hQ,_,_,_⟩:=fp 10 s
 refine js Z (jf [20,3,2,0] Z (aw O Z Z Z Z ((nE (s:=s) (sep:=[10]) h1 h2 (by simp) (by rw[dZ];omega)).plain (v:=_) (u:=.c (.d (strs (aS 10 s)))) (by rw[dZ])) (ah Z) Z Z Z Z (B0:=22000) Z Z (js Z (jf [4,3,2,0] Z (be ?_)))))
 rw[hQ]
 have hQl:(Q++[q0]).length=Q.length+1:=by simp
 rw[hQ]at hQ0
 refine ac Z (aa ((bF O Z Z Z Z Z Z Z Z).cast (v':=eI (Q.length+1:Nat)) (by rw[hQl])) Z (aa ((ax O Z Z (by omega) (by omega)).cast (v':=eI (Q.length:Nat)) (congrArg eI (by omega))) Z (aa (qi (a:=0) (b:=Q.length) (ys:=Q.map fun p=>[sD p]) O Z Z Z Z Z Z Z Z Z Z (by simp[nat?]) ⟨ca _,by simp⟩ (by simp)) Z (ac Z (jf [3,2,0] Z (jr ?_))))))
 refine ay Z ?_
 rw[show yB s=_ from if_neg hno,hQ,List.dropLast_concat]
 exact .tup (.cons (.c .d) (.cons (.c .d) .nil))
end Go.Al
/- Annotated code as text: what a text that is no list of lines comes to. -/
namespace Go.Al
variable{L:Nat}(h1:4096≤L)(h2:L≤1073741824)
open Go.Lib
theorem vO{t:Str}(h: ¬(t≠[]∧t.getLast? ≠some 10)):(aS 10 t).getLast? = some []:=by
 obtain⟨ps,q,h1,h2,h3,h4⟩:=fp 10 t
 rw[h1,List.getLast?_concat]
 by_cases hq:q=[]
 rw[hq]
 exfalso
 apply h
 refine⟨fun e=>?_,fun e=>?_⟩
 rw[e]at h2
 exact hq (List.append_eq_nil_iff.1 h2.symm).2
 rw[h2,List.getLast?_append]at e
 cases hl:q.getLast? with
 | none=>exact hq (List.getLast?_eq_none_iff.1 hl)
 | some b=>
  rw[hl]at e
  have hb:b=10:=by simpa using e
  exact h3 (by rw[←hb];exact List.mem_of_getLast? hl)
theorem ut{t:Str}(h:t≠[]∧t.getLast? ≠some 10):(aS 10 t).getLast? ≠some []:=by
 obtain⟨ps,q,h1,h2,h3,h4⟩:=fp 10 t
 rw[h1,List.getLast?_concat]
 intro e
 have hq:q=[]:=Option.some.inj e
 rw[hq,List.append_nil]at h2
 by_cases hp:ps=[]
 rw[hp]at h2;exact h.1 h2
 exact h.2 (by rw[h2];exact ml 10 hp)
theorem vp{t:Str}(h:nu t):fV t=none:=by
 rcases h with h|h
 exact t8 h
 unfold fV
 split
 rfl
 rw[if_neg]
 rintro⟨h2,_⟩
 exact ut h h2
theorem tn{t:Str}(h: ¬nu t):fV t=match cp (aS 10 t).dropLast nq with
 | none=>none
 | some a=>if dC a=true∧cH a=t then some a else none:=by
 have h1:=vO (t:=t) fun h2=>h (.inr h2)
 unfold fV
 cases cp (aS 10 t).dropLast nq with
 | none=>rfl
 | some a=>simp only[h1,true_and]
end Go.Al
