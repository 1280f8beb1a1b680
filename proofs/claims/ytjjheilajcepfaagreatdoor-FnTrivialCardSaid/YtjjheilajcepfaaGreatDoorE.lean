/- Texts of vk and proofs: plain Lean, the readers, walked. -/
import Derived.Lib.ItoaNum
import Derived.Lib.Split
import Derived.Test.YtjjheilajcepfaaGreatDoorH
import Derived.Test.YtjjheilajcepfaaGreatDoorC
import Derived.Test.YtjjheilajcepfaaGreatDoorS
import Derived.Lib.ParseIntBTie
import Derived.WalkKit
import Derived.Deep.QuietTactic
import Derived.BigQuiet
set_option linter.unusedVariables false
set_option linter.unusedSimpArgs false
set_option maxRecDepth 10000
set_option maxHeartbeats 4000000
open Go.Proofs
/- Terms as texts, in plain Lean: what is written, what is read, and that a written term is read back. -/
namespace Go.Al
variable{L:Nat}(h1:4096≤L)(h2:L≤1073741824)
open Go.Lib
abbrev aQ:=List UInt8
def i8(i:Nat):UInt8:=UInt8.ofNat (97+i)
def ei(out:aQ)(n:Int):aQ:=if n<0 then[45]else if out=[]then[]else[43]
def tC(out:aQ)(i:Nat)(c:Int):aQ:=if c=0 then out else out++ei out c++(if c.natAbs=1 then[]else decDigits c.natAbs)++[i8 i]
def tX:Nat→List Int→aQ→aQ
  | _,[],out=>out
  | i,c::r,out=>tX (i+1) r (tC out i c)
def tK(out:aQ)(c:Int):aQ:=if c=0 then out else out++ei out c++decDigits c.natAbs
def tZ(out:aQ):aQ:=if out=[]then[48]else out
def ux(c:Int)(xs:List Int):aQ:=tZ (tK (tX 0 xs []) c)

def kv(b:UInt8):Bool:=decide (48≤b.toNat)&&decide (b.toNat≤57)
def rD(b:UInt8):Bool:=decide (97≤b.toNat)&&decide (b.toNat<107)
def bG:Nat→Int→aQ→Int×aQ
  | 0,n,l=>(n,l)
  | _+1,n,[]=>(n,[])
  | k+1,n,b::r=>if kv b then bG k (10*n+(b.toNat-48:Int)) r else(n,b::r)
theorem gv{k:Nat}{n:Int}{b:UInt8}{r:aQ}(h:kv b=false):bG k n (b::r)=(n,b::r):=by
 cases k with
 | zero=>rfl
 | succ k=>rw[bG,if_neg (by simp[h])]
theorem kI{k:Nat}{n:Int}:bG k n []=(n,[]):=by cases k<;>rfl
theorem dw{d:Nat}(h:d<10):(UInt8.ofNat (48+d)).toNat=48+d:=by
 rw[UInt8.toNat_ofNat'];omega
theorem kJ{k:Nat}{n:Int}{d:Nat}(h:d<10){r:aQ}:bG (k+1) n (UInt8.ofNat (48+d)::r)=bG k (10*n+d) r:=by
 rw[bG,if_pos (by unfold kv;rw[dw h];simp;omega),dw h]
 congr 1;omega
theorem kK(m:Nat): ∀(k:Nat) (n:Int) (r:aQ),nDigits m≤k→bG k n (decDigits m++r)=bG (k-nDigits m) (n*(10^nDigits m:Nat)+m) r:=by
 induction m using Nat.strongRecOn with
 | _ m ih=>
  intro k n r hk
  by_cases h:m<10
  rw[decDigits,dif_pos h,nDigits_small h]at *
  obtain⟨k,rfl⟩: ∃j,k=j+1:=⟨k-1,by omega⟩
  rw[List.singleton_append,kJ h,Nat.add_sub_cancel]
  congr 1;simp;omega
  rw[nDigits_big h]at hk ⊢
  rw[decDigits,dif_neg h,dz,List.singleton_append,ih (m/10) (by omega) k n _ (by omega)]
  obtain⟨j,hj⟩: ∃j,k-nDigits (m/10)=j+1:=⟨k-nDigits (m/10)-1,by omega⟩
  rw[hj,kJ (Nat.mod_lt _ (by decide)),show k-(nDigits (m/10)+1)=j by omega]
  congr 1
  rw[Nat.pow_succ,Int.natCast_mul]
  have:(m:Int)=10*((m/10:Nat):Int)+((m%10:Nat):Int):=by omega
  generalize (10^nDigits (m/10):Nat)=p at *
  rw[Int.mul_add,Int.add_assoc,←this]
  congr 1
  rw[show((10:Nat):Int)=10 from Z,Int.mul_comm 10 (n*_),Int.mul_assoc]
theorem e5{m k:Nat}(h:m<10^(k+1)):nDigits m≤k+1:=by
 induction k generalizing m with
 | zero=>rw[nDigits_small (by simpa using h)];exact bP _
 | succ k ih=>
  by_cases hm:m<10
  rw[nDigits_small hm];omega
  rw[nDigits_big hm]
  have:=ih (m:=m/10) (by rw[Nat.pow_succ]at h;omega)
  omega
theorem cM(m:Nat):decDigits m≠[]:=by
 rw[decDigits];split<;>simp
theorem ct(m:Nat): ∀b∈decDigits m,kv b=true:=by
 induction m using Nat.strongRecOn with
 | _ m ih=>
  intro b hb
  rw[decDigits]at hb
  split at hb
  rename_i h
  rw[List.mem_singleton.1 hb];unfold kv;rw[dw h];simp;omega
  rename_i h
  rcases List.mem_append.1 hb with hb|hb
  exact ih (m/10) (by omega) b hb
  rw[List.mem_singleton.1 hb];unfold kv;rw[dw (Nat.mod_lt _ (by decide))];simp;omega
theorem mj: ∀(k:Nat) (n:Int) (l:aQ),(bG k n l).2.length≤l.length
 | 0,n,l=>bP _
 | k+1,n,[]=>bP _
 | k+1,n,b::r=>by
  rw[bG]
  split
  exact Nat.le_trans (mj k _ r) (Nat.le_succ _)
  exact bP _
def jk:aQ→Int×aQ
  | []=>(1,[])
  | b::r=>if b=45 then(-1,r)else if b=43 then(1,r)else(1,b::r)
theorem r9(l:aQ):(jk l).2.length≤l.length:=by
 cases l with
 | nil=>exact bP _
 | cons b r=>
  rw[jk]
  split
  exact Nat.le_succ _
  split
  exact Nat.le_succ _
  exact bP _
def dj(xs:List Int)(i:Nat)(n:Int):List Int:=xs.set i (xs.getD i 0+n)
def nS(l:aQ):Option (aQ×Option Nat×Int):=
  let a:=jk l
  let d:=bG 8 0 a.2
  match d.2 with
  | b::r=>if rD b then some (r,some (b.toNat-97),a.1*(if d.2.length=a.2.length then 1 else d.1))else if d.2.length=a.2.length then none else some (d.2,none,a.1*d.1)
  | []=>if d.2.length=a.2.length then none else some (d.2,none,a.1*d.1)
theorem mX{l r:aQ}{i:Option Nat}{n:Int}(h:nS l=some (r,i,n)):r.length<l.length:=by
 have h1:=r9 l
 have h2:=mj 8 0 (jk l).2
 unfold nS at h
 simp only at h
 split at h
 rename_i b r' hd
 split at h
 cases h
 have:(bG 8 0 (jk l).2).2.length=r.length+1:=by rw[hd];rfl
 omega
 split at h
 cases h
 cases h;rename_i hne _;rw[hd]at h2;rw[hd]at *;omega
 rename_i hd
 split at h
 cases h
 cases h;rename_i hne;rw[hd]at h2;rw[hd]at *;omega
def ki(l:aQ)(xs:List Int)(c:Int):Option (List Int×Int):=
  if l=[]then some (xs,c)else
  match h:nS l with
  | none=>none
  | some (r,some i,n)=>ki r (dj xs i n) c
  | some (r,none,n)=>ki r xs (c+n)
termination_by l.length
decreasing_by all_goals exact mX h
theorem fT{xs:List Int}{c:Int}:ki [] xs c=some (xs,c):=by rw[ki];simp
theorem ot{l r:aQ}{xs:List Int}{c n:Int}{i:Nat}(h:nS l=some (r,some i,n)):ki l xs c=ki r (dj xs i n) c:=by
 have hl:l≠[]:=fun e=>by have:=mX h;rw[e]at this;exact absurd this (Nat.not_lt_zero _)
 rw[ki,if_neg hl]
 split
 rename_i e;rw[h]at e;cases e
 rename_i e;rw[h]at e;cases e;rfl
 rename_i e;rw[h]at e;cases e
theorem lr{l r:aQ}{xs:List Int}{c n:Int}(h:nS l=some (r,none,n)):ki l xs c=ki r xs (c+n):=by
 have hl:l≠[]:=fun e=>by have:=mX h;rw[e]at this;exact absurd this (Nat.not_lt_zero _)
 rw[ki,if_neg hl]
 split
 rename_i e;rw[h]at e;cases e
 rename_i e;rw[h]at e;cases e
 rename_i e;rw[h]at e;cases e;rfl
theorem qN{l:aQ}{xs:List Int}{c:Int}(hl:l≠[])(h:nS l=none):ki l xs c=none:=by
 rw[ki,if_neg hl]
 split
 rfl
 rename_i e;rw[h]at e;cases e
 rename_i e;rw[h]at e;cases e
def pR(f:Bool)(n:Int):aQ:=if n<0 then[45]else if f then[43]else[]
def oS(n:Int):aQ:=if n.natAbs=1 then[]else decDigits n.natAbs
def pX:Bool→Nat→List Int→aQ
  | _,_,[]=>[]
  | f,i,c::r=>if c=0 then pX f (i+1) r else pR f c++oS c++(i8 i::pX true (i+1) r)
def pK(f:Bool)(c:Int):aQ:=if c=0 then[]else pR f c++decDigits c.natAbs
def ne(s:aQ):Bool:=!s.isEmpty
theorem qq(out:aQ)(n:Int):ei out n=pR (ne out) n:=by
 unfold ei pR ne;cases out<;>simp
theorem sN: ∀(xs:List Int) (i:Nat) (out:aQ),tX i xs out=out++pX (ne out) i xs
 | [],i,out=>by simp[tX,pX]
 | c::r,i,out=>by
  rw[tX,sN r,pX]
  unfold tC
  by_cases h:c=0
  simp[h]
  rw[if_neg h,if_neg h,qq]
  have:ne (out++pR (ne out) c++(if c.natAbs=1 then[]else decDigits c.natAbs)++[i8 i])=true:=by simp[ne]
  rw[this]
  simp[oS]
theorem vm(out:aQ)(c:Int):tK out c=out++pK (ne out) c:=by
 unfold tK pK
 by_cases h:c=0
 simp[h]
 rw[if_neg h,if_neg h,qq];simp
theorem ql(c:Int)(xs:List Int):ux c xs=tZ (pX false 0 xs++pK (ne (pX false 0 xs)) c):=by
 unfold ux
 rw[vm,sN];simp[ne]
theorem lw{i:Nat}(h:i<10):(i8 i).toNat=97+i:=by
 unfold i8;rw[UInt8.toNat_ofNat'];omega
theorem lx{i:Nat}(h:i<10):rD (i8 i)=true:=by unfold rD;rw[lw h];simp;omega
theorem oI{i:Nat}(h:i<10):kv (i8 i)=false:=by unfold kv;rw[lw h];simp;omega
theorem qW{b:UInt8}(h:kv b=true∨rD b=true):b≠45∧b≠43:=by
 constructor<;>(rintro rfl;revert h;decide)
theorem mi{f:Bool}{n:Int}{l:aQ}(h:n<0∨∃b r,l=b::r∧(kv b=true∨rD b=true))(hl:n<0→True):jk (pR f n++l)=(if n<0 then -1 else 1,l):=by
 unfold pR
 by_cases hn:n<0
 rw[if_pos hn,if_pos hn];rfl
 rw[if_neg hn,if_neg hn]
 obtain⟨b,r,rfl,hb⟩:=h.resolve_left hn
 have:=qW hb
 cases f with
 | true=>rfl
 | false=>simp only[Bool.false_eq_true,if_false,List.nil_append];rw[jk,if_neg this.1,if_neg this.2]
theorem ix(n:Int):(if n<0 then -1 else 1)*(n.natAbs:Int)=n:=by
 by_cases h:n<0
 rw[if_pos h];omega
 rw[if_neg h];omega
theorem uI{m:Nat}(h:m<100000000):nDigits m≤8:=e5 (k:=7) (by simpa using h)
theorem jO(m:Nat)(l:aQ): ∃b r,decDigits m++l=b::r∧kv b=true:=by
 cases h:decDigits m with
 | nil=>exact absurd h (cM m)
 | cons b r=>exact⟨b,r++l,Z,ct m b (by rw[h];simp)⟩
theorem oJ(m:Nat):0<(decDigits m).length:=List.length_pos_iff.2 (cM m)
theorem nn{m:Nat}(h:m<100000000){b:UInt8}{r:aQ}(hb:kv b=false):bG 8 0 (decDigits m++b::r)=((m:Int),b::r):=by
 rw[kK m 8 0 _ (uI h),gv hb];simp
theorem pd{m:Nat}(h:m<100000000):bG 8 0 (decDigits m)=((m:Int),([]:aQ)):=by
 have:=kK m 8 0 [] (uI h)
 rw[List.append_nil]at this
 rw[this,kI];simp
theorem r3{f:Bool}{c:Int}{i:Nat}{r:aQ}(hi:i<10)(h0:c≠0)(hc:c.natAbs<100000000):nS (pR f c++oS c++(i8 i::r))=some (r,some i,c):=by
 have hd: ∃b q,oS c++(i8 i::r)=b::q∧(kv b=true∨rD b=true):=by
  unfold oS
  split
  exact⟨_,_,Z,.inr (lx hi)⟩
  obtain⟨b,q,h1,h2⟩:=jO c.natAbs (i8 i::r)
  exact⟨b,q,h1,.inl h2⟩
 unfold nS
 rw[dz,mi (.inr hd) (fun _=>trivial)]
 simp only
 have hr:bG 8 0 (oS c++(i8 i::r))=(if c.natAbs=1 then 0 else(c.natAbs:Int),i8 i::r):=by
  unfold oS
  by_cases h:c.natAbs=1
  rw[if_pos h,if_pos h];exact gv (oI hi)
  rw[if_neg h,if_neg h];exact nn hc (oI hi)
 rw[hr]
 simp only[lx hi,if_true,lw hi,Nat.add_sub_cancel_left]
 have e:(if c<0 then -1 else 1)*(if(i8 i::r).length=(oS c++i8 i::r).length then 1 else if c.natAbs=1 then 0 else(c.natAbs:Int))=c:=by
  by_cases h:c.natAbs=1
  have:oS c=[]:=by unfold oS;rw[if_pos h]
  rw[this,if_pos (show(i8 i::r).length=(([]:aQ)++i8 i::r).length from Z),Int.mul_one]
  have e2:=ix c;rw[h]at e2;simpa only[Int.natCast_one,Int.mul_one]using e2
  have:oS c=decDigits c.natAbs:=by unfold oS;rw[if_neg h]
  rw[this,if_neg h,if_neg (show¬(i8 i::r).length=(decDigits c.natAbs++i8 i::r).length by have:=oJ c.natAbs;rw[dS];omega)]
  exact ix c
 rw[e]
theorem r4{f:Bool}{c:Int}(h0:c≠0)(hc:c.natAbs<100000000):nS (pR f c++decDigits c.natAbs)=some ([],none,c):=by
 have hd: ∃b q,decDigits c.natAbs=b::q∧(kv b=true∨rD b=true):=by
  obtain⟨b,q,h1,h2⟩:=jO c.natAbs []
  rw[List.append_nil]at h1
  exact⟨b,q,h1,.inl h2⟩
 unfold nS
 rw[mi (.inr hd) (fun _=>trivial)]
 simp only
 rw[pd hc]
 simp only
 rw[if_neg (show¬([]:aQ).length=(decDigits c.natAbs).length by have:=oJ c.natAbs;simp only[List.length_nil];omega),ix]
def iK:Nat→List Int→List Int→List Int
  | _,[],ys=>ys
  | i,c::r,ys=>iK (i+1) r (dj ys i c)
theorem nG{ys:List Int}{i:Nat}:dj ys i 0=ys:=by
 unfold dj
 rw[Int.add_zero]
 apply List.ext_getElem?
 intro j
 rw[List.getElem?_set]
 split
 rename_i h;subst h
 split
 rename_i h;simp[List.getD_eq_getElem?_getD,h]
 rename_i h;rw[List.getElem?_eq_none (by omega)]
 rfl
theorem k9: ∀(xs:List Int) (i:Nat) (f:Bool) (ys:List Int) (c0:Int) (t:aQ),i+xs.length≤10→(∀x∈xs,x.natAbs<100000000)→ki (pX f i xs++t) ys c0=ki t (iK i xs ys) c0
 | [],i,f,ys,c0,t,_,_=>rfl
 | c::r,i,f,ys,c0,t,hi,hx=>by
  rw[pX,iK]
  simp only[fh]at hi
  by_cases h:c=0
  rw[if_pos h,k9 r (i+1) f ys c0 t (by omega) (fun x hx'=>hx x (List.mem_cons_of_mem _ hx')),h,nG]
  rw[if_neg h,dz,List.cons_append,ot (r3 (by omega) h (hx c (List.mem_cons_self ..))),k9 r (i+1) true _ c0 t (by omega) (fun x hx'=>hx x (List.mem_cons_of_mem _ hx'))]
theorem tQ{c:Int}{xs:List Int}(hl:xs.length≤10)(hx: ∀x∈xs,x.natAbs<100000000)(hc:c.natAbs<100000000)(ys:List Int):ki (ux c xs) ys 0=some (iK 0 xs ys,c):=by
 rw[ql]
 unfold tZ
 by_cases h:pX false 0 xs++pK (ne (pX false 0 xs)) c=[]
 rw[if_pos h]
 obtain⟨h1,h2⟩:=List.append_eq_nil_iff.1 h
 have z0:c=0:=by
  unfold pK at h2
  by_cases h0:c=0
  exact h0
  rw[if_neg h0]at h2
  exact absurd (List.append_eq_nil_iff.1 h2).2 (cM _)
 have hp:=k9 xs 0 false ys 0 [] (by omega) hx
 rw[h1,List.append_nil,fT,fT]at hp
 have:nS [48]=some ([],none,0):=by decide
 rw[lr this,fT,z0]
 simp only[du,Prod.mk.injEq]at hp
 rw[←hp.1];simp
 rw[if_neg h,k9 xs 0 false ys 0 _ (by omega) hx]
 unfold pK
 by_cases h0:c=0
 rw[if_pos h0,fT,h0]
 rw[if_neg h0,lr (r4 h0 hc),fT,Int.zero_add]
end Go.Al
/- Terms as texts, in plain Lean: the reference's reader. -/
namespace Go.Al
variable{L:Nat}(h1:4096≤L)(h2:L≤1073741824)
open Go.Lib
def zr(k:Nat):List Int:=List.replicate k 0
theorem rQ(k:Nat):zr (k+1)=0::zr k:=rfl
theorem pA(pre:List Int)(k:Nat)(c:Int):dj (pre++zr (k+1)) pre.length c=(pre++[c])++zr k:=by
 unfold dj
 rw[rQ]
 simp[List.getD_eq_getElem?_getD]
theorem kM: ∀(xs pre:List Int) (k:Nat),xs.length≤k→iK pre.length xs (pre++zr k)=(pre++xs)++zr (k-xs.length)
 | [],pre,k,_=>by simp[iK]
 | c::r,pre,k,h=>by
  simp only[fh]at h
  obtain⟨j,rfl⟩: ∃j,k=j+1:=⟨k-1,by omega⟩
  rw[iK,pA,show pre.length+1=(pre++[c]).length by simp,kM r (pre++[c]) j (by omega)]
  simp[Nat.add_sub_add_right]
theorem qO{xs:List Int}(h:xs.length≤10):iK 0 xs (zr 10)=xs++zr (10-xs.length):=by
 have:=kM xs [] 10 h
 simpa using this
end Go.Al
/- Sequents as texts, in plain Lean: cutting and splitting; both readers accept just the written sequents. -/
namespace Go.Al
variable{L:Nat}(h1:4096≤L)(h2:L≤1073741824)
open Go.Lib
def b0(c:UInt8):aQ→List aQ
  | []=>[[]]
  | b::r=>if b=c then[]::b0 c r else(b::(b0 c r).headD [])::(b0 c r).tail
theorem po(c b:UInt8)(l:aQ):index (b::l) [c]=if b=c then 0 else if index l [c]= -1 then -1 else index l [c]+1:=by
 rw[index]
 by_cases h:b=c
 subst h;simp
 have h2:([c].isPrefixOf (b::l))=false:=by simp[List.isPrefixOf,Ne.symm h]
 rw[h2,if_neg h];simp
theorem im(c:UInt8): ∀s:aQ,split s [c]=b0 c s
 | []=>by
  have:index ([]:aQ) [c]= -1:=rfl
  unfold split
  rw[count_miss this];rfl
 | b::l=>by
  have ih:=im c l
  unfold split at ih ⊢
  have hi:=po c b l
  by_cases h:b=c
  rw[if_pos h]at hi
  rw[count_hit (i:=0) (by simp) (by rw[hi];rfl),Nat.add_comm 1,splitK,hi,b0,if_pos h]
  simp only[show((0:Int)== -1)=false from Z]
  simp only[Bool.false_eq_true,if_false]
  simp[ih]
  rw[if_neg h]at hi
  rw[b0,if_neg h]
  by_cases h2:index l [c]= -1
  rw[if_pos h2]at hi
  rw[count_miss hi]
  rw[count_miss h2]at ih
  rw[←ih];rfl
  rw[if_neg h2]at hi
  have hge:=index_ge l [c]
  obtain⟨i,hi2⟩: ∃i:Nat,index l [c]=i:=⟨(index l [c]).toNat,by omega⟩
  rw[hi2]at hi
  rw[count_hit (i:=i) (by simp) hi2,Nat.add_comm 1,splitK,hi2]at ih
  rw[count_hit (i:=i+1) (by simp) (by rw[hi];rfl),Nat.add_comm 1,splitK,hi]
  have e1:((i:Int)== -1)=false:=by rw[beq_eq_false_iff_ne];omega
  have e2:(((i:Int)+1)== -1)=false:=by rw[beq_eq_false_iff_ne];omega
  rw[e1]at ih
  rw[e2]
  simp only[Bool.false_eq_true,if_false,Int.toNat_natCast,Nat.add_zero]at ih ⊢
  rw[←ih]
  have e3:((i:Int)+1).toNat=i+1:=by omega
  simp[e3]
theorem ol{c:UInt8}: ∀{p:aQ} (r:aQ),c ∉ p→b0 c (p++c::r)=p::b0 c r
 | [],r,_=>by rw[List.nil_append,b0,if_pos Z]
 | b::p,r,h=>by
  rw[List.cons_append,b0,if_neg (fun e=>h (by rw[e];exact List.mem_cons_self ..)),ol r (fun hh=>h (List.mem_cons_of_mem _ hh))]
  rfl
def wL(c:UInt8):List aQ→aQ
  | []=>[]
  | p::r=>p++c::wL c r
abbrev bp:aQ:=[61,62]
section
variable{T:Type}(tx:T→aQ)(ok:T→Bool)(rd:aQ→Option T)
def bH : List aQ→Option (List T)
  | []=>some []
  | s :: r=>match rd s with
    | none=>none
    | some t=>match bH r with
      | none=>none
      | some ts=>some (t::ts)
variable{tx ok rd}
end
end Go.Al
/- Terms and sequents as texts: what both readers accept. -/
namespace Go.Al
variable{L:Nat}(h1:4096≤L)(h2:L≤1073741824)
open Go.Lib
abbrev tS(t:Tm):aQ:=ux t.c t.xs
theorem od{xs:List Int}: ∀k,aS (xs++zr k)=aS xs
 | 0=>by simp[zr]
 | k+1=>by
  have:zr (k+1)=zr k++[0]:=List.replicate_succ'
  rw[this,←dz,kE,od k]
theorem rU{t:Tm}(h:t.ok=true):aS t.xs=t.xs:=by
 have h1:=(xb.1 h).2.2.2
 have:=f4 (xs:=t.xs) (n:=t.xs.length) (bP _) (by
  rcases h1 with h1|h1
  · left;rw[h1];rfl
  · exact .inr h1)
 simpa using this
theorem oy{n:Int}(h:dT n=true):n.natAbs≤1000000:=by
 have:=wc.1 h;omega
theorem lc{t:Tm}(h:t.ok=true):t.c.natAbs≤1000000∧(∀x∈t.xs,x.natAbs≤1000000)∧t.xs.length≤10:=by
 obtain⟨h1,h2,h3,_⟩:=xb.1 h
 exact⟨oy h1,fun x hx=>oy (List.all_eq_true.1 h2 x hx),h3⟩
def mS(s:aQ):Option Tm:=match ki s (zr 10) 0 with
  | none=>none
  | some x=>if(Tm.mk x.2 (aS x.1)).ok=true∧tS ⟨x.2,aS x.1⟩=s then some ⟨x.2,aS x.1⟩else none
theorem r8(s:aQ)(t:Tm):mS s=some t↔t.ok=true∧s=tS t:=by
 unfold mS
 constructor
 intro h
 split at h
 cases h
 split at h
 rename_i hc
 cases h
 exact⟨hc.1,hc.2.symm⟩
 cases h
 rintro⟨h1,rfl⟩
 obtain⟨h2,h3,h4⟩:=lc h1
 rw[tQ h4 (fun x hx=>by have:=h3 x hx;omega) (by omega),qO h4]
 simp only
 rw[od,rU h1,if_pos ⟨h1,rfl⟩]
def nX(b:UInt8):Prop:=kv b=true∨rD b=true∨b=43∨b=45
theorem mg{f:Bool}{n:Int}: ∀b∈pR f n,nX b:=by
 intro b hb
 unfold pR at hb
 split at hb
 rw[List.mem_singleton.1 hb];exact .inr (.inr (.inr Z))
 split at hb
 rw[List.mem_singleton.1 hb];exact .inr (.inr (.inl Z))
 cases hb
theorem lu: ∀{xs:List Int} {f:Bool} {i:Nat},i+xs.length≤10→∀b∈pX f i xs,nX b
 | [],f,i,_,b,hb=>by cases hb
 | c::r,f,i,hi,b,hb=>by
  simp only[fh]at hi
  rw[pX]at hb
  split at hb
  exact lu (by omega) b hb
  simp only[List.mem_append,List.mem_cons]at hb
  rcases hb with(hb|hb)|rfl|hb
  exact mg b hb
  unfold oS at hb
  split at hb
  cases hb
  exact .inl (ct _ b hb)
  exact .inr (.inl (lx (by omega)))
  exact lu (by omega) b hb
theorem rX{t:Tm}(h:t.ok=true): ∀b∈tS t,nX b:=by
 intro b hb
 rw[tS,ql]at hb
 unfold tZ at hb
 split at hb
 rw[List.mem_singleton.1 hb];exact .inl (by decide)
 rcases List.mem_append.1 hb with hb|hb
 exact lu (by have:=(lc h).2.2;omega) b hb
 unfold pK at hb
 split at hb
 cases hb
 rcases List.mem_append.1 hb with hb|hb
 exact mg b hb
 exact .inl (ct _ b hb)
theorem fY{m:Nat}(h:m≤1000000):(decDigits m).length≤7:=by
 rw[decDigits_eq,cj,List.length_range]
 exact e5 (k:=6) (by omega)
theorem tI{out:aQ}{i:Nat}{c:Int}(h:c.natAbs≤1000000):(tC out i c).length≤out.length+9:=by
 unfold tC
 split
 omega
 have h1:(ei out c).length≤1:=by
  unfold ei
  split
  simp
  split<;>simp
 have h2:(if c.natAbs=1 then[]else decDigits c.natAbs).length≤7:=by
  split
  simp
  exact fY h
 simp only[dS,oP];omega
theorem qm: ∀{xs:List Int} {i:Nat} {out:aQ},(∀x∈xs,x.natAbs≤1000000)→(tX i xs out).length≤out.length+9*xs.length
 | [],i,out,_=>by simp[tX]
 | c::r,i,out,h=>by
  rw[tX]
  have h1:=qm (i:=i+1) (out:=tC out i c) (fun x hx=>h x (List.mem_cons_of_mem _ hx))
  have h2:=tI (out:=out) (i:=i) (h c (List.mem_cons_self ..))
  simp only[fh];omega
theorem oh: ∀(xs:List Int) (i:Nat) (c:Int) (out:aQ),tX i (xs++[c]) out=tC (tX i xs out) (i+xs.length) c
 | [],i,c,out=>by simp[tX]
 | x::r,i,c,out=>by
  rw[List.cons_append,tX,oh r,tX,fh,show i+1+r.length=i+(r.length+1) by omega]
theorem tG{out:aQ}{c:Int}(h:c.natAbs≤1000000):(tK out c).length≤out.length+8:=by
 unfold tK
 split
 omega
 have h1:(ei out c).length≤1:=by
  unfold ei
  split
  simp
  split<;>simp
 have h2:=fY h
 simp only[dS];omega
theorem tF{t:Tm}(h:t.ok=true):(tS t).length≤100:=by
 obtain⟨h1,h2,h3⟩:=lc h
 have h4:=qm (i:=0) (out:=[]) h2
 have h5:=tG (out:=tX 0 t.xs []) h1
 unfold tS ux tZ
 split
 decide
 simp only[List.length_nil]at h4;omega
abbrev fm(s:aQ):A:=.c (.d (sD s))
theorem sF{m:Nat}(h:m<100000000000000000000):(Lib.decDigits m).length≤20:=by
 rw[Lib.decDigits_eq,cj,List.length_range]
 exact e5 (k:=19) (by omega)
theorem mf{o:aQ}{n:Int}:(ei o n).length≤1:=by
 unfold ei
 split
 simp
 split<;>simp
theorem gW(a:Nat):Lib.itoa (a:Int)=Lib.decDigits a:=by
 unfold Lib.itoa
 rw[if_neg (by omega),Int.toNat_natCast]
end Go.Al
/- What three functions of Go's library answer, as contracts of the abstract logic. -/
namespace Go.Al
variable{L:Nat}(h1:4096≤L)(h2:L≤1073741824)
theorem nx{w:World}{k:Nat}{os:Array Obj}:Frame w (Go.Sort.grow (w.drewN k) os) []:=by
 refine⟨Z,Z,Z,?_,fun b hb _=>?_⟩
 show w.heap.size≤(w.heap++os).size
 rw[Array.size_append];omega
 show(w.heap++os)[b]? = w.heap[b]?
 exact Array.getElem?_append_left hb
theorem lp{P:Program}{L f:Nat}{args:List A}{v:A}(hc:fJ P f)
    (h: ∀(w:World) (ok:Nat→Prop) (m:Nat→Loc) (vs:List Value),GOk P w ok→RAs L w ok m args vs→Calls P f vs.toArray w (lY fun x w'=>Frame w w' []∧∀ok' m',(∀b,w.heap.size≤b→ok' b)→RA L w' ok' m' v x)):MC P L f args [] (Plain v):=by
 refine⟨hc,fun w m F ok vs h0 h1 h2 h3 h4 h5=>?_⟩
 cases h1
 refine Calls.mono (h w ok m vs h0 h5) fun e w' he=>?_
 cases e with
 | returned x=>
  obtain⟨hf,hx⟩:=he
  exact⟨v,[],m,[],⟨Z,Z⟩,.nil,List.nodup_nil,(by simp),hx _ _ (fun b hb=>⟨by simp,.inr (.inl hb)⟩),hf,fun _ _ _=>rfl,h4⟩
 | _=>exact he
theorem RA.str_inv{L w ok m}{s:ByteArray}{x:Value}(h:RA L w ok m (.c (.d (.str s))) x):x= .string s∧s.size≤L:=by
 cases h with|c h=>cases h with|d h=>cases h with|str h=>exact⟨rfl,h⟩
theorem iZ{L w ok m}{k:IntKind}{n:Int}{x:Value}(h:RA L w ok m (.c (.d (.int k n))) x):x= .int k n:=by
 cases h with|c h=>cases h with|d h=>cases h with|int h1 h2=>rfl
theorem GOk.tab{P:Program}{w:World}{ok:Nat→Prop}(h:GOk P w ok){g:Nat}(hg:P.globalNamed "internal/strconv.uint64pow10" = some g):Lib.TabIs P w "internal/strconv.uint64pow10" .u64 Lib.pow10Tab:=by
 obtain⟨_,cs,h1,h2⟩:=h "internal/strconv.uint64pow10" g (by simp[GN]) hg
 rw[GF.tab h2 Z]at h1
 exact h1
theorem GOk.maxLen{P:Program}{w:World}{ok:Nat→Prop}(h:GOk P w ok){g:Nat}(hg:P.globalNamed "internal/bytealg.MaxLen" = some g): ∃m,w.cell? ⟨g,0,none⟩=some (.int .i64 m):=by
 obtain⟨_,cs,h1,h2⟩:=h "internal/bytealg.MaxLen" g (by simp[GN]) hg
 obtain⟨m,hm⟩:=GF.len h2 rfl
 refine⟨m,?_⟩
 unfold World.var? at h1
 rw[hg,Option.bind_some]at h1
 split at h1
 rename_i cs' _ _ hb
 cases h1
 simp[World.cell?,hb,hm]
 cases h1
variable{n:Int}
theorem vM(hn0: -9223372036854775808≤n)(hn1:n≤9223372036854775807):MQ h1 h2 115 [eI n,eI 10] [] (Plain (fm (Lib.itoa n))):=by
 refine lp ⟨_,_,Tryz.func115,by kernel_rfl,Z⟩ fun w ok m vs h0 h5=>?_
 cases h5 with
 | cons a1 a2=>cases a2 with
  | cons a3 a4=>
   cases a4
   rw[iZ a1,iZ a3]
   refine Calls.mono (Tryz.strconv_FormatInt_10 n hn0 hn1 w (h0.tab (g:=1) (by kernel_rfl))) fun e w' ⟨he,k,os,hw⟩=>?_
   subst he hw
   refine⟨nx,fun ok' m' _=>.c (.d (.str ?_))⟩
   show(bS (Lib.itoa n)).size≤L
   rw[ca]
   have hd: ∀m:Nat,m≤9223372036854775808→(Lib.decDigits m).length≤20:=fun m hm=>sF (by omega)
   unfold Lib.itoa
   split
   ·
    have:=hd n.natAbs (by omega);rw[fh];omega
   ·
    have:=hd n.toNat (by omega);omega
theorem iL(s:aQ):(bS s).data.toList=s:=by simp[bS]
theorem gt{sep:aQ}: ∀{k:Nat} {s:aQ},∀p∈Lib.splitK sep 0 k s,p.length≤s.length
 | 0,s,p,hp=>by rw[List.mem_singleton.1 hp];exact bP _
 | k+1,s,p,hp=>by
  rw[Lib.splitK]at hp
  split at hp
  rw[List.mem_singleton.1 hp];exact bP _
  rcases List.mem_cons.1 hp with rfl|hp
  rw[List.length_take];omega
  have:=gt p hp
  rw[List.length_drop]at this;omega
abbrev strs(ss:List aQ):D:=.slc 1 (ss.map fun p=>[sD p])
theorem mG{L:Nat}{w:World}{ok:Nat→Prop}{b:Nat}: ∀{ss:List aQ} {o:Nat},(∀p∈ss,p.length≤L)→(∀j p,ss[j]? = some p→w.cell? ⟨b,o+j,none⟩=some (.string (bS p)))→RDs L w ok (ss.map fun p=>[sD p]).flatten b o []
 | [],o,_,_=>.nil
 | p::r,o,h1,h2=>by
  simp only[List.map_cons,List.flatten_cons,List.singleton_append]
  refine .cons (F1:=[]) (F2:=[]) (h2 0 p Z) (.str (by rw[ca];exact h1 p (List.mem_cons_self ..))) (mG (fun q hq=>h1 q (List.mem_cons_of_mem _ hq)) fun j q hq=>?_)
  have:=h2 (j+1) q hq
  rwa[show o+1+j=o+(j+1) by omega]
theorem s6{s sep:aQ}(hne:sep≠[])(hl:(Lib.split s sep).length≤L):MQ h1 h2 31 [fm s,fm sep] [] (Plain (.c (.d (strs (Lib.split s sep))))):=by
 refine lp ⟨_,_,Tryz.func31,by kernel_rfl,Z⟩ fun w ok m vs h0 h5=>?_
 cases h5 with
 | cons a1 a2=>cases a2 with
  | cons a3 a4=>
   cases a4
   obtain⟨rfl,l1⟩:=a1.str_inv
   obtain⟨rfl,l2⟩:=a3.str_inv
   obtain⟨k,hk⟩:=h0.maxLen (g:=0) (by kernel_rfl)
   rw[ca]at l1
   refine Calls.mono (Tryz.strings_Split (bS s) (bS sep) k w (by rw[ca];omega) hk (by rw[ca];exact List.length_pos_iff.2 hne)) fun e w' ⟨he,hw⟩=>?_
   subst he hw
   have hd:=Lib.splitB_data (bS sep) 0 (Lib.countB (bS s) (bS sep)) (bS s)
   have hc:Lib.countB (bS s) (bS sep)=Lib.count s sep:=by show Lib.count (bS s).data.toList (bS sep).data.toList=_;rw[iL,iL]
   rw[hc]at hd ⊢
   rw[iL,iL]at hd
   have hd2:Lib.splitB (bS sep) 0 (Lib.count s sep) (bS s)=(Lib.split s sep).map bS:=by
    have:=congrArg (List.map bS) hd
    rw[List.map_map]at this
    rw[show(Lib.split s sep)=Lib.splitK sep 0 (Lib.count s sep) s from Z,←this]
    conv=>lhs;rw[←List.map_id (Lib.splitB (bS sep) 0 (Lib.count s sep) (bS s))]
    exact List.map_congr_left fun x _=>(sI x).symm
   have hall:=Lib.splitB_all (bS sep) (by rw[ca];exact List.length_pos_iff.2 hne) 0 _ (bS s) Z
   rw[hc,hd2,cj]at hall
   refine⟨⟨Z,Z,Z,by show w.heap.size≤(w.heap.push _).size;rw[Array.size_push];omega,fun b hb _=>by show(w.heap.push _)[b]? = _;rw[Array.getElem?_push,if_neg (by omega)]⟩,fun ok' m' hok=>.c (.d ?_)⟩
   rw[hd2,←hall]
   rw[show(Lib.split s sep).length=((Lib.split s sep).map fun p=>[sD p]).length by rw[cj]]
   refine .slc (by rw[cj];exact hl) (bP _) (by intro e he;obtain⟨p,_,rfl⟩:=List.mem_map.1 he;rfl) (hok _ (bP _)) (by show w.heap.size<(w.heap.push _).size;rw[Array.size_push];omega) (mG (fun p hp=>Nat.le_trans (gt p hp) l1) fun j p hj=>?_)
   rw[Nat.zero_add]
   have hb:(w.alloc (.cells (((Lib.split s sep).map bS).map Value.string).toArray 9)).heap[w.heap.size]? = some (.cells (((Lib.split s sep).map bS).map Value.string).toArray 9):=by
    show(w.heap.push _)[w.heap.size]? = _
    rw[Array.getElem?_push_size]
   rw[cell_of_row _ _ _ _ _ _ hb]
   simp[hj]
theorem l6(hn0: -9223372036854775808≤n)(hn1:n≤9223372036854775807):MQ h1 h2 68 [eI n] [] (Plain (fm (Lib.itoa n))):=by
 refine aH ?_ Z
 refine jB 5 h1 h2 Tryz.func68 Z fun O hF=>?_
 refine af (js Z (aZ (js Z (jf [3,2] Z (bE Z (vM (n:=n) h1 h2 hn0 hn1) 5000 Z (js Z (jf [2] Z (jr ?_))))))))
 refine aC Z ?_
 rfl
theorem s5{o:aQ}(ho:o.length≤1000):MQ h1 h2 113 [eI n,.c (.pt 0 0 0)] [(0,.box [.d (sD o)])] (cD (.tup []) [(0,.box [.d (sD (o++ei o n))])]):=by
 refine jH 11 [0] h1 h2 Tryz.func113 Z fun O hF=>?_
 refine af (ac Z (jf [4,1] Z (jn (ar Z (fun z4=>?_) (fun z4=>?_)))))
 refine ag (js Z (aj (c8 (p:=o) (q:=[45]) O Z Z Z Z Z Z (by show o.length+1≤L;omega) (by show L≤_;omega)) Z (jf [6,1] Z (jo Z (au ?_)))))
 refine jn ?_
 show _∧_
 refine⟨.inr Z,_,cn,_,Z,Z,?_⟩
 rw[show ei o n=[45] by unfold ei;rw[if_pos (cN z4)]]
 refine af (js Z (aj (oL (p:=o) (q:=[]) O Z Z Z Z Z Z) Z (jf [8,1] Z (jn (ar Z (fun z8=>?_) (fun z8=>?_))))))
 refine ag (js Z (aj (c8 (p:=o) (q:=[43]) O Z Z Z Z Z Z (by show o.length+1≤L;omega) (by show L≤_;omega)) Z (jf [10,1] Z (jo Z (au ?_)))))
 refine jn ?_
 show _∧_
 refine⟨.inr Z,_,cn,_,Z,Z,?_⟩
 rw[show ei o n=[43] by unfold ei;rw[if_neg (de z4),if_neg (by simpa using z8)]]
 refine al ?_
 show _∧_
 refine⟨.inr Z,_,cn,_,Z,Z,?_⟩
 rw[show ei o n=[] by unfold ei;rw[if_neg (de z4),if_pos (by simpa using z8)],List.append_nil]
theorem rY{o:aQ}{i:Nat}{c:Int}(h:c=0):tC o i c=o:=by unfold tC;rw[if_pos h]
theorem tH{o:aQ}{i:Nat}{c:Int}(h: ¬c=0):tC o i c=(o++ei o c++(if c.natAbs=1 then[]else Lib.decDigits c.natAbs))++[i8 i]:=by unfold tC;rw[if_neg h]
theorem s7{t:Tm}(ht:t.ok=true):MQ h1 h2 67 [cP t] [] (Plain (fm (tS t))):=by
 refine aH ?_ Z
 refine jB 52 h1 h2 Tryz.func67 Z fun O hF=>?_
 obtain⟨z6,hx6,hl10⟩:=lc ht
 have hl:t.xs.length≤L:=by omega
 refine af (jx Z (au ?_))
 refine js Z (aZ (jl Z (au ?_)))
 refine jo Z (au ?_)
 refine aZ (ac Z (jn (ah (af (ac Z ?_)))))
 first|refine eh Z ?_|refine js Z ?_|refine cf Z Z ?_
 refine js Z (jn (ak (av (X:=Nat×aQ) (fun z=>⟨[(1,.c (.pt 1 0 0)),(3,.c (.pt 3 0 0)),(4,.c (.fn 113 [.pt 3 0 0])),(9,bD t.xs),(10,eI t.xs.length),(11,eI (z.1:Nat))],[(1,.box [.d (.int .i64 t.c),.d (dV t.xs)]),(3,.box [.d (sD z.2)])]⟩) (fun z=>z.1≤t.xs.length∧z.2=tX 0 (t.xs.take z.1) []∧z.2.length≤9*z.1) (fun z=>t.xs.length-z.1) (0,[]) (Ent.to ⟨Z,Z,Z,Z,Z,Z,aq⟩ Z) ?_ (fun z hi=>?_))))
 exact⟨fg _,by show[]=tX 0 (t.xs.take 0) [];simp[tX],bP _⟩
 refine af (js Z (jn (ah (ar Z (fun z12=>?_) (fun z12=>?_)))))
 refine al (ah (ak (af (js Z ?_))))
 first|refine uA Z Z ?_|refine sM Z Z ?_|refine cf Z Z ?_
 refine aW Z (jf [6,5,12,1,3,4,9,10,11] Z (jn (ah (af ?_))))
 have hz1:z.1<t.xs.length:=by have:=cN z12;omega
 obtain⟨n,hn⟩: ∃n,n=(t.xs.getD z.1 default):=⟨_,rfl⟩
 rw[←hn]
 have hna:n.natAbs≤1000000:=by rw[hn,am hz1];exact hx6 _ (List.getElem_mem hz1)
 have hstep:tX 0 (t.xs.take (z.1+1)) []=tC z.2 z.1 n:=by rw[List.take_succ_eq_append_getElem hz1,oh,List.length_take,Nat.min_eq_left (by omega),Nat.zero_add,hi.2.1,hn,am hz1]
 have hzl:z.2.length≤90:=by have:=hi.2.2;omega
 refine ac Z (jn (ar Z (fun z17=>?_) (fun z17=>?_)))
 refine bg (ag ?_)
 first|refine ji Z ?_|refine cf Z Z ?_
 refine js Z (jn ?_)
 refine⟨(z.1+1,z.2),Ent.to ⟨Z,Z,Z,Z,Z,Z,aq⟩ Z,⟨by show z.1+1≤_;omega,?_,by show z.2.length≤9*(z.1+1);omega⟩,by show t.xs.length-(z.1+1)<t.xs.length-z.1;omega⟩
 show z.2=_
 rw[hstep,rY (cN z17)]
 refine al (af (ac Z (aO O [3] (bin:=[.box [.d (sD z.2)]]) Z Z Z Z (s5 (n:=n) (o:=z.2) h1 h2 (by omega)) Z Z Z Z Z Z (B0:=21000) Z Z (au ?_))))
 obtain⟨o2,ho2⟩: ∃o,o=z.2++ei z.2 n:=⟨_,rfl⟩
 rw[←ho2]
 have h2l:o2.length≤z.2.length+1:=by have:=mf (o:=z.2) (n:=n);rw[ho2,dS];omega
 refine jf [17,16,6,5,12,1,3,4,9,10,11] Z (jn (ah (af (js Z (bE Z (rJ (x:=n) h1 h2 (by omega)) 23000 Z (js Z (jf [23,17,16,6,5,12,1,3,4,9,10,11] Z (jn ?_))))))))
 obtain⟨o3,ho3⟩: ∃o,o=o2++(if n.natAbs=1 then[]else Lib.decDigits n.natAbs):=⟨_,rfl⟩
 have hdl:(Lib.decDigits n.natAbs).length≤7:=fY hna
 have h3l:o3.length≤o2.length+7:=by rw[ho3,dS];split<;>simp<;>omega
 refine f2 ⟨[(1,.c (.pt 1 0 0)),(3,.c (.pt 3 0 0)),(4,.c (.fn 113 [.pt 3 0 0])),(9,bD t.xs),(10,eI t.xs.length),(11,eI (z.1:Nat)),(5,eI (z.1:Nat)),(6,eI n)],[(1,.box [.d (.int .i64 t.c),.d (dV t.xs)]),(3,.box [.d (sD o3)])]⟩ ?_ ?_
 refine ar Z (fun z23=>?_) (fun z23=>?_)
 refine lU [_,_,_,_,_,_] [pn [] 0 2,bc,pe [1] 0,pe [1,2] 1,pn (rg 0 4) 2 2,pe (rg 0 5) 2] [2,3,5] [_,_,_,_] (ai (kc Z (kc Z (V Z))) (kc Z (ai (cr O (B0:=27000) Z Z Z Z (rJ (x:=n) h1 h2 (by omega)) (aa Z) Z Z Z Z Z) (ai (cr O (B0:=28000) Z Z Z Z (l6 (n:=(n.natAbs:Int)) h1 h2 (by omega) (by omega)) (aa Z) Z Z Z Z Z) (ai (c8 (p:=o2) (q:=Lib.itoa (n.natAbs:Int)) O Z Z Z Z Z Z (by rw[gW];have:=fY hna;show o2.length+(Lib.decDigits n.natAbs).length≤L;omega) (by show L≤_;omega)) (ai (eS Z Z Z) trivial)))))) ?_
 refine xj ?_
 exact⟨Z,Ent.to ⟨Z,Z,Z,Z,Z,Z,Z,Z,aq⟩ (by rw[ho3,if_neg (by have:=z23;simp at this;omega),gW])⟩
 refine al ?_
 exact⟨Z,cn.trans (Ent.to ⟨Z,Z,Z,Z,Z,Z,Z,Z,aq⟩ (by rw[ho3,if_pos (by have:=z23;simp at this;omega),List.append_nil];rfl))⟩
 refine ag (ac Z ?_)
 first|refine ji Z ?_|refine cf Z Z ?_
 refine aj ((Val.conv (b:=true) (dt:=.int .i64) O Z Z Z (by kernel_rfl) (by kernel_rfl)).cast (v':=.c (.d (.int .i32 (97+z.1:Int)))) (by rw[dZ .i32 _ (by show(-2147483648:Int)≤_;omega) (by show _≤(2147483647:Int);omega)])) Z (aj ((pD (dt:=.int .i32) O Z Z Z (by kernel_rfl) (by kernel_rfl) (by omega) (by omega)).cast (v':=fm [i8 z.1]) (by rw[show(97+(z.1:Int)).toNat=97+z.1 by omega];rfl)) Z (aj (c8 (p:=o3) (q:=[i8 z.1]) O Z Z Z Z Z Z (by show o3.length+1≤L;omega) (by show L≤_;omega)) Z (jf [34,1,3,4,9,10,11,6] Z (jo Z (au ?_)))))
 refine jn (ag ?_)
 first|refine ji Z ?_|refine cf Z Z ?_
 refine js Z (jn ?_)
 refine⟨(z.1+1,o3++[i8 z.1]),Ent.to ⟨Z,Z,Z,Z,Z,Z,aq⟩ Z,⟨by show z.1+1≤_;omega,?_,by show(o3++[i8 z.1]).length≤9*(z.1+1);rw[dS,oP];omega⟩,by show t.xs.length-(z.1+1)<t.xs.length-z.1;omega⟩
 show o3++[i8 z.1]=_
 rw[hstep,tH (de z17),ho3,ho2]
 refine bg (ah (af ?_))
 obtain hz1:z.1=t.xs.length:=by have:=de z12;omega
 have hzl:z.2.length≤90:=by have:=hi.2.2;omega
 have ho:=hi.2.1
 rw[hz1,List.take_length]at ho
 refine aW Z (jf [38,12,1,3,4,9,10,11] Z (jn ?_))
 obtain⟨o5,ho5⟩: ∃o,o=tK z.2 t.c:=⟨_,rfl⟩
 refine f2 ⟨[(1,.c (.pt 1 0 0)),(3,.c (.pt 3 0 0))],[(1,.box [.d (.int .i64 t.c),.d (dV t.xs)]),(3,.box [.d (sD o5)])]⟩ ?_ ?_
 refine ar Z (fun z38=>?_) (fun z38=>?_)
 refine af (aW Z (jf [41,39,38,12,1,3,4,9,10,11] Z (aO O [3] (bin:=[.box [.d (sD z.2)]]) Z Z Z Z (s5 (n:=t.c) (o:=z.2) h1 h2 (by omega)) Z Z Z Z Z Z (B0:=43000) Z Z (au ?_))))
 refine jf [38,12,1,3,4,9,10,11] Z (jn (lU [_,_,_,_,_,_,_] [pn [] 0 2,bc,ay [1],pe [1,2] 0,pe [1,2,3] 1,pn (rg 0 5) 2 2,pe (rg 0 6) 2] [3,4,6] [_,_,_,_] (ai (kc Z (kc Z (V Z))) (kc Z (kc Z (ai (cr O (B0:=47000) Z Z Z Z (rJ (x:=t.c) h1 h2 (by omega)) (aa Z) Z Z Z Z Z) (ai (cr O (B0:=48000) Z Z Z Z (l6 (n:=(t.c.natAbs:Int)) h1 h2 (by omega) (by omega)) (aa Z) Z Z Z Z Z) (ai (c8 (p:=(z.2++ei z.2 t.c)) (q:=Lib.itoa (t.c.natAbs:Int)) O Z Z Z Z Z Z (by rw[gW];have:=fY z6;have h7:=mf (o:=z.2) (n:=t.c);show(z.2++ei z.2 t.c).length+(Lib.decDigits t.c.natAbs).length≤L;rw[dS];omega) (by show L≤_;omega)) (ai (eS Z Z Z) trivial))))))) ?_))
 refine xj ?_
 exact⟨Z,Ent.to ⟨Z,Z,aq⟩ (by rw[ho5,gW];unfold tK;rw[if_neg (by simpa using z38)])⟩
 refine al ?_
 exact⟨Z,cn.trans (Ent.to ⟨Z,Z,aq⟩ (by rw[ho5];unfold tK;rw[if_pos (by simpa using z38)]))⟩
 refine ah (af (js Z (aj (Val.seq (p:=o5) (q:=[]) O Z Z Z Z Z Z) Z (jn (ar Z (fun z50=>?_) (fun z50=>?_))))))
 refine af (js Z (jr ?_))
 refine aC Z ?_
 rw[show tS t=tZ o5 by rw[ho5,ho];rfl]
 unfold tZ
 rw[if_pos (cN z50)];rfl
 refine al (af (ac Z (jr ?_)))
 refine aC Z ?_
 rw[show tS t=tZ o5 by rw[ho5,ho];rfl]
 unfold tZ
 rw[if_neg (de z50)]
end Go.Al
/- Lemmas for the walk of the program's reader of vk. -/
namespace Go.Al
variable{L:Nat}(h1:4096≤L)(h2:L≤1073741824)
open Go.Lib
theorem fu{s:aQ}{i:Nat}(h:i<s.length):s[((i:Nat):Int).toNat]? = some (s.getD i 0):=by
 rw[Int.toNat_natCast,List.getElem?_eq_getElem h];simp[h]
theorem fX{s:aQ}{i:Nat}(h:i<s.length):s.drop i=s.getD i 0::s.drop (i+1):=by
 rw[List.drop_eq_getElem_cons h];simp[h]
theorem nV{b:UInt8}{n:Nat}(hn:n<256):((b.toNat:Int)=n)↔b=UInt8.ofNat n:=by
 constructor
 intro h
 apply UInt8.toNat_inj.1
 rw[UInt8.toNat_ofNat'];omega
 rintro rfl
 rw[UInt8.toNat_ofNat'];omega
abbrev bt(s:aQ)(i:Nat):Int:=((s.getD i 0).toNat:Int)
theorem s9(s:aQ)(i:Nat):0≤bt s i∧bt s i≤255:=by
 have:=(s.getD i 0).toNat_lt
 unfold bt;omega
theorem sb{s:aQ}{i:Nat}(h:i<s.length):jk (s.drop i)=if bt s i=45 then(-1,s.drop (i+1))else if bt s i=43 then(1,s.drop (i+1))else(1,s.drop i):=by
 rw[fX h,jk]
 have h1:bt s i=45↔s.getD i 0=45:=nV (b:=s.getD i 0) (n:=45) (by decide)
 have h2:bt s i=43↔s.getD i 0=43:=nV (b:=s.getD i 0) (n:=43) (by decide)
 by_cases e1:bt s i=45
 rw[if_pos e1,if_pos (h1.1 e1)]
 rw[if_neg e1,if_neg (fun e=>e1 (h1.2 e))]
 by_cases e2:bt s i=43
 rw[if_pos e2,if_pos (h2.1 e2)]
 rw[if_neg e2,if_neg (fun e=>e2 (h2.2 e)),←fX h]
theorem sa{s:aQ}{i:Nat}(h:i<s.length): ∃(sg:Int) (i1:Nat),jk (s.drop i)=(sg,s.drop i1)∧(i≤i1∧i1≤i+1∧i1≤s.length)∧(sg=1∨sg= -1)∧(if bt s i=45 then sg= -1∧i1=i+1 else if bt s i=43 then sg=1∧i1=i+1 else sg=1∧i1=i):=by
 rw[sb h]
 split
 exact⟨-1,i+1,Z,⟨by omega,by omega,by omega⟩,.inr Z,Z,Z⟩
 split
 exact⟨1,i+1,Z,⟨by omega,by omega,by omega⟩,.inl Z,Z,Z⟩
 exact⟨1,i,Z,⟨by omega,by omega,by omega⟩,.inl Z,Z,Z⟩
theorem qB{s:aQ}{i:Nat}:kv (s.getD i 0)=(decide (48≤bt s i)&&decide (bt s i≤57)):=by
 unfold kv bt
 congr 1<;>(apply Bool.eq_iff_iff.2;simp;omega)
theorem tY{s:aQ}{i:Nat}:rD (s.getD i 0)=(decide (97≤bt s i)&&decide (bt s i<107)):=by
 unfold rD bt
 congr 1<;>(apply Bool.eq_iff_iff.2;simp;omega)
theorem qL{s:aQ}{i k:Nat}{n:Int}(h:i<s.length)(h1:48≤bt s i)(h2:bt s i≤57):bG (k+1) n (s.drop i)=bG k (10*n+(bt s i-48)) (s.drop (i+1)):=by
 rw[fX h,bG,if_pos (by rw[qB];simp[h1,h2])]
theorem nl{s:aQ}{i i1:Nat}{n:Int}(h: ¬(i<s.length∧48≤bt s i∧bt s i≤57∧i<i1+8))(h0:i1≤i)(h8:i≤i1+8)(hl:i≤s.length):bG (8-(i-i1)) n (s.drop i)=(n,s.drop i):=by
 by_cases h1:i<s.length
 by_cases h2:i<i1+8
 rw[fX h1,gv]
 rw[qB]
 by_cases h3:48≤bt s i
 by_cases h4:bt s i≤57
 exact absurd ⟨h1,h3,h4,h2⟩ h
 simp[h4]
 simp[h3]
 rw[show 8-(i-i1)=0 by omega,bG]
 rw[List.drop_eq_nil_of_le (by omega),kI]
theorem tJ{s:aQ}{i i1 i2:Nat}{sg n:Int}(hs:jk (s.drop i)=(sg,s.drop i1))(hn:bG 8 0 (s.drop i1)=(n,s.drop i2))(h1:i1≤i2)(h2:i2≤s.length) :
    nS (s.drop i)=if i2<s.length∧97≤bt s i2∧bt s i2<107 then some (s.drop (i2+1),some ((s.getD i2 0).toNat-97),sg*(if i2=i1 then 1 else n))else if i2=i1 then none else some (s.drop i2,none,sg*n):=by
 unfold nS
 simp only[hs,hn]
 have hl:((s.drop i2).length=(s.drop i1).length)↔i2=i1:=by rw[List.length_drop,List.length_drop];omega
 by_cases h:i2<s.length
 rw[fX h]at hl ⊢
 simp only[hl,tY]
 by_cases h3:97≤bt s i2
 by_cases h4:bt s i2<107
 simp[h,h3,h4]
 simp[h4]
 simp[h3]
 have he:s.drop i2=[]:=List.drop_eq_nil_of_le (by omega)
 rw[if_neg (show¬(i2<s.length∧97≤bt s i2∧bt s i2<107)from fun e=>h e.1)]
 rw[he]at hl ⊢
 simp only[hl]
theorem qP{k:Nat}{n d:Int}(h:n<10^k)(hd:d≤9):10*n+d<10^(k+1):=by
 rw[Int.pow_succ];omega
theorem sR{k:Nat}(h:k≤8):(10:Int)^k≤100000000:=by
 have:10^k≤10^8:=Nat.pow_le_pow_right (by decide) h
 have e:((10^k:Nat):Int)=(10:Int)^k:=by rw[Int.natCast_pow];rfl
 rw[←e];omega
theorem pB{xs:List Int}{i:Nat}{n:Int}:(dj xs i n).length=xs.length:=by unfold dj;rw[List.length_set]
theorem rq{xs:List Int}{i:Nat}{n B M:Int}(hB:0≤B)(h: ∀y∈xs,-B≤y∧y≤B)(h1: -M≤n)(h2:n≤M): ∀y∈dj xs i n,-(B+M)≤y∧y≤B+M:=by
 intro y hy
 unfold dj at hy
 rcases List.mem_or_eq_of_mem_set hy with hy|rfl
 have:=h y hy;omega
 by_cases hi:i<xs.length
 have:=h _ (List.getElem_mem hi)
 rw[show xs.getD i 0=xs[i] by simp[hi]];omega
 rw[show xs.getD i 0=0 by simp[Nat.not_lt.1 hi]];omega
theorem t4{xs:List Int}{i:Nat}{B:Int}(hB:0≤B)(h: ∀y∈xs,-B≤y∧y≤B): -B≤xs.getD i 0∧xs.getD i 0≤B:=by
 by_cases hi:i<xs.length
 rw[show xs.getD i 0=xs[i] by simp[hi]];exact h _ (List.getElem_mem hi)
 rw[show xs.getD i 0=0 by simp[Nat.not_lt.1 hi]];omega
theorem c4t{a b c d:Prop}[Decidable a][Decidable b][Decidable c][Decidable d]:(bif (bif (bif decide a then decide b else false)then decide c else false)then decide d else false)=true↔a∧b∧c∧d:=by
 by_cases a<;>by_cases b<;>by_cases c<;>by_cases d<;>simp_all
theorem c3t{a b c:Prop}[Decidable a][Decidable b][Decidable c]:(bif (bif decide a then decide b else false)then decide c else false)=true↔a∧b∧c:=by
 by_cases a<;>by_cases b<;>by_cases c<;>simp_all
theorem tj{x:Bool}{p:Prop}(h:x=false)(hx:x=true↔p): ¬p:=fun hp=>by rw[hx.2 hp]at h;cases h
theorem xm{a:Prop}[Decidable a](h:(decide a==true)=true):a:=by simpa using h
theorem xl{a:Prop}[Decidable a]{b:Bool}(h:((bif decide a then b else false)==true)=true):a:=by
 by_cases a<;>simp_all
def mW(r:Option Tm):Tm×Bool:=match r with
  | none=>(⟨0,[]⟩,false)
  | some t=>(t,true)
theorem qr{s:aQ}{ys:List Int}{c:Int}(h:ki s (zr 10) 0=some (ys,c)):mS s=if(Tm.mk c (aS ys)).ok=true∧tS ⟨c,aS ys⟩=s then some ⟨c,aS ys⟩else none:=by
 unfold mS;rw[h]
theorem tP{s:aQ}(h:ki s (zr 10) 0=none):mS s=none:=by
 unfold mS;rw[h]
theorem vS{s:aQ}(hs:s.length≤1100000):MQ h1 h2 72 [fm s] [] (Plain (fi (mW (mS s)))):=by
 refine MC.data (jB 120 h1 h2 Tryz.func72 Z fun O hF=>?_)
 refine af (jl Z (au ?_))
 refine js Z (aZ (aI (lJ O Z Z Z Z Z Z Z Z Z (by first|omega|(simp at *;omega)) (by first|omega|(simp at *;omega)) (by first|omega|(simp at *;omega)) (by first|omega|(dsimp only;omega)|(simp only[bL]at *;omega)) (by first|omega|(simp at *;omega)) Z Z Z) Z (au ?_)))
 refine js Z (jf [10,3,2,0] Z (jl Z (au ?_)))
 refine jo Z (au ?_)
 refine jn (ah (af (js Z (jn (ak (av (X:=Nat×List Int×Int) (fun z=>⟨[(0,fm s),(2,.c (.pt 2 0 0)),(4,.c (.pt 4 0 0)),(5,eI (z.1:Nat))],[(2,.box [.d (.int .i64 0),.d .nils]),(4,.box [.d (.int .i64 z.2.2),.rs 9 0 10]),(9,eA z.2.1)]⟩) (fun z=>z.1≤s.length∧z.2.1.length=10∧(∀y∈z.2.1,-(100000000*(z.1:Int))≤y∧y≤100000000*(z.1:Int))∧(-(100000000*(z.1:Int))≤z.2.2∧z.2.2≤100000000*(z.1:Int))∧ki (s.drop z.1) z.2.1 z.2.2=ki s (zr 10) 0) (fun z=>s.length-z.1) (0,zr 10,0) (Ent.to ⟨Z,Z,Z,Z,aq⟩ Z) ?_ (fun z hi=>?_)))))))
 exact⟨fg _,Z,fun y hy=>by rw[show y=0 from List.eq_of_mem_replicate hy];simp,by simp,Z⟩
 refine ah (af (ac Z (aj (jR (p:=s) O Z Z Z Z Z Z Z Z Z) Z (js Z (jf [14,0,2,4,5] Z (jn (ar Z (fun z14=>?_) (fun z14=>?_))))))))
 refine al (ak (af (js Z (jn (ah (af (ac Z ?_)))))))
 have hz0:z.1<s.length:=by have:=cN z14;omega
 have hiz:=hi
 obtain⟨sg,i1,hsg,hi1,hsg1,hsv⟩:=sa hz0
 refine aj (bU (p:=s) (b:=s.getD z.1 0) O Z Z Z Z Z Z Z (by omega) (fu hz0)) Z (jf [17,6,14,0,2,4,5] Z (jn (f2 ⟨[(0,fm s),(2,.c (.pt 2 0 0)),(4,.c (.pt 4 0 0)),(5,eI (i1:Nat)),(6,eI sg)],[(2,.box [.d (.int .i64 0),.d .nils]),(4,.box [.d (.int .i64 z.2.2),.rs 9 0 10]),(9,eA z.2.1)]⟩ ?_ ?_)))
 refine ak (af (ac Z (jn (ar Z (fun z18=>?_) (fun z18=>?_)))))
 refine af (js Z (jn (ag (js Z ?_))))
 first|refine ji Z ?_|refine cf Z Z ?_
 refine js Z (jf [5,6,18,19,17,14,0,2,4] Z (jn ?_))
 exact⟨Z,Ent.to ⟨Z,Z,Z,congrArg (fun z=>some (eI z)) (show(z.1:Int)+1=(i1:Int) by rw[if_pos (cN z18)]at hsv;omega),congrArg (fun z=>some (eI z)) (show(-1:Int)=sg by rw[if_pos (cN z18)]at hsv;omega),aq⟩ Z⟩
 refine af (ac Z (jn (ar Z (fun z22=>?_) (fun z22=>?_))))
 refine ag (js Z ?_)
 first|refine ji Z ?_|refine cf Z Z ?_
 refine js Z (jf [5,22,23,18,19,17,6,14,0,2,4] Z (jn ?_))
 exact⟨Z,Ent.to ⟨Z,Z,Z,congrArg (fun z=>some (eI z)) (show(z.1:Int)+1=(i1:Int) by rw[if_neg (de z18),if_pos (cN z22)]at hsv;omega),congrArg (fun z=>some (eI z)) (show(1:Int)=sg by rw[if_neg (de z18),if_pos (cN z22)]at hsv;omega),aq⟩ Z⟩
 refine al ?_
 exact⟨Z,Ent.to ⟨Z,Z,Z,congrArg (fun z=>some (eI z)) (show(z.1:Int)=(i1:Int) by rw[if_neg (de z18),if_neg (de z22)]at hsv;omega),congrArg (fun z=>some (eI z)) (show(1:Int)=sg by rw[if_neg (de z18),if_neg (de z22)]at hsv;omega),aq⟩ Z⟩
 refine af (aW Z (jn (ah (ak (av (X:=Nat×Int) (fun y=>⟨[(0,fm s),(2,.c (.pt 2 0 0)),(4,.c (.pt 4 0 0)),(5,eI (y.1:Nat)),(6,eI sg),(7,eI (i1:Nat)),(8,eI y.2)],[(2,.box [.d (.int .i64 0),.d .nils]),(4,.box [.d (.int .i64 z.2.2),.rs 9 0 10]),(9,eA z.2.1)]⟩) (fun y=>i1≤y.1∧y.1≤s.length∧y.1≤i1+8∧0≤y.2∧y.2<10^(y.1-i1)∧bG (8-(y.1-i1)) y.2 (s.drop y.1)=bG 8 0 (s.drop i1)) (fun y=>s.length-y.1) (i1,0) (Ent.to ⟨Z,Z,Z,Z,Z,Z,Z,aq⟩ Z) ?_ (fun y hi=>?_))))))
 exact⟨bP _,hi1.2.2,by show i1≤i1+8;omega,Int.le_refl _,by show(0:Int)<10^(i1-i1);rw[Nat.sub_self];decide,by show bG (8-(i1-i1)) 0 _=_;rw[Nat.sub_self]⟩
 refine ah (af (ac Z (aj (jR (p:=s) O Z Z Z Z Z Z Z Z Z) Z (ac Z (jf [31,0,2,4,5,6,7,8] Z (aG 4 Z Z Z (fun hx=>aB hx Z (aB hx Z (dU hx (bU (p:=s) (b:=s.getD y.1 0) O Z Z Z Z Z Z Z (by omega) (fu (by have:=xm hx;omega))) Z (aB hx Z (AN.nil))))) Z Z ?_))))))
 first|refine aj (aw O Z Z Z Z Z) Z ?_|refine aj (aD O Z Z Z Z Z) Z ?_|refine aj (Val.pickB O Z Z Z Z Z) Z ?_
 refine js Z (jf [37,0,2,4,5,6,7,8] Z (aG 4 Z Z Z (fun hx=>aB hx Z (aB hx Z (dU hx (bU (p:=s) (b:=s.getD y.1 0) O Z Z Z Z Z Z Z (by omega) (fu (by have:=xl hx;omega))) Z (aB hx Z (AN.nil))))) Z Z ?_))
 first|refine aj (aw O Z Z Z Z Z) Z ?_|refine aj (aD O Z Z Z Z Z) Z ?_|refine aj (Val.pickB O Z Z Z Z Z) Z ?_
 refine js Z (jf [43,0,2,4,5,6,7,8] Z (aG 4 Z Z Z (fun hx=>aB hx Z (aB hx Z (dU hx (vF Z) Z (aB hx Z (AN.nil))))) Z Z ?_))
 first|refine aj (aw O Z Z Z Z Z) Z ?_|refine aj (aD O Z Z Z Z Z) Z ?_|refine aj (Val.pickB O Z Z Z Z Z) Z ?_
 refine jf [48,0,2,4,5,6,7,8] Z (jn (ar Z (fun z48=>?_) (fun z48=>?_)))
 refine al (ah (ak (ag ?_)))
 have z4:=c4t.1 z48
 have hc4n:y.1<s.length:=by have:=z4.1;omega
 have hp8:=sR (k:=y.1-i1) (by omega)
 have hby:0≤((s.getD y.1 0).toNat:Int)∧((s.getD y.1 0).toNat:Int)≤255:=s9 s y.1
 refine js Z ?_
 first|refine ji Z ?_|refine cf Z Z ?_
 refine ac Z (aj (bU (p:=s) (b:=s.getD y.1 0) O Z Z Z Z Z Z Z (by omega) (fu hc4n)) Z (aj (jS (k:=.u8) (n:=((s.getD y.1 0).toNat:Int)-48) O Z Z (by show(0:Int)≤_;omega) (by show _≤(255:Int);omega)) Z (aj ((Val.conv (b:=true) (dt:=.int .u8) O Z Z Z (by kernel_rfl) (by kernel_rfl)).cast (v':=eI (((s.getD y.1 0).toNat:Int)-48)) (by rw[dZ .i64 _ (by show(-9223372036854775808:Int)≤_;omega) (by show _≤(9223372036854775807:Int);omega)])) Z ?_)))
 first|refine ji Z ?_|refine cf Z Z ?_
 refine js Z (jf [8,48,0,2,4,5,6,7] Z (jn (ag (js Z ?_))))
 first|refine ji Z ?_|refine cf Z Z ?_
 refine js Z (jf [5,8,48,0,2,4,6,7] Z (jn ?_))
 refine⟨(y.1+1,10*y.2+(((s.getD y.1 0).toNat:Int)-48)),Ent.to ⟨Z,Z,Z,Z,Z,Z,Z,aq⟩ Z,⟨by show i1≤y.1+1;omega,by show y.1+1≤_;omega,by show y.1+1≤i1+8;omega,by show 0≤10*y.2+(((s.getD y.1 0).toNat:Int)-48);omega,?_,?_⟩,by show s.length-(y.1+1)<s.length-y.1;omega⟩
 show 10*y.2+(((s.getD y.1 0).toNat:Int)-48)<10^(y.1+1-i1)
 rw[show y.1+1-i1=(y.1-i1)+1 by omega]
 exact qP hi.2.2.2.2.1 (by omega)
 show bG (8-(y.1+1-i1)) (10*y.2+(((s.getD y.1 0).toNat:Int)-48)) (s.drop (y.1+1))=_
 rw[←hi.2.2.2.2.2,show 8-(y.1-i1)=(8-(y.1+1-i1))+1 by omega,qL hc4n z4.2.1 z4.2.2.1]
 refine bg (ak (af ?_))
 have hend:=nl (s:=s) (i:=y.1) (i1:=i1) (n:=y.2) (fun hh=>tj z48 c4t ⟨by omega,hh.2.1,hh.2.2.1,by omega⟩) hi.1 hi.2.2.1 hi.2.1
 rw[hi.2.2.2.2.2]at hend
 have hst0:=tJ hsg hend hi.1 hi.2.1
 have hp8:=sR (k:=y.1-i1) (by omega)
 have hby:0≤((s.getD y.1 0).toNat:Int)∧((s.getD y.1 0).toNat:Int)≤255:=s9 s y.1
 refine ac Z ?_
 have hiy:=hi
 refine aj (jR (p:=s) O Z Z Z Z Z Z Z Z Z) Z (ac Z (jf [71,48,0,2,4,5,6,7,8] Z (aG 4 Z Z Z (fun hx=>aB hx Z (aB hx Z (dU hx (bU (p:=s) (b:=s.getD y.1 0) O Z Z Z Z Z Z Z (by omega) (fu (by have:=xm hx;omega))) Z (aB hx Z (AN.nil))))) Z Z ?_)))
 first|refine aj (aw O Z Z Z Z Z) Z ?_|refine aj (aD O Z Z Z Z Z) Z ?_|refine aj (Val.pickB O Z Z Z Z Z) Z ?_
 refine js Z (jf [77,48,0,2,4,5,6,7,8] Z (aG 4 Z Z Z (fun hx=>aB hx Z (aB hx Z (dU hx (bU (p:=s) (b:=s.getD y.1 0) O Z Z Z Z Z Z Z (by omega) (fu (by have:=xl hx;omega))) Z (aB hx Z (AN.nil))))) Z Z ?_))
 first|refine aj (aw O Z Z Z Z Z) Z ?_|refine aj (aD O Z Z Z Z Z) Z ?_|refine aj (Val.pickB O Z Z Z Z Z) Z ?_
 refine js Z (jf [66,48,0,2,4,5,6,7,8] Z (jn (ar Z (fun z66=>?_) (fun z66=>?_))))
 refine ah (af ?_)
 have z3:=c3t.1 z66
 have hc3n:y.1<s.length:=by have:=z3.1;omega
 refine aW Z (jf [85,66,48,0,2,4,5,6,7,8] Z (jn ?_))
 obtain⟨n1,hn1⟩: ∃n1,n1=if y.1=i1 then 1 else y.2:=⟨_,rfl⟩
 have hnb:0≤n1∧n1≤100000000:=by rw[hn1];split<;>omega
 have hm1: -100000000≤sg*n1:=by rcases hsg1 with e|e<;>rw[e]<;>omega
 have hm2:sg*n1≤100000000:=by rcases hsg1 with e|e<;>rw[e]<;>omega
 obtain⟨j,hj⟩: ∃j:Nat,((s.getD y.1 0).toNat:Int)-97=(j:Int):=⟨(((s.getD y.1 0).toNat:Int)-97).toNat,by omega⟩
 have hj10:j<10:=by omega
 have hgj:=t4 (i:=j) (B:=100000000*(z.1:Int)) (by omega) hiz.2.2.1
 have hst:nS (s.drop z.1)=some (s.drop (y.1+1),some j,sg*n1):=by rw[hst0,if_pos ⟨hc3n,z3.2.1,z3.2.2⟩,←hn1,show(s.getD y.1 0).toNat-97=j by omega]
 refine f2 ⟨[(0,fm s),(2,.c (.pt 2 0 0)),(4,.c (.pt 4 0 0)),(5,eI (y.1:Nat)),(6,eI sg),(8,eI n1)],[(2,.box [.d (.int .i64 0),.d .nils]),(4,.box [.d (.int .i64 z.2.2),.rs 9 0 10]),(9,eA z.2.1)]⟩ ?_ ?_
 refine ar Z (fun z85=>?_) (fun z85=>?_)
 refine ag (js Z (jn ?_))
 exact⟨Z,Ent.to ⟨Z,Z,Z,Z,Z,congrArg (fun z=>some (eI z)) (show(1:Int)=n1 by rw[hn1,if_pos (by have:=cN z85;omega)]),aq⟩ Z⟩
 refine al ?_
 exact⟨Z,Ent.to ⟨Z,Z,Z,Z,Z,congrArg (fun z=>some (eI z)) (show y.2=n1 by rw[hn1,if_neg (by have:=de z85;omega)]),aq⟩ Z⟩
 refine ah ?_
 have hi:=hiz
 refine lU [_,_,_,_,_,_,_,_,_,_,_,_,_,_] [bc,ay [0],bc,bc,ay [2,3],ay [2,3,4],ay (rg 0 6),ay (rg 0 7),bc,bc,ay [8,9],ay (rg 0 11),ay (rg 0 12),pe (rg 0 13) 0] [13] [_,_] (eR Z (ai (bU (p:=s) (b:=s.getD y.1 0) O Z Z Z Z Z Z Z (by omega) (fu hc3n)) (ai ((jS (k:=.u8) (n:=((s.getD y.1 0).toNat:Int)-97) O Z Z (by show(0:Int)≤_;omega) (by show _≤(255:Int);omega)).cast (v':=.c (.d (.int .u8 (j:Int)))) (by rw[hj])) (ai (cY (c:=0≤(j:Int)∧(j:Int)<((10:Nat):Int)) (v:=.c (.pt 9 (0+(j:Int).toNat) 0)) O Z Z (by omega)) (ai (dc O (ex:=[.int .i64 (z.2.1.getD j 0)]) Z Z Z Z (by simp[hi.2.1,hj10]) Z) (kc Z (kc Z (ai (bf O Z Z (by omega) (by omega)) (ai (bf O Z Z (by omega) (by omega)) (ai (cY (c:=0≤(j:Int)∧(j:Int)<((10:Nat):Int)) (v:=.c (.pt 9 (0+(j:Int).toNat) 0)) O Z Z (by omega)) (ai (ic (ex:=[.int .i64 (z.2.1.getD j 0)]) (xs':=(dj z.2.1 j (sg*n1)).map (fun n=>[D.int .i64 n])) O Z Z Z Z Z Z Z Z Z Z Z Z Z Z Z (by simp[hi.2.1,hj10]) (by unfold dj;rw[List.map_set];simp only[Int.toNat_natCast,Nat.zero_add];rfl) Z) trivial))))))))))) ?_
 refine ag (js Z ?_)
 first|refine ji Z ?_|refine cf Z Z ?_
 refine js Z (jf [5,98,97,96,95,94,93,92,91,90,89,88,87,86,0,2,4,6,8] Z (jn ?_))
 refine⟨(y.1+1,dj z.2.1 j (sg*n1),z.2.2),Ent.to ⟨Z,Z,Z,Z,aq⟩ Z,⟨by show y.1+1≤_;omega,by show(dj _ _ _).length=10;rw[pB];exact hiz.2.1,?_,?_,?_⟩,by show s.length-(y.1+1)<s.length-z.1;omega⟩
 exact fun q hq=>by have:=rq (B:=100000000*(z.1:Int)) (M:=100000000) (by omega) hiz.2.2.1 hm1 hm2 q hq;show -(100000000*((y.1+1:Nat):Int))≤q∧q≤100000000*((y.1+1:Nat):Int);omega
 show -(100000000*((y.1+1:Nat):Int))≤z.2.2∧z.2.2≤100000000*((y.1+1:Nat):Int);have:=hiz.2.2.2.1;omega
 show ki (s.drop (y.1+1)) (dj z.2.1 j (sg*n1)) z.2.2=_
 rw[←ot hst,hiz.2.2.2.2]
 refine af ?_
 have z3:=tj z66 c3t
 rw[if_neg (fun hh=>z3 ⟨by omega,hh.2.1,hh.2.2⟩)]at hst0
 refine aT Z (jf [101,66,48,0,2,4,5,6,7,8] Z (jn (ar Z (fun z101=>?_) (fun z101=>?_))))
 refine af (js Z (jo Z (au ?_)))
 refine js Z (jr ?_)
 refine aC Z ?_
 rw[tP (by rw[←hiz.2.2.2.2,qN (by rw[fX hz0];simp) (by rw[hst0,if_pos (by have:=cN z101;omega)])])]
 exact .tup (.cons (.agg (.cons .d (.cons .nils .nil))) (.cons (.c .d) .nil))
 refine ag ?_
 have hne: ¬y.1=i1:=by have:=de z101;omega
 have hst:=hst0
 rw[if_neg hne]at hst
 have hm1: -100000000≤sg*y.2:=by rcases hsg1 with e|e<;>rw[e]<;>omega
 have hm2:sg*y.2≤100000000:=by rcases hsg1 with e|e<;>rw[e]<;>omega
 have hi:=hiz
 refine aT Z ?_
 first|refine ji Z ?_|refine cf Z Z ?_
 first|refine ji Z ?_|refine cf Z Z ?_
 refine js Z (jf [65,64,101,66,48,0,2,4,5,6,7,8] Z (jo Z (au ?_)))
 refine jf [101,66,48,0,2,4,5,6,7,8] Z (jn ?_)
 refine⟨(y.1,z.2.1,z.2.2+sg*y.2),Ent.to ⟨Z,Z,Z,Z,aq⟩ Z,⟨by show y.1≤_;omega,hiz.2.1,?_,?_,?_⟩,by show s.length-y.1<s.length-z.1;omega⟩
 exact fun q hq=>by have:=hiz.2.2.1 q hq;show -(100000000*(y.1:Int))≤q∧q≤100000000*(y.1:Int);omega
 show -(100000000*(y.1:Int))≤z.2.2+sg*y.2∧z.2.2+sg*y.2≤100000000*(y.1:Int);have:=hiz.2.2.2.1;omega
 show ki (s.drop y.1) z.2.1 (z.2.2+sg*y.2)=_
 rw[←lr hst,hiz.2.2.2.2]
 refine bg (af ?_)
 have hz1:z.1=s.length:=by have:=de z14;omega
 have hr:=hi.2.2.2.2
 rw[hz1,List.drop_length,fT]at hr
 refine aA (Ent.freeze 9 (e':=[(0,_),(2,_),(4,_)]) Z (fe [0,2,4] Z) (bu Z (.cons Z (.box (uE Z (.cons (.row Z (by rw[cj,hi.2.1])) .nil))) (.skip .nil)))) ?_
 refine js Z (ab O Z Z Z Z (uL (t:=(⟨z.2.2,z.2.1⟩:Tm)) h1 h2) (aa Z) Z Z Z Z (B0:=108000) Z Z (jf [107,0,2,4] Z (jo Z (au ?_))))
 refine jn (ah (af (js Z (bE Z (k8 (t:=(⟨z.2.2,aS z.2.1⟩:Tm)) h1 h2) 110000 Z (ac Z (jf [111,107,0,2,4] Z (aG 4 Z Z Z (fun hx=>aB hx Z (cH O hx Z Z Z Z (s7 (t:=(⟨z.2.2,aS z.2.1⟩:Tm)) h1 h2 (by simpa using hx)) (aa Z) Z Z Z Z Z Z Z (B0:=114000) Z (aB hx Z (dU hx (oL (p:=tS (⟨z.2.2,aS z.2.1⟩:Tm)) (q:=s) O Z Z Z Z Z Z) Z (AN.nil))))) Z Z ?_)))))))
 first|refine aj (aD O Z Z Z Z Z) Z ?_|refine aj (Val.pickB O Z Z Z Z Z) Z ?_|refine aj (aw O Z Z Z Z Z) Z ?_
 refine jf [116,107,0,2,4] Z (jn (ar Z (fun z116=>?_) (fun z116=>?_)))
 refine af (js Z (jo Z (au ?_)))
 refine js Z (jr ?_)
 refine aC Z ?_
 have hno:mS s=none:=by rw[qr hr.symm,if_neg];intro hh;revert z116;simp[hh.1,hh.2]
 rw[hno]
 exact .tup (.cons (.agg (.cons .d (.cons .nils .nil))) (.cons (.c .d) .nil))
 refine al (af (js Z (ab O Z Z Z Z (rL (t:=(⟨z.2.2,aS z.2.1⟩:Tm)) h1 h2) (aa Z) Z Z Z Z (B0:=120000) Z Z (jf [119,116,107,0,2,4] Z (jo Z (au ?_))))))
 refine js Z (jr ?_)
 refine aC Z ?_
 have hyes:mS s=some (⟨z.2.2,aS z.2.1⟩:Tm):=by rw[qr hr.symm,if_pos];revert z116;cases h7:Tm.ok (⟨z.2.2,aS z.2.1⟩:Tm)<;>simp
 rw[hyes]
 exact .tup (.cons (.agg (aK Z)) (.cons (.c .d) .nil))
end Go.Al
/- Lemmas for the walk of the reference's reader of vk. -/
namespace Go.Al
variable{L:Nat}(h1:4096≤L)(h2:L≤1073741824)
open Go.Lib
end Go.Al
/- Lemmas for the walks of both readers of sequents. -/
namespace Go.Al
variable{L:Nat}(h1:4096≤L)(h2:L≤1073741824)
open Go.Lib
theorem lq(c:UInt8): ∀s:aQ,(b0 c s).length≤s.length+1
 | []=>bP _
 | b::r=>by
  have ih:=lq c r
  rw[b0]
  split
  simp only[fh];omega
  simp only[fh,List.length_tail];omega
theorem qp{c:UInt8}{s:aQ}: ∀p∈b0 c s,p.length≤s.length:=by
 intro p hp
 rw[←im]at hp
 exact gt p hp
theorem gx{T:Type}{rd:aQ→Option T}: ∀{a:List aQ} {ts:List T} {x:aQ} {t:T},bH rd a=some ts→rd x=some t→bH rd (a++[x])=some (ts++[t])
 | [],ts,x,t,h1,h2=>by
  rw[bH]at h1;cases h1
  rw[List.nil_append,bH,h2,bH];rfl
 | y::r,ts,x,t,h1,h2=>by
  rw[bH]at h1
  rw[List.cons_append,bH]
  split at h1
  cases h1
  rename_i t' ht
  split at h1
  cases h1
  rename_i ts' hts
  cases h1
  rw[gx hts h2];rfl
theorem iw{T:Type}{rd:aQ→Option T}: ∀{a b:List aQ} {x:aQ},rd x=none→bH rd (a++x::b)=none
 | [],b,x,h=>by rw[List.nil_append,bH,h]
 | y::r,b,x,h=>by
  rw[List.cons_append,bH]
  split
  rfl
  rw[iw h]
end Go.Al
/- Numbers read from their decimal texts; nodes and proofs read from their texts: plain Lean. -/
namespace Go.Al
variable{L:Nat}(h1:4096≤L)(h2:L≤1073741824)
open Go.Lib
theorem se(m:Nat): ∀(acc:Nat) (r:aQ),acc*10^nDigits m+m≤1000000000000000000→parseUintM 18446744073709551615 acc (decDigits m++r)=parseUintM 18446744073709551615 (acc*10^nDigits m+m) r:=by
 induction m using Nat.strongRecOn with
 | _ m ih=>
  intro acc r h
  by_cases hm:m<10
  rw[nDigits_small hm]at h ⊢
  rw[decDigits,dif_pos hm,List.singleton_append,parseUintM,dw hm,if_pos (by omega),if_neg (by omega),if_neg (by omega)]
  congr 1;omega
  rw[nDigits_big hm,Nat.pow_succ,←Nat.mul_assoc]at h ⊢
  have hd:m%10<10:=Nat.mod_lt _ (by decide)
  rw[decDigits,dif_neg hm,dz,List.singleton_append,ih (m/10) (by omega) acc _ (by omega),parseUintM,dw hd,if_pos (by omega),if_neg (by omega),if_neg (by omega)]
  congr 1;omega
theorem ou{m:Nat}(h:m≤1000000000):parseUintB 64 (decDigits m)= .ok m:=by
 have h1:=se m 0 [] (by omega)
 rw[List.append_nil,Nat.zero_mul,Nat.zero_add]at h1
 unfold parseUintB
 rw[if_neg (cM m),show 2^64-1=18446744073709551615 from Z,h1];rfl
theorem qT{n:Int}(h: -1000000000≤n∧n≤1000000000):parseIntB 64 (itoa n)= .ok n:=by
 unfold itoa
 by_cases hn:n<0
 rw[if_pos hn,parseIntB_minus,ou (by omega)]
 unfold signedC
 simp only
 rw[if_neg (by simp;omega)]
 congr 1;omega
 rw[if_neg hn]
 obtain⟨b,r,hb,hd⟩:=jO n.toNat []
 rw[List.append_nil]at hb
 have hd':48≤b.toNat∧b.toNat≤57:=by unfold kv at hd;simpa using hd
 have hp:=ou (m:=n.toNat) (by omega)
 rw[hb]at hp
 rw[hb,parseIntB_plain _ _ _ (by omega) (by omega),hp]
 unfold signlessC
 simp only
 rw[if_neg (by simp;omega)]
 congr 1;omega
def iH(s:aQ):Option Int:=match parseIntB 64 s with
  | .ok v=>if(-1000000000≤v∧v≤1000000000)∧itoa v=s then some v else none
  | _=>none
theorem om(s:aQ)(n:Int):iH s=some n↔(-1000000000≤n∧n≤1000000000)∧s=itoa n:=by
 constructor
 intro h
 unfold iH at h
 split at h
 split at h
 rename_i h2;cases h;exact⟨h2.1,h2.2.symm⟩
 cases h
 cases h
 rintro⟨h,rfl⟩
 unfold iH
 rw[qT h]
 exact if_pos ⟨h,Z⟩
theorem sv{n:Int}(h: -1000000000≤n∧n≤1000000000):(itoa n).length≤11:=by
 have key: ∀m:Nat,m≤1000000000→(decDigits m).length≤10:=fun m hm=>by
  rw[decDigits_eq,cj,List.length_range]
  exact e5 (k:=9) (by omega)
 unfold itoa
 split
 have:=key n.natAbs (by omega);rw[fh];omega
 have:=key n.toNat (by omega);omega
end Go.Al
/- Nodes and proofs read from their texts: plain Lean. -/
namespace Go.Al
variable{L:Nat}(h1:4096≤L)(h2:L≤1073741824)
open Go.Lib
abbrev uy:Nd:=⟨0,0,⟨0,[]⟩,[]⟩
abbrev iI(ms:List Int):Nd:=⟨1,0,⟨0,[]⟩,ms⟩
abbrev sL(t:Tm):Nd:=⟨2,0,t,[]⟩
abbrev rB(n:Int):Nd:=⟨3,n,⟨0,[]⟩,[]⟩
def ij:Option Int→Int×Bool
  | none=>(0,false)
  | some n=>(n,true)
def rC(r:aQ):Option (List Int):=if r=[]then some []else bH iH (b0 44 r)
def kq(s:aQ):Nd×Bool:=
  if s=[]then(uy,false)
  else if s.getD 0 0=99 then(match rC (s.drop 1)with
    | none=>(uy,false)
    | some ms=>(iI ms,true))
  else if s.getD 0 0=115 then(sL (mW (mS (s.drop 1))).1,(mW (mS (s.drop 1))).2)
  else if s.getD 0 0=116 then(rB (ij (iH (s.drop 1))).1,(ij (iH (s.drop 1))).2)
  else(uy,false)
def oR(s:aQ):Option Nd:=if(kq s).2 then some (kq s).1 else none
def bB(c:UInt8):List aQ→aQ
  | []=>[]
  | [p]=>p
  | p::q::r=>p++c::bB c (q::r)
def bz(x:Nd):aQ:=if x.kind=1 then 99::bB 44 (x.mul.map itoa)else if x.kind=2 then 115::tS x.term else if x.kind=3 then 116::itoa x.fact else[]
structure NdR(x:Nd):Prop where
  kind:x.kind=1∨x.kind=2∨x.kind=3
  fact: -1000000000≤x.fact∧x.fact≤1000000000
  term:x.term.ok=true
  mul: ∀m∈x.mul,-1000000000≤m∧m≤1000000000
theorem uV:Tm.ok ⟨0,[]⟩=true:=by decide
def rP(t:aQ):Option (List Nd):=match bH oR (b0 47 t)with
  | none=>none
  | some p=>if ku p=true then some p else none
abbrev tz(r:Option Int):A:=.tup [eI (ij r).1,eB (ij r).2]
theorem my{c:UInt8}: ∀{ss:List aQ},ss.length≤(bB c ss).length+1
 | []=>by simp
 | [p]=>by simp
 | p::q::r=>by
  have:=my (c:=c) (ss:=q::r)
  rw[bB]
  simp only[dS,fh]at *;omega
theorem nc{s:aQ}{n:Nat}(hn:n<256)(h:s.getD 0 0=UInt8.ofNat n):((s.getD 0 0).toNat:Int)=n:=(nV hn).2 h
theorem iq{s:aQ}{n:Nat}(hn:n<256)(h: ¬s.getD 0 0=UInt8.ofNat n): ¬((s.getD 0 0).toNat:Int)=n:=fun e=>h ((nV hn).1 e)
theorem fv{s:aQ}(h:s≠[]):0<s.length:=List.length_pos_iff.2 h
abbrev uD(r:Nd×Bool):A:=.tup [wi r.1,eB r.2]
theorem vr{r:aQ}{ms:List Int}(h:r≠[])(hr:bH iH (b0 44 r)=some ms):rC r=some ms:=by unfold rC;rw[if_neg h,hr]
theorem tN{r:Option Int}(h:(ij r).2=true):r=some (ij r).1:=by
 cases r with
 | none=>cases h
 | some n=>rfl
theorem tO{r:Option Int}(h:(ij r).2=false):r=none:=by
 cases r with
 | none=>rfl
 | some n=>cases h
theorem kL{T:Type}{rd:aQ→Option T}: ∀{ss:List aQ} {ts:List T},bH rd ss=some ts→ts.length=ss.length
 | [],ts,h=>by rw[bH]at h;cases h;rfl
 | s::r,ts,h=>by
  rw[bH]at h
  split at h
  cases h
  split at h
  cases h
  rename_i ts' hts
  cases h
  rw[fh,fh,kL hts]
theorem qs{t:aQ}(h:bH oR (b0 47 t)=none):rP t=none:=by unfold rP;rw[h]
theorem tg{t:aQ}{p:List Nd}(h:bH oR (b0 47 t)=some p):rP t=if ku p=true then some p else none:=by unfold rP;rw[h]
theorem sc{t:aQ}(h:60<(b0 47 t).length):rP t=none:=by
 cases h2:bH oR (b0 47 t)with
 | none=>exact qs h2
 | some p=>
  rw[tg h2,if_neg]
  intro h3
  have h4:=(gX h3).1
  rw[kL h2]at h4
  omega
abbrev aRP(r:Option (List Nd)):A:=match r with
  | none=>.tup [bN [],eB false]
  | some p=>.tup [bN p,eB true]
theorem wI{k:Bool}{a:Prop}[Decidable a]:(bif !k then true else decide a)=true↔(k=false∨a):=by
 cases k<;>simp
end Go.Al
/- What the program's ReadDecimal answers: strconv.ParseInt, a bound, and the decimal text compared. -/
namespace Go.Al
variable{L:Nat}(h1:4096≤L)(h2:L≤1073741824)
open Go.Proofs Go.RowKit
theorem Frame.below{w w':World}(h:Frame w w' []):Below w.heap.size w w':=⟨h.os,h.tape,h.output,h.size,fun k hk=>h.block k hk (by simp)⟩
theorem Frame.of_below{w w':World}(h:Below w.heap.size w w'):Frame w w' []:=⟨h.os,h.tape,h.output,h.size,fun k hk _=>h.block k hk⟩
theorem GOk.below{P:Program}{w w':World}{ok:Nat→Prop}(h:GOk P w ok)(hb:Below w.heap.size w w'):GOk P w' ok:=h.mono fun b h1 h2=>⟨h2,hb.block b h1⟩
theorem MC.calls{P:Program}{L f:Nat}{args:List A}{v:A}(h:MC P L f args [] (Plain v)){w:World}{ok:Nat→Prop}{vs:List Value}(hg:GOk P w ok)(ha:RAs L w ok (fun _=>.nil) args vs) :
    Calls P f vs.toArray w (lY fun x w'=>Below w.heap.size w w'∧∃ok' m',RA L w' ok' m' v x):=by
 refine Calls.mono (h.2 w (fun _=>.nil) [] ok vs hg .nil List.nodup_nil (fun b hb=>by cases hb) (fun _ _ _ _ h=>by cases h) ha) fun e w' he=>?_
 cases e with
 | returned x=>
  obtain⟨res,H',m',F',⟨rfl,rfl⟩,_,_,_,hres,hf,_,_⟩:=he
  exact⟨hf.below,_,_,hres⟩
 | _=>exact he.elim
theorem iV{L:Nat}(h1:4096≤L)(h2:L≤1073741824){v:Int}{w:World}{ok:Nat→Prop}(hg:GOk Tryz.prog w ok)(hv: -9223372036854775808≤v∧v≤9223372036854775807) :
    Calls Tryz.prog 123 #[.int .i64 v,.int .i64 (-1000000000),.int .i64 1000000000] w fun e w'=>e= .returned (.bool (jg (-1000000000) 1000000000 v))∧Below w.heap.size w w':=by
 refine Calls.mono ((qb (x:=v) (lo:= -1000000000) (hi:=1000000000) h1 h2).calls hg (vs:=[.int .i64 v,.int .i64 (-1000000000),.int .i64 1000000000]) (.cons (.c (.d (.int hv.1 hv.2))) (.cons (.c (.d (.int (by decide) (by decide)))) (.cons (.c (.d (.int (by decide) (by decide)))) .nil)))) fun e w' he=>?_
 cases e with
 | returned x=>
  obtain⟨hB,_,_,hr⟩:=he
  exact⟨by rw[hr.bool_inv],hB⟩
 | _=>exact he.elim
theorem lO{L:Nat}(h1:4096≤L)(h2:L≤1073741824){v:Int}{w:World}{ok:Nat→Prop}(hg:GOk Tryz.prog w ok)(hv: -9223372036854775808≤v∧v≤9223372036854775807) :
    Calls Tryz.prog 68 #[.int .i64 v] w fun e w'=>e= .returned (.string (bS (Lib.itoa v)))∧Below w.heap.size w w':=by
 refine Calls.mono ((l6 (n:=v) h1 h2 hv.1 hv.2).calls hg (vs:=[.int .i64 v]) (.cons (.c (.d (.int hv.1 hv.2))) .nil)) fun e w' he=>?_
 cases e with
 | returned x=>
  obtain⟨hB,_,_,hr⟩:=he
  exact⟨by rw[hr.str_inv.1],hB⟩
 | _=>exact he.elim
theorem mh{s:ByteArray}{w:World}{v:Int}{tp:TypeId}(hP:Calls Tryz.prog 122 #[.string s,.int .i64 10,.int .i64 64] w fun e w'=> ∃p,e= .returned (.tuple #[.int .i64 v,.iface tp p])∧Below w.heap.size w w') :
    Calls Tryz.prog 71 #[.string s] w fun e w'=>e= .returned (.tuple #[.int .i64 0,.bool false])∧Below w.heap.size w w':=by
 go_enter Tryz.func71,Tryz.ntmps71
 go_wp2_with fail
 refine hP.mono fun e W1 ⟨p,he,hB⟩=>?_
 subst he
 go_wp2_with fail
 go_ret2
 exact⟨Z,hB⟩
theorem qK{s:ByteArray}{w:World}{v:Int}(hP:Calls Tryz.prog 122 #[.string s,.int .i64 10,.int .i64 64] w fun e w'=>e= .returned (.tuple #[.int .i64 v,.nilIface])∧Below w.heap.size w w')
    (hI: ∀W1,Below w.heap.size w W1→Calls Tryz.prog 123 #[.int .i64 v,.int .i64 (-1000000000),.int .i64 1000000000] W1 fun e w'=>e= .returned (.bool false)∧Below W1.heap.size W1 w') :
    Calls Tryz.prog 71 #[.string s] w fun e w'=>e= .returned (.tuple #[.int .i64 0,.bool false])∧Below w.heap.size w w':=by
 go_enter Tryz.func71,Tryz.ntmps71
 go_wp2_with fail
 refine hP.mono fun e W1 ⟨he,hB⟩=>?_
 subst he
 go_wp2_with fail
 refine(hI W1 hB).mono fun e W2 ⟨he,hB2⟩=>?_
 subst he
 go_wp2_with fail
 go_ret2
 exact⟨Z,hB.trans (hB2.mono hB.size)⟩
theorem r7{w:World}{v:Int}{s d:ByteArray}(hs:d=s)(hP:Calls Tryz.prog 122 #[.string s,.int .i64 10,.int .i64 64] w fun e w'=>e= .returned (.tuple #[.int .i64 v,.nilIface])∧Below w.heap.size w w')
    (hI: ∀W1,Below w.heap.size w W1→Calls Tryz.prog 123 #[.int .i64 v,.int .i64 (-1000000000),.int .i64 1000000000] W1 fun e w'=>e= .returned (.bool true)∧Below W1.heap.size W1 w')
    (hD: ∀W1,Below w.heap.size w W1→Calls Tryz.prog 68 #[.int .i64 v] W1 fun e w'=>e= .returned (.string d)∧Below W1.heap.size W1 w') :
    Calls Tryz.prog 71 #[.string s] w fun e w'=>e= .returned (.tuple #[.int .i64 v,.bool true])∧Below w.heap.size w w':=by
 subst hs
 go_enter Tryz.func71,Tryz.ntmps71
 go_wp2_with fail
 refine hP.mono fun e W1 ⟨he,hB⟩=>?_
 subst he
 go_wp2_with fail
 refine(hI W1 hB).mono fun e W2 ⟨he,hB2⟩=>?_
 subst he
 have hB3:=hB.trans (hB2.mono hB.size)
 go_wp2_with fail
 refine(hD W2 hB3).mono fun e W3 ⟨he,hB4⟩=>?_
 subst he
 have hB5:=hB3.trans (hB4.mono hB3.size)
 go_wp2_with fail
 go_ret2
 exact⟨Z,hB5⟩
theorem r6{w:World}{v:Int}{s d:ByteArray}(hs:(!d.toList==s.toList)=true)(hP:Calls Tryz.prog 122 #[.string s,.int .i64 10,.int .i64 64] w fun e w'=>e= .returned (.tuple #[.int .i64 v,.nilIface])∧Below w.heap.size w w')
    (hI: ∀W1,Below w.heap.size w W1→Calls Tryz.prog 123 #[.int .i64 v,.int .i64 (-1000000000),.int .i64 1000000000] W1 fun e w'=>e= .returned (.bool true)∧Below W1.heap.size W1 w')
    (hD: ∀W1,Below w.heap.size w W1→Calls Tryz.prog 68 #[.int .i64 v] W1 fun e w'=>e= .returned (.string d)∧Below W1.heap.size W1 w') :
    Calls Tryz.prog 71 #[.string s] w fun e w'=>e= .returned (.tuple #[.int .i64 0,.bool false])∧Below w.heap.size w w':=by
 go_enter Tryz.func71,Tryz.ntmps71
 go_wp2_with fail
 refine hP.mono fun e W1 ⟨he,hB⟩=>?_
 subst he
 go_wp2_with fail
 refine(hI W1 hB).mono fun e W2 ⟨he,hB2⟩=>?_
 subst he
 have hB3:=hB.trans (hB2.mono hB.size)
 go_wp2_with fail
 refine(hD W2 hB3).mono fun e W3 ⟨he,hB4⟩=>?_
 subst he
 have hB5:=hB3.trans (hB4.mono hB3.size)
 go_wp2_with fail
 go_ret2
 exact⟨Z,hB5⟩
theorem s4{s:aQ}(hs:s.length≤1100000):MQ h1 h2 71 [fm s] [] (Plain (tz (iH s))):=by
 refine lp ⟨_,_,Tryz.func71,by kernel_rfl,Z⟩ fun w ok m vs h0 h5=>?_
 cases h5 with
 | cons a1 a2=>
  cases a2
  obtain⟨rfl,hsL⟩:=RA.str_inv a1
  have hsz:(bS s).size≤1100000:=by rw[ca];exact hs
  have hdl:(bS s).data.toList=s:=iL s
  have fin: ∀{n:Int} {b:Bool} {e w'},(-9223372036854775808≤n∧n≤9223372036854775807)→e=Ending.returned (.tuple #[.int .i64 n,.bool b])∧Below w.heap.size w w'→tz (iH s)= .tup [eI n,eB b]→lY (fun x w'=>Frame w w' []∧∀ok' m',(∀b,w.heap.size≤b→ok' b)→RA L w' ok' m' (tz (iH s)) x) e w':=by
   rintro n b e w' hn ⟨rfl,hB⟩ hv
   rw[hv]
   exact⟨.of_below hB,fun ok' m' _=>.tup (.cons (.c (.d (.int hn.1 hn.2))) (.cons (.c (.d .bool)) .nil))⟩
  cases hp:Lib.parseIntB 64 s
  case ok v=>
   have hb:=Lib.parseIntB_bounds hp
   have hb2: -9223372036854775808≤v∧v≤9223372036854775807:=by simp at hb;omega
   have hP:=(Tryz.strconv_ParseInt_10_at64_ok (bS s) (by omega) v (by rw[hdl];exact hp) w).mono (R':=fun e w'=>e= .returned (.tuple #[.int .i64 v,.nilIface])∧Below w.heap.size w w') fun e w' ⟨a,hw⟩=>⟨a,by
    rcases hw with rfl|⟨t,rfl⟩
    ·
     exact Below.refl _ _
    ·
     exact Lib.bytesWorld_below _ _ _⟩
   by_cases hr: -1000000000≤v∧v≤1000000000
   ·
    have hin:jg (-1000000000) 1000000000 v=true:=by unfold jg;simp[hr.1,hr.2]
    have hW:=fun(W1:World) (hB:Below w.heap.size w W1)=>show Calls Tryz.prog 123 #[.int .i64 v,.int .i64 (-1000000000),.int .i64 1000000000] W1 fun e w'=>e= .returned (.bool true)∧Below W1.heap.size W1 w' by have h:=iV h1 h2 (h0.below hB) hb2;rw[hin]at h;exact h
    have hD:=fun(W1:World) (hB:Below w.heap.size w W1)=>lO h1 h2 (h0.below hB) hb2
    have hd:(bS (Lib.itoa v)=bS s)↔Lib.itoa v=s:=⟨fun h=>by have:=congrArg (fun b=>b.data.toList) h;simpa[iL]using this,fun h=>by rw[h]⟩
    by_cases h9:Lib.itoa v=s
    ·
     refine Calls.mono (r7 (hd.2 h9) hP hW hD) fun e w' he=>fin (by omega) he ?_
     unfold iH
     rw[hp]
     simp only[h9,hr,and_self,if_true];rfl
    ·
     refine Calls.mono (r6 (by rw[gP,gP];simp[h9]) hP hW hD) fun e w' he=>fin (by decide) he ?_
     unfold iH
     rw[hp]
     simp only[h9,hr,and_false,if_false];rfl
   ·
    have hin:jg (-1000000000) 1000000000 v=false:=by unfold jg;simp;omega
    refine Calls.mono (qK hP (fun W1 hB=>by have h:=iV h1 h2 (h0.below hB) hb2;rw[hin]at h;exact h)) fun e w' he=>fin (by decide) he ?_
    unfold iH
    rw[hp]
    simp only[hr,false_and,if_false];rfl
  case range=>
   obtain⟨_,cs,hv,hc⟩:=h0 "strconv.ErrRange" 5 (by simp[GN]) (by kernel_rfl)
   obtain⟨ev,he,hev⟩:=qD hc (.inr rfl)
   have hcell:=World.var?_cell (show Tryz.prog.globalNamed "strconv.ErrRange" = some 5 by kernel_rfl) hv 0
   rw[he]at hcell
   refine Calls.mono (mh ((Tryz.strconv_ParseInt_10_at64_range (bS s) (by omega) (by rw[hdl];exact hp) ev w hcell hev).mono fun e w' ⟨N,a,_,_,hB⟩=>⟨_,a,hB⟩)) fun e w' he=>fin (by decide) he (by unfold iH;rw[hp];rfl)
  ·
   obtain⟨_,cs,hv,hc⟩:=h0 "strconv.ErrSyntax" 4 (by simp[GN]) (by kernel_rfl)
   obtain⟨ev,he,hev⟩:=qD hc (.inl rfl)
   have hcell:=World.var?_cell (show Tryz.prog.globalNamed "strconv.ErrSyntax" = some 4 by kernel_rfl) hv 0
   rw[he]at hcell
   refine Calls.mono (mh ((Tryz.strconv_ParseInt_10_at64_syntax (bS s) (by omega) (by rw[hdl];exact hp) ev w hcell hev).mono fun e w' ⟨N,a,_,_,hB⟩=>⟨_,a,hB⟩)) fun e w' he=>fin (by decide) he (by unfold iH;rw[hp];rfl)
theorem qf{s:aQ}(h:s≠[])(hb:s.getD 0 0=99):kq s=(match rC (s.drop 1)with
    | none=>(uy,false)
    | some ms=>(iI ms,true)):=by
  unfold kq;rw[if_neg h,if_pos hb]<;>rfl
theorem vq{s:aQ}(h:s≠[])(hb:s.getD 0 0=115):kq s=(sL (mW (mS (s.drop 1))).1,(mW (mS (s.drop 1))).2):=by
 unfold kq;rw[if_neg h,if_neg (by rw[hb];decide),if_pos hb]
theorem vp{s:aQ}(h:s≠[])(hb:s.getD 0 0=116):kq s=(rB (ij (iH (s.drop 1))).1,(ij (iH (s.drop 1))).2):=by
 unfold kq;rw[if_neg h,if_neg (by rw[hb];decide),if_neg (by rw[hb];decide),if_pos hb]
theorem sQ{s:aQ}(h:s≠[]→¬s.getD 0 0=99∧¬s.getD 0 0=115∧¬s.getD 0 0=116):kq s=(uy,false):=by
 unfold kq
 by_cases hs:s=[]
 rw[if_pos hs]
 obtain⟨h1,h2,h3⟩:=h hs
 rw[if_neg hs,if_neg h1,if_neg h2,if_neg h3]
theorem ug{s:aQ}(hL:1048576<L)(hs:s.length≤1048576)(hne:s≠[])(hb:s.getD 0 0=99):MQ h1 h2 32 [fm s] [] (Plain (uD (kq s))):=by
 refine MC.data (jB 71 h1 h2 Tryz.func32 Z fun O hF=>?_)
 refine af (jl Z (au ?_))
 refine js Z (jn (ah (af (js Z (aj (Val.seq (p:=s) (q:=[]) O Z Z Z Z Z Z) Z (jn (ar Z (fun z15=>?_) (fun z15=>?_))))))))
 exact absurd (cN z15) hne
 refine al (af (js Z ?_))
 have hdl:(s.drop 1).length≤1048576:=by rw[List.length_drop];omega
 refine aj ((e7 (p:=s) (a:=1) (b:=s.length) O Z Z Z Z Z Z Z Z Z Z (fv hne) (bP _)).cast (v':=fm (s.drop 1)) (by rw[List.take_of_length_le (by rw[List.length_drop];omega)])) Z (js Z (jf [4,14,3,2,0] Z (jn (ah (af (js Z (aj (bU (p:=s) (b:=s.getD 0 0) O Z Z Z Z Z Z Z (by omega) (fu (i:=0) (fv hne))) Z (jn (ak (af (ac Z (jn (ar Z (fun z21=>?_) (fun z21=>?_))))))))))))))
 refine af (js Z (jf [23,22,20,19,4,14,3,2,0] Z (jl Z (au ?_))))
 refine jo Z (au ?_)
 refine jn (ah (af (js Z (aj (Val.seq (p:=s.drop 1) (q:=[]) O Z Z Z Z Z Z) Z (jn (ar Z (fun z25=>?_) (fun z25=>?_)))))))
 refine af (js Z (jf [26,24,5,23,22,20,19,4,14,3,2,0] Z (jo Z (au ?_))))
 refine js Z (jr ?_)
 refine aC Z ?_
 rw[qf hne hb,show rC (s.drop 1)=some [] by unfold rC;rw[if_pos (cN z25)]]
 exact .tup (.cons (.agg (.cons .d (.cons .d (.cons .d (.cons .nils (.cons .nils .nil)))))) (.cons (.c .d) .nil))
 refine al (ah (af ?_))
 have hne1:s.drop 1≠[]:=de z25
 have hQ0:=lq 44 (s.drop 1)
 refine js Z (jf [27,24,5,23,22,20,19,4,14,3,2,0] Z (ab O Z Z Z Z ((s6 (s:=s.drop 1) (sep:=[44]) h1 h2 (by simp) (by rw[im];omega)).plain (v:=_) (u:=.c (.d (strs (b0 44 (s.drop 1))))) (by rw[im])) (aa Z) Z Z Z Z (B0:=29000) Z Z ?_))
 first|refine eh Z ?_|refine js Z ?_|refine cf Z Z ?_
 refine js Z (jn (ak (av (X:=Nat×List Int) (fun z=>⟨[(2,.c (.pt 2 0 0)),(5,.c (.pt 5 0 0)),(28,.c (.d (strs (b0 44 (s.drop 1))))),(29,eI (b0 44 (s.drop 1)).length),(30,eI (z.1:Nat))],[(2,.box [.d (.int .i64 0),.d (.int .i64 0),.d (.int .i64 0),.d .nils,.d .nils]),(5,.box [.d (.int .i64 1),.d (.int .i64 0),.d (.int .i64 0),.d .nils,.rs 900 0 z.2.length]),(900,.row false 1 (z.2.map (fun n=>[D.int .i64 n])))]⟩) (fun z=>z.1≤(b0 44 (s.drop 1)).length∧z.2.length=z.1∧bH iH ((b0 44 (s.drop 1)).take z.1)=some z.2) (fun z=>(b0 44 (s.drop 1)).length-z.1) (0,[]) ((mO 5 900 1 false 4 Z Z Z).trans (Ent.to ⟨Z,Z,Z,Z,Z,aq⟩ Z)) ?_ (fun z hi=>?_))))
 exact⟨fg _,Z,Z⟩
 refine af (js Z (jn (ah (ar Z (fun z31=>?_) (fun z31=>?_)))))
 refine al (ah (ak (af ?_)))
 have hi0:z.1<(b0 44 (s.drop 1)).length:=by have:=cN z31;omega
 have hpl:((b0 44 (s.drop 1)).getD z.1 default).length≤1048576:=by
  have h9:((b0 44 (s.drop 1)).getD z.1 default)∈(b0 44 (s.drop 1)):=by rw[am hi0];exact List.getElem_mem hi0
  have:=qp _ h9;omega
 obtain⟨n,hn⟩: ∃n,n=(ij (iH ((b0 44 (s.drop 1)).getD z.1 default))).1:=⟨_,rfl⟩
 obtain⟨nB,hnB⟩: ∃b,b=(ij (iH ((b0 44 (s.drop 1)).getD z.1 default))).2:=⟨_,rfl⟩
 refine aj (bi O Z Z Z Z Z Z Z Z (gG (by omega))) Z (ac Z (jf [7,31,2,5,28,29,30] Z (aZ (js Z (jf [35,31,2,5,28,29,30] Z (ab O Z Z Z Z ((s4 (s:=((b0 44 (s.drop 1)).getD z.1 default)) h1 h2 (by omega)).plain (v:=_) (u:=.tup [eI n,eB nB]) (by rw[hn,hnB])) (aa Z) Z Z Z Z (B0:=37000) Z Z (aT Z (js Z (jf [9,8,31,2,5,28,29,30] Z (jn (ah (af (ac Z (jf [40,8,31,2,5,28,29,30] Z (jn (ar Z (fun z40=>?_) (fun z40=>?_)))))))))))))))))
 refine af (js Z (jo Z (au ?_)))
 refine js Z (jr ?_)
 refine aC Z ?_
 have hx:iH ((b0 44 (s.drop 1)).getD z.1 default)=none:=tO (by rw[←hnB];simpa using z40)
 have hq:(b0 44 (s.drop 1))=(b0 44 (s.drop 1)).take z.1++((b0 44 (s.drop 1)).getD z.1 default)::(b0 44 (s.drop 1)).drop (z.1+1):=by conv=>lhs;rw[←List.take_append_drop z.1 (b0 44 (s.drop 1)),List.drop_eq_getElem_cons hi0,←am hi0]
 have hms:rC (s.drop 1)=none:=by unfold rC;rw[if_neg hne1,hq];exact iw hx
 rw[qf hne hb,hms]
 exact .tup (.cons (.agg (.cons .d (.cons .d (.cons .d (.cons .nils (.cons .nils .nil)))))) (.cons (.c .d) .nil))
 refine al (ag ?_)
 have hok1:iH ((b0 44 (s.drop 1)).getD z.1 default)=some n:=by rw[hn];exact tN (by rw[←hnB];simpa using z40)
 refine aW Z (jf [44,43,40,31,2,5,28,29,30] Z (aI (aP O Z Z Z Z Z Z Z Z Z Z Z) Z (au ?_)))
 refine jf [45,43,40,31,2,5,28,29,30] Z (aI (cw (own:=false) (xs:=z.2.map (fun n=>[D.int .i64 n])) (ys:=[[.int .i64 n]]) (zs:=(z.2++[n]).map (fun n=>[D.int .i64 n])) (n:=(z.2++[n]).length) O Z (.row Z (cj _).symm) (.whole Z Z (.inr ⟨Z,Z⟩)) (by simp) Z (by simp;omega) (by simp;omega) (by simp) (by simp)) Z (au ?_))
 refine au ?_
 refine js Z (jf [47,46,40,31,2,5,28,29,30] Z (jo Z (au ?_)))
 refine jf [40,31,2,5,28,29,30] Z (jn (ag ?_))
 first|refine ji Z ?_|refine cf Z Z ?_
 refine js Z (jn ?_)
 refine⟨(z.1+1,z.2++[n]),((ap [2,5,46] (e':=[(2,_),(5,_),(28,_),(29,_),(30,_)]) Z Z ⟨Z,Z,Z,Z,Z,aq⟩ Z).trans (ax 46 900 Z Z)).trans (Ent.to ⟨Z,Z,Z,Z,Z,aq⟩ Z),⟨by show z.1+1≤_;omega,by show(z.2++[n]).length=z.1+1;rw[dS,hi.2.1];rfl,?_⟩,by show(b0 44 (s.drop 1)).length-(z.1+1)<(b0 44 (s.drop 1)).length-z.1;omega⟩
 show bH iH ((b0 44 (s.drop 1)).take (z.1+1))=some (z.2++[n])
 rw[List.take_succ_eq_append_getElem hi0,←am hi0]
 exact gx hi.2.2 hok1
 refine bg (af (js Z (jo Z (au ?_))))
 refine js Z (jr ?_)
 refine aC Z ?_
 have hz1:z.1=(b0 44 (s.drop 1)).length:=by have:=de z31;omega
 have hall:=hi.2.2
 rw[hz1,List.take_length]at hall
 rw[qf hne hb,vr hne1 hall]
 exact .tup (.cons (.agg (.cons .d (.cons .d (.cons .d (.cons .nils (.cons (.whole Z (cj _).symm) .nil)))))) (.cons (.c .d) .nil))
 exact absurd (nc (n:=99) (by decide) hb) (de z21)
theorem uf{s:aQ}(hL:1048576<L)(hs:s.length≤1048576)(hne:s≠[])(hb:s.getD 0 0=115):MQ h1 h2 32 [fm s] [] (Plain (uD (kq s))):=by
 refine MC.data (jB 71 h1 h2 Tryz.func32 Z fun O hF=>?_)
 refine af (jl Z (au ?_))
 refine js Z (jn (ah (af (js Z (aj (Val.seq (p:=s) (q:=[]) O Z Z Z Z Z Z) Z (jn (ar Z (fun z15=>?_) (fun z15=>?_))))))))
 exact absurd (cN z15) hne
 refine al (af (js Z ?_))
 have hdl:(s.drop 1).length≤1048576:=by rw[List.length_drop];omega
 refine aj ((e7 (p:=s) (a:=1) (b:=s.length) O Z Z Z Z Z Z Z Z Z Z (fv hne) (bP _)).cast (v':=fm (s.drop 1)) (by rw[List.take_of_length_le (by rw[List.length_drop];omega)])) Z (js Z (jf [4,14,3,2,0] Z (jn (ah (af (js Z (aj (bU (p:=s) (b:=s.getD 0 0) O Z Z Z Z Z Z Z (by omega) (fu (i:=0) (fv hne))) Z (jn (ak (af (ac Z (jn (ar Z (fun z21=>?_) (fun z21=>?_))))))))))))))
 exact absurd (cN z21) (iq (n:=99) (by decide) (by rw[hb];decide))
 refine af (ac Z (jf [50,22,20,19,4,14,3,2,0] Z (jn (ar Z (fun z50=>?_) (fun z50=>?_)))))
 refine af ?_
 obtain⟨t,ht⟩: ∃t,t=(mW (mS (s.drop 1))).1:=⟨_,rfl⟩
 obtain⟨tB,htB⟩: ∃b,b=(mW (mS (s.drop 1))).2:=⟨_,rfl⟩
 refine js Z (jf [53,22,20,19,4,14,3,2,0] Z (ab O Z Z Z Z ((vS (s:=s.drop 1) h1 h2 (by omega)).plain (v:=_) (u:=.tup [cP t,eB tB]) (by rw[ht,htB])) (aa Z) Z Z Z Z (B0:=55000) Z Z (aW Z (jf [56,55,22,20,19,4,14,3,2,0] Z (jl Z (au ?_))))))
 refine jo Z (au ?_)
 refine js Z (jf [11,10,22,20,19,4,14,3,2,0] Z (aZ (aW Z (jf [59,58,10,22,20,19,4,14,3,2,0] Z (jo Z (au ?_))))))
 refine js Z (jf [3,10,22,20,19,4,14,2,0] Z (jr ?_))
 refine aC Z ?_
 rw[vq hne hb,←ht,←htB]
 exact .tup (.cons (.agg (.cons .d (.cons .d (.cons .d (.cons .d (.cons .nils .nil)))))) (.cons (.c .d) .nil))
 exact absurd (nc (n:=115) (by decide) hb) (de z50)
theorem ue{s:aQ}(hL:1048576<L)(hs:s.length≤1048576)(hne:s≠[])(hb:s.getD 0 0=116):MQ h1 h2 32 [fm s] [] (Plain (uD (kq s))):=by
 refine MC.data (jB 71 h1 h2 Tryz.func32 Z fun O hF=>?_)
 refine af (jl Z (au ?_))
 refine js Z (jn (ah (af (js Z (aj (Val.seq (p:=s) (q:=[]) O Z Z Z Z Z Z) Z (jn (ar Z (fun z15=>?_) (fun z15=>?_))))))))
 exact absurd (cN z15) hne
 refine al (af (js Z ?_))
 have hdl:(s.drop 1).length≤1048576:=by rw[List.length_drop];omega
 refine aj ((e7 (p:=s) (a:=1) (b:=s.length) O Z Z Z Z Z Z Z Z Z Z (fv hne) (bP _)).cast (v':=fm (s.drop 1)) (by rw[List.take_of_length_le (by rw[List.length_drop];omega)])) Z (js Z (jf [4,14,3,2,0] Z (jn (ah (af (js Z (aj (bU (p:=s) (b:=s.getD 0 0) O Z Z Z Z Z Z Z (by omega) (fu (i:=0) (fv hne))) Z (jn (ak (af (ac Z (jn (ar Z (fun z21=>?_) (fun z21=>?_))))))))))))))
 exact absurd (cN z21) (iq (n:=99) (by decide) (by rw[hb];decide))
 refine af (ac Z (jf [50,22,20,19,4,14,3,2,0] Z (jn (ar Z (fun z50=>?_) (fun z50=>?_)))))
 exact absurd (cN z50) (iq (n:=115) (by decide) (by rw[hb];decide))
 refine af (ac Z (jf [60,22,20,19,4,14,3,2,0] Z (jn (ar Z (fun z60=>?_) (fun z60=>?_)))))
 refine af ?_
 obtain⟨t,ht⟩: ∃t,t=(ij (iH (s.drop 1))).1:=⟨_,rfl⟩
 obtain⟨tB,htB⟩: ∃b,b=(ij (iH (s.drop 1))).2:=⟨_,rfl⟩
 refine js Z (jf [63,22,20,19,4,14,3,2,0] Z (ab O Z Z Z Z ((s4 (s:=s.drop 1) h1 h2 (by omega)).plain (v:=_) (u:=.tup [eI t,eB tB]) (by rw[ht,htB])) (aa Z) Z Z Z Z (B0:=65000) Z Z (aT Z (js Z (jf [13,12,22,20,19,4,14,3,2,0] Z (aZ (aW Z (jf [69,68,22,20,19,4,14,3,2,0] Z (jo Z (au ?_))))))))))
 refine js Z (jf [3,22,20,19,4,14,2,0] Z (jr ?_))
 refine aC Z ?_
 rw[vp hne hb,←ht,←htB]
 exact .tup (.cons (.agg (.cons .d (.cons .d (.cons .d (.cons .nils (.cons .nils .nil)))))) (.cons (.c .d) .nil))
 exact absurd (nc (n:=116) (by decide) hb) (de z60)
theorem qC{s:aQ}(hL:1048576<L)(hs:s.length≤1048576)(hn:s≠[]→¬s.getD 0 0=99∧¬s.getD 0 0=115∧¬s.getD 0 0=116):MQ h1 h2 32 [fm s] [] (Plain (uD (kq s))):=by
 refine MC.data (jB 71 h1 h2 Tryz.func32 Z fun O hF=>?_)
 refine af (jl Z (au ?_))
 refine js Z (jn (ah (af (js Z (aj (Val.seq (p:=s) (q:=[]) O Z Z Z Z Z Z) Z (jn (ar Z (fun z15=>?_) (fun z15=>?_))))))))
 refine af (js Z (jf [16,14,3,2,0] Z (jo Z (au ?_))))
 refine js Z (jr ?_)
 refine aC Z ?_
 rw[sQ hn]
 exact .tup (.cons (.agg (.cons .d (.cons .d (.cons .d (.cons .nils (.cons .nils .nil)))))) (.cons (.c .d) .nil))
 refine al (af (js Z ?_))
 have hne:s≠[]:=de z15
 have hdl:(s.drop 1).length≤1048576:=by rw[List.length_drop];omega
 refine aj ((e7 (p:=s) (a:=1) (b:=s.length) O Z Z Z Z Z Z Z Z Z Z (fv hne) (bP _)).cast (v':=fm (s.drop 1)) (by rw[List.take_of_length_le (by rw[List.length_drop];omega)])) Z (js Z (jf [4,14,3,2,0] Z (jn (ah (af (js Z (aj (bU (p:=s) (b:=s.getD 0 0) O Z Z Z Z Z Z Z (by omega) (fu (i:=0) (fv hne))) Z (jn (ak (af (ac Z (jn (ar Z (fun z21=>?_) (fun z21=>?_))))))))))))))
 exact absurd (cN z21) (iq (n:=99) (by decide) (hn hne).1)
 refine af (ac Z (jf [50,22,20,19,4,14,3,2,0] Z (jn (ar Z (fun z50=>?_) (fun z50=>?_)))))
 exact absurd (cN z50) (iq (n:=115) (by decide) (hn hne).2.1)
 refine af (ac Z (jf [60,22,20,19,4,14,3,2,0] Z (jn (ar Z (fun z60=>?_) (fun z60=>?_)))))
 exact absurd (cN z60) (iq (n:=116) (by decide) (hn hne).2.2)
 refine al (af (js Z (jf [70,22,20,19,4,14,3,2,0] Z (jo Z (au ?_)))))
 refine js Z (jr ?_)
 refine aC Z ?_
 rw[sQ hn]
 exact .tup (.cons (.agg (.cons .d (.cons .d (.cons .d (.cons .nils (.cons .nils .nil)))))) (.cons (.c .d) .nil))
theorem vO{L:Nat}(h1:4096≤L)(h2:L≤1073741824){s:aQ}(hL:1048576<L)(hs:s.length≤1048576):MC Tryz.prog L 32 [fm s] [] (Plain (uD (kq s))):=by
 by_cases hne:s=[]
 exact qC h1 h2 hL hs (fun h=>absurd hne h)
 by_cases h99:s.getD 0 0=99
 exact ug h1 h2 hL hs hne h99
 by_cases h115:s.getD 0 0=115
 exact uf h1 h2 hL hs hne h115
 by_cases h116:s.getD 0 0=116
 exact ue h1 h2 hL hs hne h116
 exact qC h1 h2 hL hs (fun _=>⟨h99,h115,h116⟩)
set_option maxHeartbeats 8000000
theorem vP{t:aQ}(hL:1048576<L)(hs:t.length≤1048576):MQ h1 h2 9 [fm t] [] (Plain (aRP (rP t))):=by
 refine MC.data (jB 37 h1 h2 Tryz.func9 Z fun O hF=>?_)
 refine af (ac Z (aZ (js Z (jn (ah (af ?_))))))
 have hQ0:=lq 47 t
 refine js Z (jf [9,4,3,2] Z (ab O Z Z Z Z ((s6 (s:=t) (sep:=[47]) h1 h2 (by simp) (by rw[im];omega)).plain (v:=_) (u:=.c (.d (strs (b0 47 t)))) (by rw[im])) (aa Z) Z Z Z Z (B0:=11000) Z Z ?_))
 first|refine eh Z ?_|refine js Z ?_|refine cf Z Z ?_
 refine js Z (jn (ak (av (X:=Nat×List Nd) (fun z=>⟨[(4,.c (.rs 900 0 z.2.length)),(10,.c (.d (strs (b0 47 t)))),(11,eI (b0 47 t).length),(12,eI (z.1:Nat))],[(900,.row false 5 (z.2.map Nd.cells))]⟩) (fun z=>z.1≤(b0 47 t).length∧z.2.length=z.1∧bH oR ((b0 47 t).take z.1)=some z.2∧z.2.length≤60) (fun z=>(b0 47 t).length-z.1) (0,[]) ((ee 4 900 5 false Z Z).trans (Ent.to ⟨Z,Z,Z,Z,aq⟩ Z)) ?_ (fun z hi=>?_))))
 exact⟨fg _,Z,Z,by decide⟩
 refine af (js Z (jn (ah (ar Z (fun z13=>?_) (fun z13=>?_)))))
 refine al (ah (ak (af ?_)))
 have hi0:z.1<(b0 47 t).length:=by have:=cN z13;omega
 have hpl:((b0 47 t).getD z.1 default).length≤1048576:=by
  have h9:((b0 47 t).getD z.1 default)∈(b0 47 t):=by rw[am hi0];exact List.getElem_mem hi0
  have:=qp _ h9;omega
 obtain⟨x,hx⟩: ∃x,x=(kq ((b0 47 t).getD z.1 default)).1:=⟨_,rfl⟩
 obtain⟨b,hxb⟩: ∃b,b=(kq ((b0 47 t).getD z.1 default)).2:=⟨_,rfl⟩
 refine aj (bi O Z Z Z Z Z Z Z Z (gG (by omega))) Z (ac Z (jf [6,13,4,10,11,12] Z (aZ (js Z (jf [17,13,4,10,11,12] Z (ab O Z Z Z Z ((vO (s:=((b0 47 t).getD z.1 default)) h1 h2 hL (by omega)).plain (v:=_) (u:=.tup [wi x,eB b]) (by rw[hx,hxb])) (aa Z) Z Z Z Z (B0:=19000) Z Z (aW Z (jf [20,19,13,4,10,11,12] Z (jl Z (au ?_))))))))))
 refine jo Z (au ?_)
 refine js Z (jf [8,7,13,4,10,11,12] Z (jn (ah (af (aW Z (jf [23,7,13,4,10,11,12] Z (aG 3 Z Z Z (fun hx=>aB hx Z (dU hx (cY O Z Z (by have:=hi.2.2.2;omega)) Z (aB hx Z (AN.nil)))) Z Z ?_)))))))
 first|refine aj (aD O Z Z Z Z Z) Z ?_|refine aj (Val.pickB O Z Z Z Z Z) Z ?_|refine aj (aw O Z Z Z Z Z) Z ?_
 refine jf [27,7,13,4,10,11,12] Z (jn (ar Z (fun z27=>?_) (fun z27=>?_)))
 refine af (ac Z (jr ?_))
 refine aC Z ?_
 have hbad:rP t=none:=by
  rcases wI.1 z27 with h|h
  refine qs ?_
  have hq:(b0 47 t)=(b0 47 t).take z.1++((b0 47 t).getD z.1 default)::(b0 47 t).drop (z.1+1):=by conv=>lhs;rw[←List.take_append_drop z.1 (b0 47 t),List.drop_eq_getElem_cons hi0,←am hi0]
  rw[hq];exact iw (by unfold oR;rw[←hxb,h];rfl)
  exact sc (by have:=hi.2.1;omega)
 rw[hbad]
 exact .tup (.cons (.c .nils) (.cons (.c .d) .nil))
 refine al (ag ?_)
 have hno:=tj z27 wI
 have hb1:b=true:=by cases h:b with
 | true=>rfl
 | false=>exact absurd (.inl h) hno
 have hok1:oR ((b0 47 t).getD z.1 default)=some x:=by unfold oR;rw[←hxb,hb1,hx];rfl
 have h60: ¬z.2.length=60:=fun e=>hno (.inr (by omega))
 refine ac Z (aI (aP O Z Z Z Z Z Z Z Z Z Z Z) Z (au ?_))
 refine jf [30,28,27,7,13,4,10,11,12] Z (aI (cw (own:=false) (xs:=z.2.map Nd.cells) (ys:=[Nd.cells x]) (zs:=(z.2++[x]).map Nd.cells) (n:=(z.2++[x]).length) O Z (.row Z (cj _).symm) (.whole Z Z (.inr ⟨Z,Z⟩)) (by simp) Z (by simp;omega) (by simp;omega) (by simp) (by simp)) Z (au ?_))
 refine au ?_
 refine js Z (jf [4,27,7,13,10,11,12] Z (jn (ag ?_)))
 first|refine ji Z ?_|refine cf Z Z ?_
 refine js Z (jn ?_)
 refine⟨(z.1+1,z.2++[x]),((ap [31] (e':=[(4,_),(10,_),(11,_),(12,_)]) Z Z ⟨Z,Z,Z,Z,aq⟩ Z).trans (ax 31 900 Z Z)).trans (Ent.to ⟨Z,Z,Z,Z,aq⟩ Z),⟨by show z.1+1≤_;omega,by show(z.2++[x]).length=z.1+1;rw[dS,hi.2.1];rfl,?_,by show(z.2++[x]).length≤60;rw[dS];have:[x].length=1:=rfl;omega⟩,by show(b0 47 t).length-(z.1+1)<(b0 47 t).length-z.1;omega⟩
 show bH oR ((b0 47 t).take (z.1+1))=some (z.2++[x])
 rw[List.take_succ_eq_append_getElem hi0,←am hi0]
 exact gx hi.2.2.1 hok1
 refine bg (ah (af ?_))
 have hz1:z.1=(b0 47 t).length:=by have:=de z13;omega
 have hall:=hi.2.2.1
 rw[hz1,List.take_length]at hall
 refine js Z (dy O Z Z Z Z (qa (p:=z.2) h1 h2) (.cons (.c (.whole Z (cj _).symm)) .nil) Z Z Z Z Z (B0:=35000) Z (js Z (jf [35,13,4,10,11,12] Z (jn (ar Z (fun z35=>?_) (fun z35=>?_))))))
 refine af (ac Z (jr ?_))
 refine aC Z ?_
 have h9:ku z.2=false:=by simpa using z35
 rw[tg hall,h9]
 exact .tup (.cons (.c .nils) (.cons (.c .d) .nil))
 refine al (af (aW Z (jr ?_)))
 refine aC Z ?_
 have h9:ku z.2=true:=by simpa using z35
 rw[tg hall,if_pos h9]
 exact .tup (.cons (.c (.whole Z (cj _).symm)) (.cons (.c .d) .nil))
end Go.Al
/- Instructions as texts, in plain Lean: what is written, what both readers read. -/
namespace Go.Al
variable{L:Nat}(h1:4096≤L)(h2:L≤1073741824)
open Go.Lib
end Go.Al
/- Annotated code as text, in plain Lean: what is written, what is read. -/
namespace Go.Al
variable{L:Nat}(h1:4096≤L)(h2:L≤1073741824)
open Go.Lib
def xi(s:aQ):Prop:=40000<s.length∨(s≠[]∧s.getLast? ≠some 10)
instance(s:aQ):Decidable (xi s):=by unfold xi;infer_instance
end Go.Al
/- Annotated code as text: what a text that is no list of lines comes to. -/
namespace Go.Al
variable{L:Nat}(h1:4096≤L)(h2:L≤1073741824)
open Go.Lib
end Go.Al
