/- Texts of oK and of sequents: plain Lean, the writers and the readers, walked; what the package-level variables hold. -/
import Derived.Lib.ItoaNum
import Derived.Lib.Split
import Derived.Test.YtlofbdghppgnbaaDoorH
import Derived.Test.YtlofbdghppgnbaaDoorC
import Derived.Test.YtlofbdghppgnbaaDoorS
import Derived.Test.YtlofbdghppgnbaaDoorTie
import Derived.Test.YtlofbdghppgnbaaDoorCards
import Derived.ProofKit
import Derived.OpenShut
import Derived.LaidMore
import Derived.LaidLaws
import Derived.Lay
import Derived.SevenTiedAt
import Derived.Shelf.Vars
import Derived.Stop.Joined
set_option linter.unusedVariables false
set_option linter.unusedSimpArgs false
set_option maxRecDepth 10000
set_option maxHeartbeats 4000000
open Go.Proofs
/- Terms as texts, in plain Lean: what is written, what is read, and that a written term is read back. -/
namespace Go.Al
variable{L:Nat}(h1:4096≤L)(h2:L≤1073741824)
open Go.Lib
abbrev aE:=List UInt8
def fJ(i:Nat):UInt8:=UInt8.ofNat (97+i)
def cB(out:aE)(n:Int):aE:=if n<0 then[45]else if out=[]then[]else[43]
def tC(out:aE)(i:Nat)(c:Int):aE:=if c=0 then out else out++cB out c++(if c.natAbs=1 then[]else decDigits c.natAbs)++[fJ i]
def tX:Nat→List Int→aE→aE
  | _,[],out=>out
  | i,c::r,out=>tX (i+1) r (tC out i c)
def tK(out:aE)(c:Int):aE:=if c=0 then out else out++cB out c++decDigits c.natAbs
def tZ(out:aE):aE:=if out=[]then[48]else out
def n3(c:Int)(xs:List Int):aE:=tZ (tK (tX 0 xs []) c)

def iN(b:UInt8):Bool:=decide (48≤b.toNat)&&decide (b.toNat≤57)
def mz(b:UInt8):Bool:=decide (97≤b.toNat)&&decide (b.toNat<107)
def aX:Nat→Int→aE→Int×aE
  | 0,n,l=>(n,l)
  | _+1,n,[]=>(n,[])
  | k+1,n,b::r=>if iN b then aX k (10*n+(b.toNat-48:Int)) r else(n,b::r)
theorem ee{k:Nat}{n:Int}{b:UInt8}{r:aE}(h:iN b=false):aX k n (b::r)=(n,b::r):=by
 cases k with
 | zero=>rfl
 | succ k=>rw[aX,if_neg (by simp[h])]
theorem gL{k:Nat}{n:Int}:aX k n []=(n,[]):=by cases k<;>rfl
theorem dP{d:Nat}(h:d<10):(UInt8.ofNat (48+d)).toNat=48+d:=by
 rw[UInt8.toNat_ofNat'];omega
theorem gM{k:Nat}{n:Int}{d:Nat}(h:d<10){r:aE}:aX (k+1) n (UInt8.ofNat (48+d)::r)=aX k (10*n+d) r:=by
 rw[aX,if_pos (by unfold iN;rw[dP h];simp;omega),dP h]
 congr 1;omega
theorem gN(m:Nat): ∀(k:Nat) (n:Int) (r:aE),nDigits m≤k→aX k n (decDigits m++r)=aX (k-nDigits m) (n*(10^nDigits m:Nat)+m) r:=by
 induction m using Nat.strongRecOn with
 | _ m ih=>
  intro k n r hk
  by_cases h:m<10
  rw[decDigits,dif_pos h,nDigits_small h]at *
  obtain⟨k,rfl⟩: ∃j,k=j+1:=⟨k-1,by omega⟩
  rw[List.singleton_append,gM h,Nat.add_sub_cancel]
  congr 1;simp;omega
  rw[nDigits_big h]at hk ⊢
  rw[decDigits,dif_neg h,cI,List.singleton_append,ih (m/10) (by omega) k n _ (by omega)]
  obtain⟨j,hj⟩: ∃j,k-nDigits (m/10)=j+1:=⟨k-nDigits (m/10)-1,by omega⟩
  rw[hj,gM (Nat.mod_lt _ (by decide)),show k-(nDigits (m/10)+1)=j by omega]
  congr 1
  rw[Nat.pow_succ,Int.natCast_mul]
  have:(m:Int)=10*((m/10:Nat):Int)+((m%10:Nat):Int):=by omega
  generalize (10^nDigits (m/10):Nat)=p at *
  rw[Int.mul_add,Int.add_assoc,←this]
  congr 1
  rw[show((10:Nat):Int)=10 from Z,Int.mul_comm 10 (n*_),Int.mul_assoc]
theorem ef{m k:Nat}(h:m<10^(k+1)):nDigits m≤k+1:=by
 induction k generalizing m with
 | zero=>rw[nDigits_small (by simpa using h)];exact bp _
 | succ k ih=>
  by_cases hm:m<10
  rw[nDigits_small hm];omega
  rw[nDigits_big hm]
  have:=ih (m:=m/10) (by rw[Nat.pow_succ]at h;omega)
  omega
theorem c8(m:Nat):decDigits m≠[]:=by
 rw[decDigits];split<;>simp
theorem cG(m:Nat): ∀b∈decDigits m,iN b=true:=by
 induction m using Nat.strongRecOn with
 | _ m ih=>
  intro b hb
  rw[decDigits]at hb
  split at hb
  rename_i h
  rw[List.mem_singleton.1 hb];unfold iN;rw[dP h];simp;omega
  rename_i h
  rcases List.mem_append.1 hb with hb|hb
  exact ih (m/10) (by omega) b hb
  rw[List.mem_singleton.1 hb];unfold iN;rw[dP (Nat.mod_lt _ (by decide))];simp;omega
theorem iY: ∀(k:Nat) (n:Int) (l:aE),(aX k n l).2.length≤l.length
 | 0,n,l=>bp _
 | k+1,n,[]=>bp _
 | k+1,n,b::r=>by
  rw[aX]
  split
  exact Nat.le_trans (iY k _ r) (Nat.le_succ _)
  exact bp _
def fU:aE→Int×aE
  | []=>(1,[])
  | b::r=>if b=45 then(-1,r)else if b=43 then(1,r)else(1,b::r)
theorem mV(l:aE):(fU l).2.length≤l.length:=by
 cases l with
 | nil=>exact bp _
 | cons b r=>
  rw[fU]
  split
  exact Nat.le_succ _
  split
  exact Nat.le_succ _
  exact bp _
def ca(xs:List Int)(i:Nat)(n:Int):List Int:=xs.set i (xs.getD i 0+n)
def kh(l:aE):Option (aE×Option Nat×Int):=
  let a:=fU l
  let d:=aX 8 0 a.2
  match d.2 with
  | b::r=>if mz b then some (r,some (b.toNat-97),a.1*(if d.2.length=a.2.length then 1 else d.1))else if d.2.length=a.2.length then none else some (d.2,none,a.1*d.1)
  | []=>if d.2.length=a.2.length then none else some (d.2,none,a.1*d.1)
theorem jA{l r:aE}{i:Option Nat}{n:Int}(h:kh l=some (r,i,n)):r.length<l.length:=by
 have h1:=mV l
 have h2:=iY 8 0 (fU l).2
 unfold kh at h
 simp only at h
 split at h
 rename_i b r' hd
 split at h
 cases h
 have:(aX 8 0 (fU l).2).2.length=r.length+1:=by rw[hd];rfl
 omega
 split at h
 cases h
 cases h;rename_i hne _;rw[hd]at h2;rw[hd]at *;omega
 rename_i hd
 split at h
 cases h
 cases h;rename_i hne;rw[hd]at h2;rw[hd]at *;omega
def gu(l:aE)(xs:List Int)(c:Int):Option (List Int×Int):=
  if l=[]then some (xs,c)else
  match h:kh l with
  | none=>none
  | some (r,some i,n)=>gu r (ca xs i n) c
  | some (r,none,n)=>gu r xs (c+n)
termination_by l.length
decreasing_by all_goals exact jA h
theorem dD{xs:List Int}{c:Int}:gu [] xs c=some (xs,c):=by rw[gu];simp
theorem kD{l r:aE}{xs:List Int}{c n:Int}{i:Nat}(h:kh l=some (r,some i,n)):gu l xs c=gu r (ca xs i n) c:=by
 have hl:l≠[]:=fun e=>by have:=jA h;rw[e]at this;exact absurd this (Nat.not_lt_zero _)
 rw[gu,if_neg hl]
 split
 rename_i e;rw[h]at e;cases e
 rename_i e;rw[h]at e;cases e;rfl
 rename_i e;rw[h]at e;cases e
theorem ik{l r:aE}{xs:List Int}{c n:Int}(h:kh l=some (r,none,n)):gu l xs c=gu r xs (c+n):=by
 have hl:l≠[]:=fun e=>by have:=jA h;rw[e]at this;exact absurd this (Nat.not_lt_zero _)
 rw[gu,if_neg hl]
 split
 rename_i e;rw[h]at e;cases e
 rename_i e;rw[h]at e;cases e
 rename_i e;rw[h]at e;cases e;rfl
theorem l6{l:aE}{xs:List Int}{c:Int}(hl:l≠[])(h:kh l=none):gu l xs c=none:=by
 rw[gu,if_neg hl]
 split
 rfl
 rename_i e;rw[h]at e;cases e
 rename_i e;rw[h]at e;cases e
def lw(f:Bool)(n:Int):aE:=if n<0 then[45]else if f then[43]else[]
def kO(n:Int):aE:=if n.natAbs=1 then[]else decDigits n.natAbs
def pX:Bool→Nat→List Int→aE
  | _,_,[]=>[]
  | f,i,c::r=>if c=0 then pX f (i+1) r else lw f c++kO c++(fJ i::pX true (i+1) r)
def pK(f:Bool)(c:Int):aE:=if c=0 then[]else lw f c++decDigits c.natAbs
def ne(s:aE):Bool:=!s.isEmpty
theorem lP(out:aE)(n:Int):cB out n=lw (ne out) n:=by
 unfold cB lw ne;cases out<;>simp
theorem nh: ∀(xs:List Int) (i:Nat) (out:aE),tX i xs out=out++pX (ne out) i xs
 | [],i,out=>by simp[tX,pX]
 | c::r,i,out=>by
  rw[tX,nh r,pX]
  unfold tC
  by_cases h:c=0
  simp[h]
  rw[if_neg h,if_neg h,lP]
  have:ne (out++lw (ne out) c++(if c.natAbs=1 then[]else decDigits c.natAbs)++[fJ i])=true:=by simp[ne]
  rw[this]
  simp[kO]
theorem oM(out:aE)(c:Int):tK out c=out++pK (ne out) c:=by
 unfold tK pK
 by_cases h:c=0
 simp[h]
 rw[if_neg h,if_neg h,lP];simp
theorem lM(c:Int)(xs:List Int):n3 c xs=tZ (pX false 0 xs++pK (ne (pX false 0 xs)) c):=by
 unfold n3
 rw[oM,nh];simp[ne]
theorem iq{i:Nat}(h:i<10):(fJ i).toNat=97+i:=by
 unfold fJ;rw[UInt8.toNat_ofNat'];omega
theorem ir{i:Nat}(h:i<10):mz (fJ i)=true:=by unfold mz;rw[iq h];simp;omega
theorem kH{i:Nat}(h:i<10):iN (fJ i)=false:=by unfold iN;rw[iq h];simp;omega
theorem mf{b:UInt8}(h:iN b=true∨mz b=true):b≠45∧b≠43:=by
 constructor<;>(rintro rfl;revert h;decide)
theorem iX{f:Bool}{n:Int}{l:aE}(h:n<0∨∃b r,l=b::r∧(iN b=true∨mz b=true))(hl:n<0→True):fU (lw f n++l)=(if n<0 then -1 else 1,l):=by
 unfold lw
 by_cases hn:n<0
 rw[if_pos hn,if_pos hn];rfl
 rw[if_neg hn,if_neg hn]
 obtain⟨b,r,rfl,hb⟩:=h.resolve_left hn
 have:=mf hb
 cases f with
 | true=>rfl
 | false=>simp only[Bool.false_eq_true,if_false,List.nil_append];rw[fU,if_neg this.1,if_neg this.2]
theorem e7(n:Int):(if n<0 then -1 else 1)*(n.natAbs:Int)=n:=by
 by_cases h:n<0
 rw[if_pos h];omega
 rw[if_neg h];omega
theorem n8{m:Nat}(h:m<100000000):nDigits m≤8:=ef (k:=7) (by simpa using h)
theorem ja(m:Nat)(l:aE): ∃b r,decDigits m++l=b::r∧iN b=true:=by
 cases h:decDigits m with
 | nil=>exact absurd h (c8 m)
 | cons b r=>exact⟨b,r++l,Z,cG m b (by rw[h];simp)⟩
theorem kI(m:Nat):0<(decDigits m).length:=List.length_pos_iff.2 (c8 m)
theorem jP{m:Nat}(h:m<100000000){b:UInt8}{r:aE}(hb:iN b=false):aX 8 0 (decDigits m++b::r)=((m:Int),b::r):=by
 rw[gN m 8 0 _ (n8 h),ee hb];simp
theorem kV{m:Nat}(h:m<100000000):aX 8 0 (decDigits m)=((m:Int),([]:aE)):=by
 have:=gN m 8 0 [] (n8 h)
 rw[List.append_nil]at this
 rw[this,gL];simp
theorem mP{f:Bool}{c:Int}{i:Nat}{r:aE}(hi:i<10)(h0:c≠0)(hc:c.natAbs<100000000):kh (lw f c++kO c++(fJ i::r))=some (r,some i,c):=by
 have hd: ∃b q,kO c++(fJ i::r)=b::q∧(iN b=true∨mz b=true):=by
  unfold kO
  split
  exact⟨_,_,Z,.inr (ir hi)⟩
  obtain⟨b,q,h1,h2⟩:=ja c.natAbs (fJ i::r)
  exact⟨b,q,h1,.inl h2⟩
 unfold kh
 rw[cI,iX (.inr hd) (fun _=>trivial)]
 simp only
 have hr:aX 8 0 (kO c++(fJ i::r))=(if c.natAbs=1 then 0 else(c.natAbs:Int),fJ i::r):=by
  unfold kO
  by_cases h:c.natAbs=1
  rw[if_pos h,if_pos h];exact ee (kH hi)
  rw[if_neg h,if_neg h];exact jP hc (kH hi)
 rw[hr]
 simp only[ir hi,if_true,iq hi,Nat.add_sub_cancel_left]
 have e:(if c<0 then -1 else 1)*(if(fJ i::r).length=(kO c++fJ i::r).length then 1 else if c.natAbs=1 then 0 else(c.natAbs:Int))=c:=by
  by_cases h:c.natAbs=1
  have:kO c=[]:=by unfold kO;rw[if_pos h]
  rw[this,if_pos (show(fJ i::r).length=(([]:aE)++fJ i::r).length from Z),Int.mul_one]
  have e2:=e7 c;rw[h]at e2;simpa only[Int.natCast_one,Int.mul_one]using e2
  have:kO c=decDigits c.natAbs:=by unfold kO;rw[if_neg h]
  rw[this,if_neg h,if_neg (show¬(fJ i::r).length=(decDigits c.natAbs++fJ i::r).length by have:=kI c.natAbs;rw[dc];omega)]
  exact e7 c
 rw[e]
theorem mQ{f:Bool}{c:Int}(h0:c≠0)(hc:c.natAbs<100000000):kh (lw f c++decDigits c.natAbs)=some ([],none,c):=by
 have hd: ∃b q,decDigits c.natAbs=b::q∧(iN b=true∨mz b=true):=by
  obtain⟨b,q,h1,h2⟩:=ja c.natAbs []
  rw[List.append_nil]at h1
  exact⟨b,q,h1,.inl h2⟩
 unfold kh
 rw[iX (.inr hd) (fun _=>trivial)]
 simp only
 rw[kV hc]
 simp only
 rw[if_neg (show¬([]:aE).length=(decDigits c.natAbs).length by have:=kI c.natAbs;simp only[List.length_nil];omega),e7]
def fg:Nat→List Int→List Int→List Int
  | _,[],ys=>ys
  | i,c::r,ys=>fg (i+1) r (ca ys i c)
theorem jZ{ys:List Int}{i:Nat}:ca ys i 0=ys:=by
 unfold ca
 rw[Int.add_zero]
 apply List.ext_getElem?
 intro j
 rw[List.getElem?_set]
 split
 rename_i h;subst h
 split
 rename_i h;simp[List.getD_eq_getElem?_getD,h]
 rename_i h;rw[List.getElem?_eq_none (by omega)]
 rfl
theorem ic: ∀(xs:List Int) (i:Nat) (f:Bool) (ys:List Int) (c0:Int) (t:aE),i+xs.length≤10→(∀x∈xs,x.natAbs<100000000)→gu (pX f i xs++t) ys c0=gu t (fg i xs ys) c0
 | [],i,f,ys,c0,t,_,_=>rfl
 | c::r,i,f,ys,c0,t,hi,hx=>by
  rw[pX,fg]
  simp only[fI]at hi
  by_cases h:c=0
  rw[if_pos h,ic r (i+1) f ys c0 t (by omega) (fun x hx'=>hx x (List.mem_cons_of_mem _ hx')),h,jZ]
  rw[if_neg h,cI,List.cons_append,kD (mP (by omega) h (hx c (List.mem_cons_self ..))),ic r (i+1) true _ c0 t (by omega) (fun x hx'=>hx x (List.mem_cons_of_mem _ hx'))]
theorem nJ{c:Int}{xs:List Int}(hl:xs.length≤10)(hx: ∀x∈xs,x.natAbs<100000000)(hc:c.natAbs<100000000)(ys:List Int):gu (n3 c xs) ys 0=some (fg 0 xs ys,c):=by
 rw[lM]
 unfold tZ
 by_cases h:pX false 0 xs++pK (ne (pX false 0 xs)) c=[]
 rw[if_pos h]
 obtain⟨h1,h2⟩:=List.append_eq_nil_iff.1 h
 have z0:c=0:=by
  unfold pK at h2
  by_cases h0:c=0
  exact h0
  rw[if_neg h0]at h2
  exact absurd (List.append_eq_nil_iff.1 h2).2 (c8 _)
 have hp:=ic xs 0 false ys 0 [] (by omega) hx
 rw[h1,List.append_nil,dD,dD]at hp
 have:kh [48]=some ([],none,0):=by decide
 rw[ik this,dD,z0]
 simp only[da,Prod.mk.injEq]at hp
 rw[←hp.1];simp
 rw[if_neg h,ic xs 0 false ys 0 _ (by omega) hx]
 unfold pK
 by_cases h0:c=0
 rw[if_pos h0,dD,h0]
 rw[if_neg h0,ik (mQ h0 hc),dD,Int.zero_add]
end Go.Al
/- Terms as texts, in plain Lean: the reference's reader. -/
namespace Go.Al
variable{L:Nat}(h1:4096≤L)(h2:L≤1073741824)
open Go.Lib
def zr(k:Nat):List Int:=List.replicate k 0
theorem mI(k:Nat):zr (k+1)=0::zr k:=rfl
theorem k9(pre:List Int)(k:Nat)(c:Int):ca (pre++zr (k+1)) pre.length c=(pre++[c])++zr k:=by
 unfold ca
 rw[mI]
 simp[List.getD_eq_getElem?_getD]
theorem gP: ∀(xs pre:List Int) (k:Nat),xs.length≤k→fg pre.length xs (pre++zr k)=(pre++xs)++zr (k-xs.length)
 | [],pre,k,_=>by simp[fg]
 | c::r,pre,k,h=>by
  simp only[fI]at h
  obtain⟨j,rfl⟩: ∃j,k=j+1:=⟨k-1,by omega⟩
  rw[fg,k9,show pre.length+1=(pre++[c]).length by simp,gP r (pre++[c]) j (by omega)]
  simp[Nat.add_sub_add_right]
theorem l8{xs:List Int}(h:xs.length≤10):fg 0 xs (zr 10)=xs++zr (10-xs.length):=by
 have:=gP xs [] 10 h
 simpa using this
end Go.Al
/- Sequents as texts, in plain Lean: cutting and splitting; both readers accept just the written sequents. -/
namespace Go.Al
variable{L:Nat}(h1:4096≤L)(h2:L≤1073741824)
open Go.Lib
def gv(c:UInt8):aE→List aE
  | []=>[[]]
  | b::r=>if b=c then[]::gv c r else(b::(gv c r).headD [])::(gv c r).tail
theorem k5(c b:UInt8)(l:aE):index (b::l) [c]=if b=c then 0 else if index l [c]= -1 then -1 else index l [c]+1:=by
 rw[index]
 by_cases h:b=c
 subst h;simp
 have h2:([c].isPrefixOf (b::l))=false:=by simp[List.isPrefixOf,Ne.symm h]
 rw[h2,if_neg h];simp
theorem hZ(c:UInt8): ∀s:aE,split s [c]=gv c s
 | []=>by
  have:index ([]:aE) [c]= -1:=rfl
  unfold split
  rw[count_miss this];rfl
 | b::l=>by
  have ih:=hZ c l
  unfold split at ih ⊢
  have hi:=k5 c b l
  by_cases h:b=c
  rw[if_pos h]at hi
  rw[count_hit (i:=0) (by simp) (by rw[hi];rfl),Nat.add_comm 1,splitK,hi,gv,if_pos h]
  simp only[show((0:Int)== -1)=false from Z]
  simp only[Bool.false_eq_true,if_false]
  simp[ih]
  rw[if_neg h]at hi
  rw[gv,if_neg h]
  by_cases h2:index l [c]= -1
  rw[if_pos h2]at hi
  rw[count_miss hi]
  rw[count_miss h2]at ih
  rw[←ih];rfl
  rw[if_neg h2]at hi
  have hge:=index_ge l [c]
  obtain⟨i,hi2⟩: ∃i:Nat,index l [c]=i:=⟨(index l [c]).toNat,by omega⟩
  rw[hi2]at hi
  rw[count_hit (i:=i) (by simp) hi2,Nat.add_comm 1,splitK,hi2]at ih
  rw[count_hit (i:=i+1) (by simp) (by rw[hi];rfl),Nat.add_comm 1,splitK,hi]
  have e1:((i:Int)== -1)=false:=by rw[beq_eq_false_iff_ne];omega
  have e2:(((i:Int)+1)== -1)=false:=by rw[beq_eq_false_iff_ne];omega
  rw[e1]at ih
  rw[e2]
  simp only[Bool.false_eq_true,if_false,Int.toNat_natCast,Nat.add_zero]at ih ⊢
  rw[←ih]
  have e3:((i:Int)+1).toNat=i+1:=by omega
  simp[e3]
theorem kA{c:UInt8}: ∀{p:aE} (r:aE),c ∉ p→gv c (p++c::r)=p::gv c r
 | [],r,_=>by rw[List.nil_append,gv,if_pos Z]
 | b::p,r,h=>by
  rw[List.cons_append,gv,if_neg (fun e=>h (by rw[e];exact List.mem_cons_self ..)),kA r (fun hh=>h (List.mem_cons_of_mem _ hh))]
  rfl
def bR(c:UInt8):List aE→aE
  | []=>[]
  | p::r=>p++c::bR c r
theorem iU{c:UInt8}: ∀{ps:List aE},(∀p∈ps,c ∉ p)→gv c (bR c ps)=ps++[[]]
 | [],_=>rfl
 | p::r,h=>by
  rw[bR,kA _ (h p (List.mem_cons_self ..)),iU (fun q hq=>h q (List.mem_cons_of_mem _ hq))];rfl
theorem f5(c:UInt8): ∀s:aE,∃ps q,gv c s=ps++[q]∧s=bR c ps++q∧c ∉ q∧∀p∈ps,c ∉ p
 | []=>⟨[],[],rfl,rfl,by simp,by simp⟩
 | b :: r=>by
  obtain⟨ps,q,h1,h2,h3,h4⟩:=f5 c r
  rw[gv]
  by_cases h:b=c
  rw[if_pos h,h1]
  exact⟨[]::ps,q,Z,by rw[h2,h];rfl,h3,by simpa using h4⟩
  rw[if_neg h,h1]
  cases ps with
  | nil=>exact⟨[],b::q,Z,by rw[h2];rfl,by simp only[List.mem_cons,not_or];exact⟨Ne.symm h,h3⟩,by simp⟩
  | cons p ps=>
   refine⟨(b::p)::ps,q,Z,by rw[h2];rfl,h3,?_⟩
   intro x hx
   rcases List.mem_cons.1 hx with rfl|hx
   simp only[List.mem_cons,not_or];exact⟨Ne.symm h,h4 p (List.mem_cons_self ..)⟩
   exact h4 x (List.mem_cons_of_mem _ hx)
abbrev aF:aE:=[61,62]
theorem gR: ∀{f:aE} (g:aE),(61:UInt8) ∉ f→index (f++aF++g) aF=f.length
 | [],g,_=>by simp[index]
 | b::f,g,h=>by
  have ih:=gR g (fun hh=>h (List.mem_cons_of_mem _ hh)) (f:=f)
  have hb: ¬(61:UInt8)=b:=fun e=>h (by rw[e];exact List.mem_cons_self ..)
  rw[List.cons_append,List.cons_append,index]
  have h2:(aF.isPrefixOf (b::(f++aF++g)))=false:=by simp[List.isPrefixOf,hb]
  rw[h2,ih]
  have e1:((f.length:Int)== -1)=false:=by rw[beq_eq_false_iff_ne];omega
  rw[e1];simp
theorem m5{f:aE}(g:aE)(h:(61:UInt8) ∉ f):cut (f++aF++g) aF=(f,g,true):=by
 unfold cut
 rw[gR g h,if_pos (by omega)]
 simp
theorem jb{s f g:aE}(h:cut s aF=(f,g,true)):s=f++aF++g:=by
 unfold cut at h
 rcases index_spec s aF with⟨h1,_⟩|⟨i,h1,h2,h3,_⟩
 rw[h1]at h;simp at h
 rw[h1,if_pos (by omega)]at h
 simp only[Int.toNat_natCast,Prod.mk.injEq,and_true]at h
 obtain⟨rfl,rfl⟩:=h
 unfold occAt at h3
 obtain⟨r,hr⟩:=List.isPrefixOf_iff_prefix.1 h3
 have:s.drop (i+aF.length)=r:=by
  rw[←List.drop_drop,←hr];simp
 rw[this,cI,hr,List.take_append_drop]
section
variable{T:Type}(tx:T→aE)(ok:T→Bool)(rd:aE→Option T)
def pp(fs:List T)(g:T):aE:=bR 59 (fs.map tx)++aF++tx g
def bu : List aE→Option (List T)
  | []=>some []
  | s :: r=>match rd s with
    | none=>none
    | some t=>match bu r with
      | none=>none
      | some ts=>some (t::ts)
def ki(s:aE):Option (List T×T):=
  if(cut s aF).2.2=false∨((cut s aF).1≠[]∧(cut s aF).1.getLast? ≠some 59)then none else
  match rd (cut s aF).2.1 with
  | none=>none
  | some g=>match bu rd (gv 59 (cut s aF).1).dropLast with
    | none=>none
    | some fs=>if fs.length≤13 then some (fs,g)else none
variable{tx ok rd}
theorem cL(hrd: ∀s t,rd s=some t↔ok t=true∧s=tx t): ∀{ss:List aE} {ts:List T},bu rd ss=some ts↔(∀t∈ts,ok t=true)∧ss=ts.map tx
 | [],ts=>by
  rw[bu]
  constructor
  intro h;cases h;simp
  rintro⟨_,h⟩;cases ts with
  | nil=>rfl
  | cons _ _=>cases h
 | s :: r,ts=>by
  rw[bu]
  constructor
  intro h
  split at h
  cases h
  rename_i t ht
  split at h
  cases h
  rename_i ts' hts
  cases h
  obtain⟨h1,h2⟩:=(cL hrd).1 hts
  obtain⟨h3,h4⟩:=(hrd s t).1 ht
  refine⟨fun x hx=>?_,by rw[h2,h4];rfl⟩
  rcases List.mem_cons.1 hx with rfl|hx
  exact h3
  exact h1 x hx
  rintro⟨h1,h2⟩
  cases ts with
  | nil=>cases h2
  | cons t ts=>
   simp only[List.map_cons,List.cons.injEq]at h2
   rw[(hrd s t).2 ⟨h1 t (List.mem_cons_self ..),h2.1⟩,(cL hrd).2 ⟨fun x hx=>h1 x (List.mem_cons_of_mem _ hx),h2.2⟩]
theorem gY(c:UInt8): ∀{ps:List aE},ps≠[]→(bR c ps).getLast? = some c
 | [],h=>absurd Z h
 | [p],_=>by simp[bR]
 | p::q::r,_=>by
  have:=gY c (ps:=q::r) (by simp)
  rw[bR]
  rw[List.getLast?_append,List.getLast?_cons,this];simp
theorem i6{c d:UInt8}(hcd:d≠c): ∀{ps:List aE},(∀p∈ps,d ∉ p)→d ∉ bR c ps
 | [],_=>by simp[bR]
 | p::r,h=>by
  rw[bR]
  simp only[List.mem_append,List.mem_cons,not_or]
  exact⟨h p (List.mem_cons_self ..),hcd,i6 hcd (fun q hq=>h q (List.mem_cons_of_mem _ hq))⟩
theorem mU(hrd: ∀s t,rd s=some t↔ok t=true∧s=tx t)(hch: ∀t,ok t=true→(59:UInt8) ∉ tx t∧(61:UInt8) ∉ tx t){s:aE}{fs:List T}{g:T}:ki rd s=some (fs,g)↔fs.length≤13∧(∀t∈fs,ok t=true)∧ok g=true∧s=pp tx fs g:=by
 constructor
 intro h
 unfold ki at h
 split at h
 cases h
 rename_i hc
 simp only[not_or,Bool.not_eq_false]at hc
 split at h
 cases h
 rename_i g' hg
 split at h
 cases h
 rename_i fs' hf
 split at h
 rename_i hl
 cases h
 obtain⟨h1,h2⟩:=(hrd _ _).1 hg
 obtain⟨h3,h4⟩:=(cL hrd).1 hf
 refine⟨hl,h3,h1,?_⟩
 have hs:s=(cut s aF).1++aF++(cut s aF).2.1:=jb (by rw[←hc.1])
 obtain⟨ps,q,j1,j2,j3,j4⟩:=f5 59 (cut s aF).1
 rw[j1,List.dropLast_concat]at h4
 have hq:q=[]:=by
  by_cases hq:q=[]
  exact hq
  have hne:(cut s aF).1≠[]:=by rw[j2];simp[hq]
  have:=hc.2
  simp only[not_and,Classical.not_not]at this
  have:=this hne
  rw[j2,List.getLast?_append]at this
  cases hql:q.getLast? with
  | none=>rw[List.getLast?_eq_none_iff]at hql;exact absurd hql hq
  | some z=>
   rw[hql]at this
   simp at this
   have hz:=List.mem_of_getLast? hql
   rw[this]at hz;exact absurd hz j3
 rw[hq,List.append_nil,h4]at j2
 rw[hs,j2,h2];rfl
 cases h
 rintro⟨h1,h2,h3,rfl⟩
 have h59: ∀p∈fs.map tx,(59:UInt8) ∉ p:=fun p hp=>by obtain⟨t,ht,rfl⟩:=List.mem_map.1 hp;exact(hch t (h2 t ht)).1
 have h61: ∀p∈fs.map tx,(61:UInt8) ∉ p:=fun p hp=>by obtain⟨t,ht,rfl⟩:=List.mem_map.1 hp;exact(hch t (h2 t ht)).2
 unfold ki pp
 rw[m5 _ (i6 (by decide) h61)]
 simp only
 rw [iU h59,List.dropLast_concat,(hrd _ g).2 ⟨h3,rfl⟩,(cL hrd).2 ⟨h2,rfl⟩,if_neg (by
  simp only[not_or,not_and,Classical.not_not]
  refine⟨by simp,fun hne=>gY 59 fun e=>hne (by rw[e];rfl)⟩)]
 simp only[if_pos h1]
end
end Go.Al
/- Terms and sequents as texts: what both readers accept. -/
namespace Go.Al
variable{L:Nat}(h1:4096≤L)(h2:L≤1073741824)
open Go.Lib
abbrev tS(t:Tm):aE:=n3 t.c t.xs
theorem kv{xs:List Int}: ∀k,aW (xs++zr k)=aW xs
 | 0=>by simp[zr]
 | k+1=>by
  have:zr (k+1)=zr k++[0]:=List.replicate_succ'
  rw[this,←cI,gJ,kv k]
theorem mK{t:Tm}(h:t.ok=true):aW t.xs=t.xs:=by
 have h1:=(qk.1 h).2.2.2
 have:=e5 (xs:=t.xs) (n:=t.xs.length) (bp _) (by
  rcases h1 with h1|h1
  · left;rw[h1];rfl
  · exact .inr h1)
 simpa using this
theorem kE{n:Int}(h:num n=true):n.natAbs≤1000000:=by
 have:=px.1 h;omega
theorem ie{t:Tm}(h:t.ok=true):t.c.natAbs≤1000000∧(∀x∈t.xs,x.natAbs≤1000000)∧t.xs.length≤10:=by
 obtain⟨h1,h2,h3,_⟩:=qk.1 h
 exact⟨kE h1,fun x hx=>kE (List.all_eq_true.1 h2 x hx),h3⟩
def eo(s:aE):Option Tm:=match gu s (zr 10) 0 with
  | none=>none
  | some x=>if(Tm.mk x.2 (aW x.1)).ok=true∧tS ⟨x.2,aW x.1⟩=s then some ⟨x.2,aW x.1⟩else none
theorem fO(s:aE)(t:Tm):eo s=some t↔t.ok=true∧s=tS t:=by
 unfold eo
 constructor
 intro h
 split at h
 cases h
 split at h
 rename_i hc
 cases h
 exact⟨hc.1,hc.2.symm⟩
 cases h
 rintro⟨h1,rfl⟩
 obtain⟨h2,h3,h4⟩:=ie h1
 rw[nJ h4 (fun x hx=>by have:=h3 x hx;omega) (by omega),l8 h4]
 simp only
 rw[kv,mK h1,if_pos ⟨h1,rfl⟩]
def kk(b:UInt8):Prop:=iN b=true∨mz b=true∨b=43∨b=45
theorem iW{f:Bool}{n:Int}: ∀b∈lw f n,kk b:=by
 intro b hb
 unfold lw at hb
 split at hb
 rw[List.mem_singleton.1 hb];exact .inr (.inr (.inr Z))
 split at hb
 rw[List.mem_singleton.1 hb];exact .inr (.inr (.inl Z))
 cases hb
theorem im: ∀{xs:List Int} {f:Bool} {i:Nat},i+xs.length≤10→∀b∈pX f i xs,kk b
 | [],f,i,_,b,hb=>by cases hb
 | c::r,f,i,hi,b,hb=>by
  simp only[fI]at hi
  rw[pX]at hb
  split at hb
  exact im (by omega) b hb
  simp only[List.mem_append,List.mem_cons]at hb
  rcases hb with(hb|hb)|rfl|hb
  exact iW b hb
  unfold kO at hb
  split at hb
  cases hb
  exact .inl (cG _ b hb)
  exact .inr (.inl (ir (by omega)))
  exact im (by omega) b hb
theorem mM{t:Tm}(h:t.ok=true): ∀b∈tS t,kk b:=by
 intro b hb
 rw[tS,lM]at hb
 unfold tZ at hb
 split at hb
 rw[List.mem_singleton.1 hb];exact .inl (by decide)
 rcases List.mem_append.1 hb with hb|hb
 exact im (by have:=(ie h).2.2;omega) b hb
 unfold pK at hb
 split at hb
 cases hb
 rcases List.mem_append.1 hb with hb|hb
 exact iW b hb
 exact .inl (cG _ b hb)
theorem oL(t:Tm)(h:t.ok=true):(59:UInt8) ∉ tS t∧(61:UInt8) ∉ tS t:=by
 constructor<;>(intro hb;have:=mM h _ hb;revert this;unfold kk;decide)
theorem ew{m:Nat}(h:m≤1000000):(decDigits m).length≤7:=by
 rw[decDigits_eq,ep,List.length_range]
 exact ef (k:=6) (by omega)
theorem nF{out:aE}{i:Nat}{c:Int}(h:c.natAbs≤1000000):(tC out i c).length≤out.length+9:=by
 unfold tC
 split
 omega
 have h1:(cB out c).length≤1:=by
  unfold cB
  split
  simp
  split<;>simp
 have h2:(if c.natAbs=1 then[]else decDigits c.natAbs).length≤7:=by
  split
  simp
  exact ew h
 simp only[dc,nf];omega
theorem lN: ∀{xs:List Int} {i:Nat} {out:aE},(∀x∈xs,x.natAbs≤1000000)→(tX i xs out).length≤out.length+9*xs.length
 | [],i,out,_=>by simp[tX]
 | c::r,i,out,h=>by
  rw[tX]
  have h1:=lN (i:=i+1) (out:=tC out i c) (fun x hx=>h x (List.mem_cons_of_mem _ hx))
  have h2:=nF (out:=out) (i:=i) (h c (List.mem_cons_self ..))
  simp only[fI];omega
theorem ky: ∀(xs:List Int) (i:Nat) (c:Int) (out:aE),tX i (xs++[c]) out=tC (tX i xs out) (i+xs.length) c
 | [],i,c,out=>by simp[tX]
 | x::r,i,c,out=>by
  rw[List.cons_append,tX,ky r,tX,fI,show i+1+r.length=i+(r.length+1) by omega]
theorem nD{out:aE}{c:Int}(h:c.natAbs≤1000000):(tK out c).length≤out.length+8:=by
 unfold tK
 split
 omega
 have h1:(cB out c).length≤1:=by
  unfold cB
  split
  simp
  split<;>simp
 have h2:=ew h
 simp only[dc];omega
theorem dY{t:Tm}(h:t.ok=true):(tS t).length≤100:=by
 obtain⟨h1,h2,h3⟩:=ie h
 have h4:=lN (i:=0) (out:=[]) h2
 have h5:=nD (out:=tX 0 t.xs []) h1
 unfold tS n3 tZ
 split
 decide
 simp only[List.length_nil]at h4;omega
abbrev fM(s:aE):A:=.c (.d (sD s))
theorem m4{m:Nat}(h:m<100000000000000000000):(Lib.decDigits m).length≤20:=by
 rw[Lib.decDigits_eq,ep,List.length_range]
 exact ef (k:=19) (by omega)
theorem iV{o:aE}{n:Int}:(cB o n).length≤1:=by
 unfold cB
 split
 simp
 split<;>simp
theorem eF(a:Nat):Lib.itoa (a:Int)=Lib.decDigits a:=by
 unfold Lib.itoa
 rw[if_neg (by omega),Int.toNat_natCast]
end Go.Al
/- What three functions of Go's library answer, as contracts of the abstract logic. -/
namespace Go.Al
variable{L:Nat}(h1:4096≤L)(h2:L≤1073741824)
theorem jU{w:World}{k:Nat}{os:Array Obj}:Frame w (Go.Sort.grow (w.drewN k) os) []:=by
 refine⟨Z,Z,Z,?_,fun b hb _=>?_⟩
 show w.heap.size≤(w.heap++os).size
 rw[Array.size_append];omega
 show(w.heap++os)[b]? = w.heap[b]?
 exact Array.getElem?_append_left hb
theorem jK{P:Program}{L f:Nat}{args:List A}{v:A}(hc:dr P f)
    (h: ∀(w:World) (ok:Nat→Prop) (m:Nat→Loc) (vs:List Value),GOk P w ok→RAs L w ok m args vs→Calls P f vs.toArray w (kQ fun x w'=>Frame w w' []∧∀ok' m',(∀b,w.heap.size≤b→ok' b)→RA L w' ok' m' v x)):MC P L f args [] (Plain v):=by
 refine⟨hc,fun w m F ok vs h0 h1 h2 h3 h4 h5=>?_⟩
 cases h1
 refine Calls.mono (h w ok m vs h0 h5) fun e w' he=>?_
 cases e with
 | returned x=>
  obtain⟨hf,hx⟩:=he
  exact⟨v,[],m,[],⟨Z,Z⟩,.nil,List.nodup_nil,(by simp),hx _ _ (fun b hb=>⟨by simp,.inr (.inl hb)⟩),hf,fun _ _ _=>rfl,h4⟩
 | _=>exact he
theorem RA.str_inv{L w ok m}{s:ByteArray}{x:Value}(h:RA L w ok m (.c (.d (.str s))) x):x= .string s∧s.size≤L:=by
 cases h with|c h=>cases h with|d h=>cases h with|str h=>exact⟨rfl,h⟩
theorem fB{L w ok m}{k:IntKind}{n:Int}{x:Value}(h:RA L w ok m (.c (.d (.int k n))) x):x= .int k n:=by
 cases h with|c h=>cases h with|d h=>cases h with|int h1 h2=>rfl
theorem GOk.tab{P:Program}{w:World}{ok:Nat→Prop}(h:GOk P w ok){g:Nat}(hg:P.globalNamed "internal/strconv.uint64pow10" = some g):Lib.TabIs P w "internal/strconv.uint64pow10" .u64 Lib.pow10Tab:=by
 obtain⟨_,cs,h1,h2⟩:=h "internal/strconv.uint64pow10" g (by simp[GN]) hg
 rw[h2.1 Z]at h1
 exact h1
theorem GOk.maxLen{P:Program}{w:World}{ok:Nat→Prop}(h:GOk P w ok){g:Nat}(hg:P.globalNamed "internal/bytealg.MaxLen" = some g): ∃m,w.cell? ⟨g,0,none⟩=some (.int .i64 m):=by
 obtain⟨_,cs,h1,h2⟩:=h "internal/bytealg.MaxLen" g (by simp[GN]) hg
 obtain⟨m,hm⟩:=h2.2 rfl
 refine⟨m,?_⟩
 unfold World.var? at h1
 rw[hg,Option.bind_some]at h1
 split at h1
 rename_i cs' _ _ hb
 cases h1
 simp[World.cell?,hb,hm]
 cases h1
variable{n:Int}
theorem oW(hn0: -9223372036854775808≤n)(hn1:n≤9223372036854775807):MQ h1 h2 90 [eI n,eI 10] [] (Plain (fM (Lib.itoa n))):=by
 refine jK ⟨_,_,Tryd.func90,by kernel_rfl,Z⟩ fun w ok m vs h0 h5=>?_
 cases h5 with
 | cons a1 a2=>cases a2 with
  | cons a3 a4=>
   cases a4
   rw[fB a1,fB a3]
   refine Calls.mono (Tryd.strconv_FormatInt_10 n hn0 hn1 w (h0.tab (g:=1) (by kernel_rfl))) fun e w' ⟨he,k,os,hw⟩=>?_
   subst he hw
   refine⟨jU,fun ok' m' _=>.c (.d (.str ?_))⟩
   show(bS (Lib.itoa n)).size≤L
   rw[bc]
   have hd: ∀m:Nat,m≤9223372036854775808→(Lib.decDigits m).length≤20:=fun m hm=>m4 (by omega)
   unfold Lib.itoa
   split
   ·
    have:=hd n.natAbs (by omega);rw[fI];omega
   ·
    have:=hd n.toNat (by omega);omega
theorem gD(s:aE):(bS s).data.toList=s:=by simp[bS]
theorem kJ(s sep:aE):(Lib.cut s sep).1.length≤s.length∧(Lib.cut s sep).2.1.length≤s.length:=by
 unfold Lib.cut
 split
 exact⟨by rw[List.length_take];omega,by rw[List.length_drop];omega⟩
 exact⟨bp _,fE _⟩
theorem oY{s sep:aE}:MQ h1 h2 38 [fM s,fM sep] [] (Plain (.tup [fM (Lib.cut s sep).1,fM (Lib.cut s sep).2.1,eB (Lib.cut s sep).2.2])):=by
 refine jK ⟨_,_,Tryd.func38,by kernel_rfl,Z⟩ fun w ok m vs h0 h5=>?_
 cases h5 with
 | cons a1 a2=>cases a2 with
  | cons a3 a4=>
   cases a4
   obtain⟨rfl,l1⟩:=a1.str_inv
   obtain⟨rfl,l2⟩:=a3.str_inv
   obtain⟨k,hk⟩:=h0.maxLen (g:=0) (by kernel_rfl)
   rw[bc]at l1
   refine Calls.mono (Tryd.strings_Cut (bS s) (bS sep) k w (by rw[bc];omega) hk) fun e w' ⟨he,j,hw⟩=>?_
   subst he hw
   have hl:=kJ s sep
   refine⟨⟨Z,Z,Z,bp _,fun _ _ _=>rfl⟩,fun ok' m' _=>?_⟩
   rw[gD,gD]
   refine .tup (.cons (.c (.d (.str ?_))) (.cons (.c (.d (.str ?_))) (.cons (.c (.d .bool)) .nil)))
   ·
    show(bS _).size≤L;rw[bc];omega
   ·
    show(bS _).size≤L;rw[bc];omega
theorem eb{sep:aE}: ∀{k:Nat} {s:aE},∀p∈Lib.splitK sep 0 k s,p.length≤s.length
 | 0,s,p,hp=>by rw[List.mem_singleton.1 hp];exact bp _
 | k+1,s,p,hp=>by
  rw[Lib.splitK]at hp
  split at hp
  rw[List.mem_singleton.1 hp];exact bp _
  rcases List.mem_cons.1 hp with rfl|hp
  rw[List.length_take];omega
  have:=eb p hp
  rw[List.length_drop]at this;omega
abbrev strs(ss:List aE):D:=.slc 1 (ss.map fun p=>[sD p])
theorem jd{L:Nat}{w:World}{ok:Nat→Prop}{b:Nat}: ∀{ss:List aE} {o:Nat},(∀p∈ss,p.length≤L)→(∀j p,ss[j]? = some p→w.cell? ⟨b,o+j,none⟩=some (.string (bS p)))→RDs L w ok (ss.map fun p=>[sD p]).flatten b o []
 | [],o,_,_=>.nil
 | p::r,o,h1,h2=>by
  simp only[List.map_cons,List.flatten_cons,List.singleton_append]
  refine .cons (F1:=[]) (F2:=[]) (h2 0 p Z) (.str (by rw[bc];exact h1 p (List.mem_cons_self ..))) (jd (fun q hq=>h1 q (List.mem_cons_of_mem _ hq)) fun j q hq=>?_)
  have:=h2 (j+1) q hq
  rwa[show o+1+j=o+(j+1) by omega]
theorem oX{s sep:aE}(hne:sep≠[])(hl:(Lib.split s sep).length≤L):MQ h1 h2 39 [fM s,fM sep] [] (Plain (.c (.d (strs (Lib.split s sep))))):=by
 refine jK ⟨_,_,Tryd.func39,by kernel_rfl,Z⟩ fun w ok m vs h0 h5=>?_
 cases h5 with
 | cons a1 a2=>cases a2 with
  | cons a3 a4=>
   cases a4
   obtain⟨rfl,l1⟩:=a1.str_inv
   obtain⟨rfl,l2⟩:=a3.str_inv
   obtain⟨k,hk⟩:=h0.maxLen (g:=0) (by kernel_rfl)
   rw[bc]at l1
   refine Calls.mono (Tryd.strings_Split (bS s) (bS sep) k w (by rw[bc];omega) hk (by rw[bc];exact List.length_pos_iff.2 hne)) fun e w' ⟨he,hw⟩=>?_
   subst he hw
   have hd:=Lib.splitB_data (bS sep) 0 (Lib.countB (bS s) (bS sep)) (bS s)
   have hc:Lib.countB (bS s) (bS sep)=Lib.count s sep:=by show Lib.count (bS s).data.toList (bS sep).data.toList=_;rw[gD,gD]
   rw[hc]at hd ⊢
   rw[gD,gD]at hd
   have hd2:Lib.splitB (bS sep) 0 (Lib.count s sep) (bS s)=(Lib.split s sep).map bS:=by
    have:=congrArg (List.map bS) hd
    rw[List.map_map]at this
    rw[show(Lib.split s sep)=Lib.splitK sep 0 (Lib.count s sep) s from Z,←this]
    conv=>lhs;rw[←List.map_id (Lib.splitB (bS sep) 0 (Lib.count s sep) (bS s))]
    exact List.map_congr_left fun x _=>(m8 x).symm
   have hall:=Lib.splitB_all (bS sep) (by rw[bc];exact List.length_pos_iff.2 hne) 0 _ (bS s) Z
   rw[hc,hd2,ep]at hall
   refine⟨⟨Z,Z,Z,by show w.heap.size≤(w.heap.push _).size;rw[Array.size_push];omega,fun b hb _=>by show(w.heap.push _)[b]? = _;rw[Array.getElem?_push,if_neg (by omega)]⟩,fun ok' m' hok=>.c (.d ?_)⟩
   rw[hd2,←hall]
   rw[show(Lib.split s sep).length=((Lib.split s sep).map fun p=>[sD p]).length by rw[ep]]
   refine .slc (by rw[ep];exact hl) (bp _) (by intro e he;obtain⟨p,_,rfl⟩:=List.mem_map.1 he;rfl) (hok _ (bp _)) (by show w.heap.size<(w.heap.push _).size;rw[Array.size_push];omega) (jd (fun p hp=>Nat.le_trans (eb p hp) l1) fun j p hj=>?_)
   rw[Nat.zero_add]
   have hb:(w.alloc (.cells (((Lib.split s sep).map bS).map Value.string).toArray 9)).heap[w.heap.size]? = some (.cells (((Lib.split s sep).map bS).map Value.string).toArray 9):=by
    show(w.heap.push _)[w.heap.size]? = _
    rw[Array.getElem?_push_size]
   rw[cell_of_row _ _ _ _ _ _ hb]
   simp[hj]
theorem no(hn0: -9223372036854775808≤n)(hn1:n≤9223372036854775807):MQ h1 h2 70 [eI n] [] (Plain (fM (Lib.itoa n))):=by
 refine aH ?_ Z
 refine jB 5 h1 h2 Tryd.func70 Z fun O hF=>?_
 refine ah (js Z (b0 (js Z (jf [3,2] Z (cR Z (oW (n:=n) h1 h2 hn0 hn1) 5000 Z (js Z (jf [2] Z (jr ?_))))))))
 refine aK Z ?_
 rfl
theorem np{o:aE}(ho:o.length≤1000):MQ h1 h2 68 [eI n,.c (.pt 0 0 0)] [(0,.box [.d (sD o)])] (dd (.tup []) [(0,.box [.d (sD (o++cB o n))])]):=by
 refine jH 11 [0] h1 h2 Tryd.func68 Z fun O hF=>?_
 refine ah (ap Z (jf [4,1] Z (jn (aB Z (fun z4=>?_) (fun z4=>?_)))))
 refine ag (js Z (an (bF (p:=o) (q:=[45]) O Z Z Z Z Z Z (by show o.length+1≤L;omega) (by show L≤_;omega)) Z (jf [6,1] Z (jo Z (aP ?_)))))
 refine jn ?_
 show _∧_
 refine⟨.inr Z,_,dh,_,Z,Z,?_⟩
 rw[show cB o n=[45] by unfold cB;rw[if_pos (eR z4)]]
 refine ah (js Z (an (iB (p:=o) (q:=[]) O Z Z Z Z Z Z) Z (jf [8,1] Z (jn (aB Z (fun z8=>?_) (fun z8=>?_))))))
 refine ag (js Z (an (bF (p:=o) (q:=[43]) O Z Z Z Z Z Z (by show o.length+1≤L;omega) (by show L≤_;omega)) Z (jf [10,1] Z (jo Z (aP ?_)))))
 refine jn ?_
 show _∧_
 refine⟨.inr Z,_,dh,_,Z,Z,?_⟩
 rw[show cB o n=[43] by unfold cB;rw[if_neg (eQ z4),if_neg (by simpa using z8)]]
 refine ao ?_
 show _∧_
 refine⟨.inr Z,_,dh,_,Z,Z,?_⟩
 rw[show cB o n=[] by unfold cB;rw[if_neg (eQ z4),if_pos (by simpa using z8)],List.append_nil]
theorem mN{o:aE}{i:Nat}{c:Int}(h:c=0):tC o i c=o:=by unfold tC;rw[if_pos h]
theorem nE{o:aE}{i:Nat}{c:Int}(h: ¬c=0):tC o i c=(o++cB o c++(if c.natAbs=1 then[]else Lib.decDigits c.natAbs))++[fJ i]:=by unfold tC;rw[if_neg h]
theorem kq{t:Tm}(ht:t.ok=true):MQ h1 h2 34 [df t] [] (Plain (fM (tS t))):=by
 refine aH ?_ Z
 refine jB 52 h1 h2 Tryd.func34 Z fun O hF=>?_
 obtain⟨z6,hx6,hl10⟩:=ie ht
 have hl:t.xs.length≤L:=by omega
 refine ah (jx Z (aP ?_))
 refine js Z (b0 (jl Z (aP ?_)))
 refine jo Z (aP ?_)
 refine b0 (ap Z (jn (ae (ah (ap Z ?_)))))
 first|refine fK Z ?_|refine js Z ?_|refine cJ Z Z ?_
 refine js Z (jn (ak (av (X:=Nat×aE) (fun z=>⟨[(1,.c (.pt 1 0 0)),(3,.c (.pt 3 0 0)),(4,.c (.fn 68 [.pt 3 0 0])),(9,bm t.xs),(10,eI t.xs.length),(11,eI (z.1:Nat))],[(1,.box [.d (.int .i64 t.c),.d (eX t.xs)]),(3,.box [.d (sD z.2)])]⟩) (fun z=>z.1≤t.xs.length∧z.2=tX 0 (t.xs.take z.1) []∧z.2.length≤9*z.1) (fun z=>t.xs.length-z.1) (0,[]) (Ent.to ⟨Z,Z,Z,Z,Z,Z,aw⟩ Z) ?_ (fun z hi=>?_))))
 exact⟨fE _,by show[]=tX 0 (t.xs.take 0) [];simp[tX],bp _⟩
 refine ah (js Z (jn (ae (aB Z (fun z12=>?_) (fun z12=>?_)))))
 refine ao (ae (ak (ah (js Z ?_))))
 first|refine pB Z Z ?_|refine n6 Z Z ?_|refine cJ Z Z ?_
 refine bQ Z (jf [6,5,12,1,3,4,9,10,11] Z (jn (ae (ah ?_))))
 have hz1:z.1<t.xs.length:=by have:=eR z12;omega
 obtain⟨n,hn⟩: ∃n,n=(t.xs.getD z.1 default):=⟨_,rfl⟩
 rw[←hn]
 have hna:n.natAbs≤1000000:=by rw[hn,ax hz1];exact hx6 _ (List.getElem_mem hz1)
 have hstep:tX 0 (t.xs.take (z.1+1)) []=tC z.2 z.1 n:=by rw[List.take_succ_eq_append_getElem hz1,ky,List.length_take,Nat.min_eq_left (by omega),Nat.zero_add,hi.2.1,hn,ax hz1]
 have hzl:z.2.length≤90:=by have:=hi.2.2;omega
 refine ap Z (jn (aB Z (fun z17=>?_) (fun z17=>?_)))
 refine bi (ag ?_)
 first|refine ji Z ?_|refine cJ Z Z ?_
 refine js Z (jn ?_)
 refine⟨(z.1+1,z.2),Ent.to ⟨Z,Z,Z,Z,Z,Z,aw⟩ Z,⟨by show z.1+1≤_;omega,?_,by show z.2.length≤9*(z.1+1);omega⟩,by show t.xs.length-(z.1+1)<t.xs.length-z.1;omega⟩
 show z.2=_
 rw[hstep,mN (eR z17)]
 refine ao (ah (ap Z (aJ O [3] (bin:=[.box [.d (sD z.2)]]) Z Z Z Z (np (n:=n) (o:=z.2) h1 h2 (by omega)) Z Z Z Z Z Z (B0:=21000) Z Z (aP ?_))))
 obtain⟨o2,ho2⟩: ∃o,o=z.2++cB z.2 n:=⟨_,rfl⟩
 rw[←ho2]
 have h2l:o2.length≤z.2.length+1:=by have:=iV (o:=z.2) (n:=n);rw[ho2,dc];omega
 refine jf [17,16,6,5,12,1,3,4,9,10,11] Z (jn (ae (ah (js Z (cR Z (nA (x:=n) h1 h2 (by omega)) 23000 Z (js Z (jf [23,17,16,6,5,12,1,3,4,9,10,11] Z (jn ?_))))))))
 obtain⟨o3,ho3⟩: ∃o,o=o2++(if n.natAbs=1 then[]else Lib.decDigits n.natAbs):=⟨_,rfl⟩
 have hdl:(Lib.decDigits n.natAbs).length≤7:=ew hna
 have h3l:o3.length≤o2.length+7:=by rw[ho3,dc];split<;>simp<;>omega
 refine dK ⟨[(1,.c (.pt 1 0 0)),(3,.c (.pt 3 0 0)),(4,.c (.fn 68 [.pt 3 0 0])),(9,bm t.xs),(10,eI t.xs.length),(11,eI (z.1:Nat)),(5,eI (z.1:Nat)),(6,eI n)],[(1,.box [.d (.int .i64 t.c),.d (eX t.xs)]),(3,.box [.d (sD o3)])]⟩ ?_ ?_
 refine aB Z (fun z23=>?_) (fun z23=>?_)
 refine jy [_,_,_,_,_,_] [pn [] 0 2,aM,pe [1] 0,pe [1,2] 1,pn (rg 0 4) 2 2,pe (rg 0 5) 2] [2,3,5] [_,_,_,_] (ai (kc Z (kc Z (V Z))) (kc Z (ai (bG O (B0:=27000) Z Z Z Z (nA (x:=n) h1 h2 (by omega)) (ac Z) Z Z Z Z Z) (ai (bG O (B0:=28000) Z Z Z Z (no (n:=(n.natAbs:Int)) h1 h2 (by omega) (by omega)) (ac Z) Z Z Z Z Z) (ai (bF (p:=o2) (q:=Lib.itoa (n.natAbs:Int)) O Z Z Z Z Z Z (by rw[eF];have:=ew hna;show o2.length+(Lib.decDigits n.natAbs).length≤L;omega) (by show L≤_;omega)) (ai (eS Z Z Z) trivial)))))) ?_
 refine qo ?_
 exact⟨Z,Ent.to ⟨Z,Z,Z,Z,Z,Z,Z,Z,aw⟩ (by rw[ho3,if_neg (by have:=z23;simp at this;omega),eF])⟩
 refine ao ?_
 exact⟨Z,dh.trans (Ent.to ⟨Z,Z,Z,Z,Z,Z,Z,Z,aw⟩ (by rw[ho3,if_pos (by have:=z23;simp at this;omega),List.append_nil];rfl))⟩
 refine ag (ap Z ?_)
 first|refine ji Z ?_|refine cJ Z Z ?_
 refine an ((Val.conv (b:=true) (dt:=.int .i64) O Z Z Z (by kernel_rfl) (by kernel_rfl)).cast (v':=.c (.d (.int .i32 (97+z.1:Int)))) (by rw[cV .i32 _ (by show(-2147483648:Int)≤_;omega) (by show _≤(2147483647:Int);omega)])) Z (an ((lf (dt:=.int .i32) O Z Z Z (by kernel_rfl) (by kernel_rfl) (by omega) (by omega)).cast (v':=fM [fJ z.1]) (by rw[show(97+(z.1:Int)).toNat=97+z.1 by omega];rfl)) Z (an (bF (p:=o3) (q:=[fJ z.1]) O Z Z Z Z Z Z (by show o3.length+1≤L;omega) (by show L≤_;omega)) Z (jf [34,1,3,4,9,10,11,6] Z (jo Z (aP ?_)))))
 refine jn (ag ?_)
 first|refine ji Z ?_|refine cJ Z Z ?_
 refine js Z (jn ?_)
 refine⟨(z.1+1,o3++[fJ z.1]),Ent.to ⟨Z,Z,Z,Z,Z,Z,aw⟩ Z,⟨by show z.1+1≤_;omega,?_,by show(o3++[fJ z.1]).length≤9*(z.1+1);rw[dc,nf];omega⟩,by show t.xs.length-(z.1+1)<t.xs.length-z.1;omega⟩
 show o3++[fJ z.1]=_
 rw[hstep,nE (eQ z17),ho3,ho2]
 refine bi (ae (ah ?_))
 obtain hz1:z.1=t.xs.length:=by have:=eQ z12;omega
 have hzl:z.2.length≤90:=by have:=hi.2.2;omega
 have ho:=hi.2.1
 rw[hz1,List.take_length]at ho
 refine bQ Z (jf [38,12,1,3,4,9,10,11] Z (jn ?_))
 obtain⟨o5,ho5⟩: ∃o,o=tK z.2 t.c:=⟨_,rfl⟩
 refine dK ⟨[(1,.c (.pt 1 0 0)),(3,.c (.pt 3 0 0))],[(1,.box [.d (.int .i64 t.c),.d (eX t.xs)]),(3,.box [.d (sD o5)])]⟩ ?_ ?_
 refine aB Z (fun z38=>?_) (fun z38=>?_)
 refine ah (bQ Z (jf [41,39,38,12,1,3,4,9,10,11] Z (aJ O [3] (bin:=[.box [.d (sD z.2)]]) Z Z Z Z (np (n:=t.c) (o:=z.2) h1 h2 (by omega)) Z Z Z Z Z Z (B0:=43000) Z Z (aP ?_))))
 refine jf [38,12,1,3,4,9,10,11] Z (jn (jy [_,_,_,_,_,_,_] [pn [] 0 2,aM,af [1],pe [1,2] 0,pe [1,2,3] 1,pn (rg 0 5) 2 2,pe (rg 0 6) 2] [3,4,6] [_,_,_,_] (ai (kc Z (kc Z (V Z))) (kc Z (kc Z (ai (bG O (B0:=47000) Z Z Z Z (nA (x:=t.c) h1 h2 (by omega)) (ac Z) Z Z Z Z Z) (ai (bG O (B0:=48000) Z Z Z Z (no (n:=(t.c.natAbs:Int)) h1 h2 (by omega) (by omega)) (ac Z) Z Z Z Z Z) (ai (bF (p:=(z.2++cB z.2 t.c)) (q:=Lib.itoa (t.c.natAbs:Int)) O Z Z Z Z Z Z (by rw[eF];have:=ew z6;have h7:=iV (o:=z.2) (n:=t.c);show(z.2++cB z.2 t.c).length+(Lib.decDigits t.c.natAbs).length≤L;rw[dc];omega) (by show L≤_;omega)) (ai (eS Z Z Z) trivial))))))) ?_))
 refine qo ?_
 exact⟨Z,Ent.to ⟨Z,Z,aw⟩ (by rw[ho5,eF];unfold tK;rw[if_neg (by simpa using z38)])⟩
 refine ao ?_
 exact⟨Z,dh.trans (Ent.to ⟨Z,Z,aw⟩ (by rw[ho5];unfold tK;rw[if_pos (by simpa using z38)]))⟩
 refine ae (ah (js Z (an (Val.seq (p:=o5) (q:=[]) O Z Z Z Z Z Z) Z (jn (aB Z (fun z50=>?_) (fun z50=>?_))))))
 refine ah (js Z (jr ?_))
 refine aK Z ?_
 rw[show tS t=tZ o5 by rw[ho5,ho];rfl]
 unfold tZ
 rw[if_pos (eR z50)];rfl
 refine ao (ah (ap Z (jr ?_)))
 refine aK Z ?_
 rw[show tS t=tZ o5 by rw[ho5,ho];rfl]
 unfold tZ
 rw[if_neg (eQ z50)]
theorem o9{t:Tm}(ht:t.ok=true):MQ h1 h2 10 [df t] [] (Plain (.tup [fM (tS t),eB true])):=by
 refine jB 9 h1 h2 Tryd.func10 Z fun O hF=>?_
 refine ah (jx Z (aP ?_))
 refine ap Z (jn (ae (ah (js Z (cR Z (mD (t:=t) h1 h2) 6000 Z (js Z (jf [6,3,2,1,0] Z (jn (aB Z (fun z6=>?_) (fun z6=>?_))))))))))
 have e:=z6;rw[ht]at e;cases e
 refine ao (ah (js Z (jf [7,3,2,1,0] Z (cR Z (kq (t:=t) h1 h2 ht) 9000 Z (ap Z (jf [3,2,1,0] Z (jr ?_)))))))
 refine⟨.inl Z,_,(aV [] (e':=[(2,_),(3,_)]) Z Z ⟨Z,Z,aw⟩ Z),_,Z,?_⟩
 exact⟨Z,Z⟩
abbrev ns(s:Sq):aE:=pp tS s.facts s.goal
theorem gX(c:UInt8): ∀(ps:List aE) (p:aE),bR c (ps++[p])=bR c ps++(p++[c])
 | [],p=>by simp[bR]
 | q::r,p=>by rw[List.cons_append,bR,gX c r,bR];simp
theorem gc{ps:List aE}(h: ∀p∈ps,p.length≤100):(bR 59 ps).length≤101*ps.length:=by
 induction ps with
 | nil=>exact bp _
 | cons p r ih=>
  have h1:=h p (List.mem_cons_self ..)
  have h2:=ih fun q hq=>h q (List.mem_cons_of_mem _ hq)
  rw[bR]
  simp only[dc,fI];omega
theorem o0{s:Sq}(hs:fT s=true):MQ h1 h2 11 [ng s] [] (Plain (.tup [fM (ns s),eB true])):=by
 refine jB 29 h1 h2 Tryd.func11 Z fun O hF=>?_
 obtain⟨hok,hl13,hgo⟩:=e6 hs
 have hl:s.facts.length≤L:=by omega
 refine ah (jx Z (aP ?_))
 refine ap Z (jn (ae (ah (js Z (cR Z (oh (s:=s) h1 h2) 9000 Z (js Z (jf [9,3,2,1,0] Z (jn (aB Z (fun z9=>?_) (fun z9=>?_))))))))))
 have e:=z9;rw[hs]at e;cases e
 refine ao (ah (js Z (jn (ae (ah (ap Z ?_))))))
 first|refine fK Z ?_|refine js Z ?_|refine cJ Z Z ?_
 refine js Z (jf [13,12,11,4,3,2,1,0] Z (jn (ak (av (X:=Nat) (fun i=>⟨[(1,.c (.pt 1 0 0)),(4,fM (bR 59 ((s.facts.take i).map tS))),(11,fG s.facts),(12,eI s.facts.length),(13,eI i)],[(1,.box [.d (po s.facts),.d (.int .i64 s.goal.c),.d (eX s.goal.xs)])]⟩) (fun i=>i≤s.facts.length) (fun i=>s.facts.length-i) 0 (Ent.to ⟨Z,Z,Z,Z,Z,aw⟩ Z) ?_ (fun i hi=>?_)))))
 exact fE _
 refine ah (js Z (jn (ae (aB Z (fun z14=>?_) (fun z14=>?_)))))
 refine ao (ae (ak (ah ?_)))
 have hi0:i<s.facts.length:=by have:=eR z14;omega
 have hti:(s.facts.getD i default).ok=true:=by rw[ax hi0];exact hok _ (List.getElem_mem hi0)
 have hst:bR 59 ((s.facts.take (i+1)).map tS)=(bR 59 ((s.facts.take i).map tS))++(tS (s.facts.getD i default)++[59]):=by rw[List.take_succ_eq_append_getElem hi0,List.map_append,List.map_cons,List.map_nil,gX,ax hi0]
 have htl:=dY hti
 have hcl:(bR 59 ((s.facts.take i).map tS)).length≤1313:=by
  have h:=gc (ps:=(s.facts.take i).map tS) (fun p hp=>by obtain⟨t,ht,rfl⟩:=List.mem_map.1 hp;exact dY (hok t (List.mem_of_mem_take ht)))
  rw[ep,List.length_take]at h;omega
 refine an (ej O Z Z Z Z Z Z Z Z (lD (by omega))) Z (js Z (jf [16,14,1,4,11,12,13] Z (jl Z (aP ?_))))
 refine jo Z (aP ?_)
 refine jn (ag (ap Z (cR Z (kq (t:=s.facts.getD i default) h1 h2 hti) 20000 Z (an (bF (p:=tS (s.facts.getD i default)) (q:=[59]) O Z Z Z Z Z Z (by show(tS _).length+1≤L;omega) (by show L≤_;omega)) Z (an (bF (p:=(bR 59 ((s.facts.take i).map tS))) (q:=(tS (s.facts.getD i default)++[59])) O Z Z Z Z Z Z (by show _≤L;rw[dc,nf];omega) (by show L≤_;omega)) Z (js Z (jf [4,6,16,14,1,11,12,13] Z (jn (ag ?_)))))))))
 first|refine ji Z ?_|refine cJ Z Z ?_
 refine js Z (jn ?_)
 refine⟨i+1,(aV [1] (e':=[(1,_),(4,_),(11,_),(12,_),(13,_)]) Z Z ⟨Z,Z,Z,Z,Z,aw⟩ Z).trans (Ent.to ⟨Z,congrArg (fun s=>some (fM s)) hst.symm,Z,Z,Z,aw⟩ Z),by omega,by omega⟩
 refine bi (ah (js Z ?_))
 obtain rfl:i=s.facts.length:=by have:=eQ z14;omega
 have hcl:(bR 59 ((s.facts.take s.facts.length).map tS)).length≤1313:=by
  have h:=gc (ps:=(s.facts.take s.facts.length).map tS) (fun p hp=>by obtain⟨t,ht,rfl⟩:=List.mem_map.1 hp;exact dY (hok t (List.mem_of_mem_take ht)))
  rw[ep,List.length_take]at h;omega
 rw[List.take_length]at hcl ⊢
 have hgl:=dY hgo
 refine an (bF (p:=(bR 59 (s.facts.map tS))) (q:=[61,62]) O Z Z Z Z Z Z (by show _+2≤L;omega) (by show L≤_;omega)) Z (ap Z (jf [26,24,14,1,4,11,12,13] Z (cR Z (kq (t:=s.goal) h1 h2 hgo) 28000 Z (an (bF (p:=(bR 59 (s.facts.map tS)++[61,62])) (q:=(tS s.goal)) O Z Z Z Z Z Z (by rw[dc];show _+2+_≤L;omega) (by show L≤_;omega)) Z (ap Z (jf [3,2,14,1,4,11,12,13] Z (jr ?_)))))))
 refine⟨.inl Z,_,(aV [] (e':=[(2,_),(3,_)]) Z Z ⟨Z,Z,aw⟩ Z),_,Z,?_⟩
 exact⟨Z,Z⟩
end Go.Al
/- Lemmas for the walk of the program's reader of oK. -/
namespace Go.Al
variable{L:Nat}(h1:4096≤L)(h2:L≤1073741824)
open Go.Lib
theorem fV{s:aE}{i:Nat}(h:i<s.length):s[((i:Nat):Int).toNat]? = some (s.getD i 0):=by
 rw[Int.toNat_natCast,List.getElem?_eq_getElem h];simp[h]
theorem dG{s:aE}{i:Nat}(h:i<s.length):s.drop i=s.getD i 0::s.drop (i+1):=by
 rw[List.drop_eq_getElem_cons h];simp[h]
theorem lJ{b:UInt8}{n:Nat}(hn:n<256):((b.toNat:Int)=n)↔b=UInt8.ofNat n:=by
 constructor
 intro h
 apply UInt8.toNat_inj.1
 rw[UInt8.toNat_ofNat'];omega
 rintro rfl
 rw[UInt8.toNat_ofNat'];omega
abbrev bt(s:aE)(i:Nat):Int:=((s.getD i 0).toNat:Int)
theorem nr(s:aE)(i:Nat):0≤bt s i∧bt s i≤255:=by
 have:=(s.getD i 0).toNat_lt
 unfold bt;omega
theorem mX{s:aE}{i:Nat}(h:i<s.length):fU (s.drop i)=if bt s i=45 then(-1,s.drop (i+1))else if bt s i=43 then(1,s.drop (i+1))else(1,s.drop i):=by
 rw[dG h,fU]
 have h1:bt s i=45↔s.getD i 0=45:=lJ (b:=s.getD i 0) (n:=45) (by decide)
 have h2:bt s i=43↔s.getD i 0=43:=lJ (b:=s.getD i 0) (n:=43) (by decide)
 by_cases e1:bt s i=45
 rw[if_pos e1,if_pos (h1.1 e1)]
 rw[if_neg e1,if_neg (fun e=>e1 (h1.2 e))]
 by_cases e2:bt s i=43
 rw[if_pos e2,if_pos (h2.1 e2)]
 rw[if_neg e2,if_neg (fun e=>e2 (h2.2 e)),←dG h]
theorem mW{s:aE}{i:Nat}(h:i<s.length): ∃(sg:Int) (i1:Nat),fU (s.drop i)=(sg,s.drop i1)∧(i≤i1∧i1≤i+1∧i1≤s.length)∧(sg=1∨sg= -1)∧(if bt s i=45 then sg= -1∧i1=i+1 else if bt s i=43 then sg=1∧i1=i+1 else sg=1∧i1=i):=by
 rw[mX h]
 split
 exact⟨-1,i+1,Z,⟨by omega,by omega,by omega⟩,.inr Z,Z,Z⟩
 split
 exact⟨1,i+1,Z,⟨by omega,by omega,by omega⟩,.inl Z,Z,Z⟩
 exact⟨1,i,Z,⟨by omega,by omega,by omega⟩,.inl Z,Z,Z⟩
theorem lY{s:aE}{i:Nat}:iN (s.getD i 0)=(decide (48≤bt s i)&&decide (bt s i≤57)):=by
 unfold iN bt
 congr 1<;>(apply Bool.eq_iff_iff.2;simp;omega)
theorem nP{s:aE}{i:Nat}:mz (s.getD i 0)=(decide (97≤bt s i)&&decide (bt s i<107)):=by
 unfold mz bt
 congr 1<;>(apply Bool.eq_iff_iff.2;simp;omega)
theorem l5{s:aE}{i k:Nat}{n:Int}(h:i<s.length)(h1:48≤bt s i)(h2:bt s i≤57):aX (k+1) n (s.drop i)=aX k (10*n+(bt s i-48)) (s.drop (i+1)):=by
 rw[dG h,aX,if_pos (by rw[lY];simp[h1,h2])]
theorem jO{s:aE}{i i1:Nat}{n:Int}(h: ¬(i<s.length∧48≤bt s i∧bt s i≤57∧i<i1+8))(h0:i1≤i)(h8:i≤i1+8)(hl:i≤s.length):aX (8-(i-i1)) n (s.drop i)=(n,s.drop i):=by
 by_cases h1:i<s.length
 by_cases h2:i<i1+8
 rw[dG h1,ee]
 rw[lY]
 by_cases h3:48≤bt s i
 by_cases h4:bt s i≤57
 exact absurd ⟨h1,h3,h4,h2⟩ h
 simp[h4]
 simp[h3]
 rw[show 8-(i-i1)=0 by omega,aX]
 rw[List.drop_eq_nil_of_le (by omega),gL]
theorem nG{s:aE}{i i1 i2:Nat}{sg n:Int}(hs:fU (s.drop i)=(sg,s.drop i1))(hn:aX 8 0 (s.drop i1)=(n,s.drop i2))(h1:i1≤i2)(h2:i2≤s.length) :
    kh (s.drop i)=if i2<s.length∧97≤bt s i2∧bt s i2<107 then some (s.drop (i2+1),some ((s.getD i2 0).toNat-97),sg*(if i2=i1 then 1 else n))else if i2=i1 then none else some (s.drop i2,none,sg*n):=by
 unfold kh
 simp only[hs,hn]
 have hl:((s.drop i2).length=(s.drop i1).length)↔i2=i1:=by rw[List.length_drop,List.length_drop];omega
 by_cases h:i2<s.length
 rw[dG h]at hl ⊢
 simp only[hl,nP]
 by_cases h3:97≤bt s i2
 by_cases h4:bt s i2<107
 simp[h,h3,h4]
 simp[h4]
 simp[h3]
 have he:s.drop i2=[]:=List.drop_eq_nil_of_le (by omega)
 rw[if_neg (show¬(i2<s.length∧97≤bt s i2∧bt s i2<107)from fun e=>h e.1)]
 rw[he]at hl ⊢
 simp only[hl]
theorem l9{k:Nat}{n d:Int}(h:n<10^k)(hd:d≤9):10*n+d<10^(k+1):=by
 rw[Int.pow_succ];omega
theorem nk{k:Nat}(h:k≤8):(10:Int)^k≤100000000:=by
 have:10^k≤10^8:=Nat.pow_le_pow_right (by decide) h
 have e:((10^k:Nat):Int)=(10:Int)^k:=by rw[Int.natCast_pow];rfl
 rw[←e];omega
theorem lc{xs:List Int}{i:Nat}{n:Int}:(ca xs i n).length=xs.length:=by unfold ca;rw[List.length_set]
theorem mo{xs:List Int}{i:Nat}{n B M:Int}(hB:0≤B)(h: ∀y∈xs,-B≤y∧y≤B)(h1: -M≤n)(h2:n≤M): ∀y∈ca xs i n,-(B+M)≤y∧y≤B+M:=by
 intro y hy
 unfold ca at hy
 rcases List.mem_or_eq_of_mem_set hy with hy|rfl
 have:=h y hy;omega
 by_cases hi:i<xs.length
 have:=h _ (List.getElem_mem hi)
 rw[show xs.getD i 0=xs[i] by simp[hi]];omega
 rw[show xs.getD i 0=0 by simp[Nat.not_lt.1 hi]];omega
theorem nQ{xs:List Int}{i:Nat}{B:Int}(hB:0≤B)(h: ∀y∈xs,-B≤y∧y≤B): -B≤xs.getD i 0∧xs.getD i 0≤B:=by
 by_cases hi:i<xs.length
 rw[show xs.getD i 0=xs[i] by simp[hi]];exact h _ (List.getElem_mem hi)
 rw[show xs.getD i 0=0 by simp[Nat.not_lt.1 hi]];omega
theorem c4t{a b c d:Prop}[Decidable a][Decidable b][Decidable c][Decidable d]:(bif (bif (bif decide a then decide b else false)then decide c else false)then decide d else false)=true↔a∧b∧c∧d:=by
 by_cases a<;>by_cases b<;>by_cases c<;>by_cases d<;>simp_all
theorem c3t{a b c:Prop}[Decidable a][Decidable b][Decidable c]:(bif (bif decide a then decide b else false)then decide c else false)=true↔a∧b∧c:=by
 by_cases a<;>by_cases b<;>by_cases c<;>simp_all
theorem ny{x:Bool}{p:Prop}(h:x=false)(hx:x=true↔p): ¬p:=fun hp=>by rw[hx.2 hp]at h;cases h
theorem qr{a:Prop}[Decidable a](h:(decide a==true)=true):a:=by simpa using h
theorem qq{a:Prop}[Decidable a]{b:Bool}(h:((bif decide a then b else false)==true)=true):a:=by
 by_cases a<;>simp_all
def hJ(r:Option Tm):Tm×Bool:=match r with
  | none=>(⟨0,[]⟩,false)
  | some t=>(t,true)
theorem lT{s:aE}{ys:List Int}{c:Int}(h:gu s (zr 10) 0=some (ys,c)):eo s=if(Tm.mk c (aW ys)).ok=true∧tS ⟨c,aW ys⟩=s then some ⟨c,aW ys⟩else none:=by
 unfold eo;rw[h]
theorem nI{s:aE}(h:gu s (zr 10) 0=none):eo s=none:=by
 unfold eo;rw[h]
theorem lK{s:aE}(hs:s.length≤1100000):MQ h1 h2 12 [fM s] [] (Plain (km (hJ (eo s)))):=by
 refine MC.data (jB 120 h1 h2 Tryd.func12 Z fun O hF=>?_)
 refine ah (jl Z (aP ?_))
 refine js Z (b0 (b9 (kM O Z Z Z Z Z Z Z Z Z (by first|omega|(simp at *;omega)) (by first|omega|(simp at *;omega)) (by first|omega|(simp at *;omega)) (by first|omega|(dsimp only;omega)|(simp only[bI]at *;omega)) (by first|omega|(simp at *;omega)) Z Z Z) Z (aP ?_)))
 refine js Z (jf [10,3,2,0] Z (jl Z (aP ?_)))
 refine jo Z (aP ?_)
 refine jn (ae (ah (js Z (jn (ak (av (X:=Nat×List Int×Int) (fun z=>⟨[(0,fM s),(2,.c (.pt 2 0 0)),(4,.c (.pt 4 0 0)),(5,eI (z.1:Nat))],[(2,.box [.d (.int .i64 0),.d .nils]),(4,.box [.d (.int .i64 z.2.2),.rs 9 0 10]),(9,eW z.2.1)]⟩) (fun z=>z.1≤s.length∧z.2.1.length=10∧(∀y∈z.2.1,-(100000000*(z.1:Int))≤y∧y≤100000000*(z.1:Int))∧(-(100000000*(z.1:Int))≤z.2.2∧z.2.2≤100000000*(z.1:Int))∧gu (s.drop z.1) z.2.1 z.2.2=gu s (zr 10) 0) (fun z=>s.length-z.1) (0,zr 10,0) (Ent.to ⟨Z,Z,Z,Z,aw⟩ Z) ?_ (fun z hi=>?_)))))))
 exact⟨fE _,Z,fun y hy=>by rw[show y=0 from List.eq_of_mem_replicate hy];simp,by simp,Z⟩
 refine ae (ah (ap Z (an (eJ (p:=s) O Z Z Z Z Z Z Z Z Z) Z (js Z (jf [14,0,2,4,5] Z (jn (aB Z (fun z14=>?_) (fun z14=>?_))))))))
 refine ao (ak (ah (js Z (jn (ae (ah (ap Z ?_)))))))
 have hz0:z.1<s.length:=by have:=eR z14;omega
 have hiz:=hi
 obtain⟨sg,i1,hsg,hi1,hsg1,hsv⟩:=mW hz0
 refine an (bX (p:=s) (b:=s.getD z.1 0) O Z Z Z Z Z Z Z (by omega) (fV hz0)) Z (jf [17,6,14,0,2,4,5] Z (jn (dK ⟨[(0,fM s),(2,.c (.pt 2 0 0)),(4,.c (.pt 4 0 0)),(5,eI (i1:Nat)),(6,eI sg)],[(2,.box [.d (.int .i64 0),.d .nils]),(4,.box [.d (.int .i64 z.2.2),.rs 9 0 10]),(9,eW z.2.1)]⟩ ?_ ?_)))
 refine ak (ah (ap Z (jn (aB Z (fun z18=>?_) (fun z18=>?_)))))
 refine ah (js Z (jn (ag (js Z ?_))))
 first|refine ji Z ?_|refine cJ Z Z ?_
 refine js Z (jf [5,6,18,19,17,14,0,2,4] Z (jn ?_))
 exact⟨Z,Ent.to ⟨Z,Z,Z,congrArg (fun z=>some (eI z)) (show(z.1:Int)+1=(i1:Int) by rw[if_pos (eR z18)]at hsv;omega),congrArg (fun z=>some (eI z)) (show(-1:Int)=sg by rw[if_pos (eR z18)]at hsv;omega),aw⟩ Z⟩
 refine ah (ap Z (jn (aB Z (fun z22=>?_) (fun z22=>?_))))
 refine ag (js Z ?_)
 first|refine ji Z ?_|refine cJ Z Z ?_
 refine js Z (jf [5,22,23,18,19,17,6,14,0,2,4] Z (jn ?_))
 exact⟨Z,Ent.to ⟨Z,Z,Z,congrArg (fun z=>some (eI z)) (show(z.1:Int)+1=(i1:Int) by rw[if_neg (eQ z18),if_pos (eR z22)]at hsv;omega),congrArg (fun z=>some (eI z)) (show(1:Int)=sg by rw[if_neg (eQ z18),if_pos (eR z22)]at hsv;omega),aw⟩ Z⟩
 refine ao ?_
 exact⟨Z,Ent.to ⟨Z,Z,Z,congrArg (fun z=>some (eI z)) (show(z.1:Int)=(i1:Int) by rw[if_neg (eQ z18),if_neg (eQ z22)]at hsv;omega),congrArg (fun z=>some (eI z)) (show(1:Int)=sg by rw[if_neg (eQ z18),if_neg (eQ z22)]at hsv;omega),aw⟩ Z⟩
 refine ah (bQ Z (jn (ae (ak (av (X:=Nat×Int) (fun y=>⟨[(0,fM s),(2,.c (.pt 2 0 0)),(4,.c (.pt 4 0 0)),(5,eI (y.1:Nat)),(6,eI sg),(7,eI (i1:Nat)),(8,eI y.2)],[(2,.box [.d (.int .i64 0),.d .nils]),(4,.box [.d (.int .i64 z.2.2),.rs 9 0 10]),(9,eW z.2.1)]⟩) (fun y=>i1≤y.1∧y.1≤s.length∧y.1≤i1+8∧0≤y.2∧y.2<10^(y.1-i1)∧aX (8-(y.1-i1)) y.2 (s.drop y.1)=aX 8 0 (s.drop i1)) (fun y=>s.length-y.1) (i1,0) (Ent.to ⟨Z,Z,Z,Z,Z,Z,Z,aw⟩ Z) ?_ (fun y hi=>?_))))))
 exact⟨bp _,hi1.2.2,by show i1≤i1+8;omega,Int.le_refl _,by show(0:Int)<10^(i1-i1);rw[Nat.sub_self];decide,by show aX (8-(i1-i1)) 0 _=_;rw[Nat.sub_self]⟩
 refine ae (ah (ap Z (an (eJ (p:=s) O Z Z Z Z Z Z Z Z Z) Z (ap Z (jf [31,0,2,4,5,6,7,8] Z (aO 4 Z Z Z (fun hx=>az hx Z (az hx Z (ct hx (bX (p:=s) (b:=s.getD y.1 0) O Z Z Z Z Z Z Z (by omega) (fV (by have:=qr hx;omega))) Z (az hx Z (AN.nil))))) Z Z ?_))))))
 first|refine an (aA O Z Z Z Z Z) Z ?_|refine an (aS O Z Z Z Z Z) Z ?_|refine an (Val.pickB O Z Z Z Z Z) Z ?_
 refine js Z (jf [37,0,2,4,5,6,7,8] Z (aO 4 Z Z Z (fun hx=>az hx Z (az hx Z (ct hx (bX (p:=s) (b:=s.getD y.1 0) O Z Z Z Z Z Z Z (by omega) (fV (by have:=qq hx;omega))) Z (az hx Z (AN.nil))))) Z Z ?_))
 first|refine an (aA O Z Z Z Z Z) Z ?_|refine an (aS O Z Z Z Z Z) Z ?_|refine an (Val.pickB O Z Z Z Z Z) Z ?_
 refine js Z (jf [43,0,2,4,5,6,7,8] Z (aO 4 Z Z Z (fun hx=>az hx Z (az hx Z (ct hx (vF Z) Z (az hx Z (AN.nil))))) Z Z ?_))
 first|refine an (aA O Z Z Z Z Z) Z ?_|refine an (aS O Z Z Z Z Z) Z ?_|refine an (Val.pickB O Z Z Z Z Z) Z ?_
 refine jf [48,0,2,4,5,6,7,8] Z (jn (aB Z (fun z48=>?_) (fun z48=>?_)))
 refine ao (ae (ak (ag ?_)))
 have z4:=c4t.1 z48
 have hc4n:y.1<s.length:=by have:=z4.1;omega
 have hp8:=nk (k:=y.1-i1) (by omega)
 have hby:0≤((s.getD y.1 0).toNat:Int)∧((s.getD y.1 0).toNat:Int)≤255:=nr s y.1
 refine js Z ?_
 first|refine ji Z ?_|refine cJ Z Z ?_
 refine ap Z (an (bX (p:=s) (b:=s.getD y.1 0) O Z Z Z Z Z Z Z (by omega) (fV hc4n)) Z (an (gf (k:=.u8) (n:=((s.getD y.1 0).toNat:Int)-48) O Z Z (by show(0:Int)≤_;omega) (by show _≤(255:Int);omega)) Z (an ((Val.conv (b:=true) (dt:=.int .u8) O Z Z Z (by kernel_rfl) (by kernel_rfl)).cast (v':=eI (((s.getD y.1 0).toNat:Int)-48)) (by rw[cV .i64 _ (by show(-9223372036854775808:Int)≤_;omega) (by show _≤(9223372036854775807:Int);omega)])) Z ?_)))
 first|refine ji Z ?_|refine cJ Z Z ?_
 refine js Z (jf [8,48,0,2,4,5,6,7] Z (jn (ag (js Z ?_))))
 first|refine ji Z ?_|refine cJ Z Z ?_
 refine js Z (jf [5,8,48,0,2,4,6,7] Z (jn ?_))
 refine⟨(y.1+1,10*y.2+(((s.getD y.1 0).toNat:Int)-48)),Ent.to ⟨Z,Z,Z,Z,Z,Z,Z,aw⟩ Z,⟨by show i1≤y.1+1;omega,by show y.1+1≤_;omega,by show y.1+1≤i1+8;omega,by show 0≤10*y.2+(((s.getD y.1 0).toNat:Int)-48);omega,?_,?_⟩,by show s.length-(y.1+1)<s.length-y.1;omega⟩
 show 10*y.2+(((s.getD y.1 0).toNat:Int)-48)<10^(y.1+1-i1)
 rw[show y.1+1-i1=(y.1-i1)+1 by omega]
 exact l9 hi.2.2.2.2.1 (by omega)
 show aX (8-(y.1+1-i1)) (10*y.2+(((s.getD y.1 0).toNat:Int)-48)) (s.drop (y.1+1))=_
 rw[←hi.2.2.2.2.2,show 8-(y.1-i1)=(8-(y.1+1-i1))+1 by omega,l5 hc4n z4.2.1 z4.2.2.1]
 refine bi (ak (ah ?_))
 have hend:=jO (s:=s) (i:=y.1) (i1:=i1) (n:=y.2) (fun hh=>ny z48 c4t ⟨by omega,hh.2.1,hh.2.2.1,by omega⟩) hi.1 hi.2.2.1 hi.2.1
 rw[hi.2.2.2.2.2]at hend
 have hst0:=nG hsg hend hi.1 hi.2.1
 have hp8:=nk (k:=y.1-i1) (by omega)
 have hby:0≤((s.getD y.1 0).toNat:Int)∧((s.getD y.1 0).toNat:Int)≤255:=nr s y.1
 refine ap Z ?_
 have hiy:=hi
 refine an (eJ (p:=s) O Z Z Z Z Z Z Z Z Z) Z (ap Z (jf [71,48,0,2,4,5,6,7,8] Z (aO 4 Z Z Z (fun hx=>az hx Z (az hx Z (ct hx (bX (p:=s) (b:=s.getD y.1 0) O Z Z Z Z Z Z Z (by omega) (fV (by have:=qr hx;omega))) Z (az hx Z (AN.nil))))) Z Z ?_)))
 first|refine an (aA O Z Z Z Z Z) Z ?_|refine an (aS O Z Z Z Z Z) Z ?_|refine an (Val.pickB O Z Z Z Z Z) Z ?_
 refine js Z (jf [77,48,0,2,4,5,6,7,8] Z (aO 4 Z Z Z (fun hx=>az hx Z (az hx Z (ct hx (bX (p:=s) (b:=s.getD y.1 0) O Z Z Z Z Z Z Z (by omega) (fV (by have:=qq hx;omega))) Z (az hx Z (AN.nil))))) Z Z ?_))
 first|refine an (aA O Z Z Z Z Z) Z ?_|refine an (aS O Z Z Z Z Z) Z ?_|refine an (Val.pickB O Z Z Z Z Z) Z ?_
 refine js Z (jf [66,48,0,2,4,5,6,7,8] Z (jn (aB Z (fun z66=>?_) (fun z66=>?_))))
 refine ae (ah ?_)
 have z3:=c3t.1 z66
 have hc3n:y.1<s.length:=by have:=z3.1;omega
 refine bQ Z (jf [85,66,48,0,2,4,5,6,7,8] Z (jn ?_))
 obtain⟨n1,hn1⟩: ∃n1,n1=if y.1=i1 then 1 else y.2:=⟨_,rfl⟩
 have hnb:0≤n1∧n1≤100000000:=by rw[hn1];split<;>omega
 have hm1: -100000000≤sg*n1:=by rcases hsg1 with e|e<;>rw[e]<;>omega
 have hm2:sg*n1≤100000000:=by rcases hsg1 with e|e<;>rw[e]<;>omega
 obtain⟨j,hj⟩: ∃j:Nat,((s.getD y.1 0).toNat:Int)-97=(j:Int):=⟨(((s.getD y.1 0).toNat:Int)-97).toNat,by omega⟩
 have hj10:j<10:=by omega
 have hgj:=nQ (i:=j) (B:=100000000*(z.1:Int)) (by omega) hiz.2.2.1
 have hst:kh (s.drop z.1)=some (s.drop (y.1+1),some j,sg*n1):=by rw[hst0,if_pos ⟨hc3n,z3.2.1,z3.2.2⟩,←hn1,show(s.getD y.1 0).toNat-97=j by omega]
 refine dK ⟨[(0,fM s),(2,.c (.pt 2 0 0)),(4,.c (.pt 4 0 0)),(5,eI (y.1:Nat)),(6,eI sg),(8,eI n1)],[(2,.box [.d (.int .i64 0),.d .nils]),(4,.box [.d (.int .i64 z.2.2),.rs 9 0 10]),(9,eW z.2.1)]⟩ ?_ ?_
 refine aB Z (fun z85=>?_) (fun z85=>?_)
 refine ag (js Z (jn ?_))
 exact⟨Z,Ent.to ⟨Z,Z,Z,Z,Z,congrArg (fun z=>some (eI z)) (show(1:Int)=n1 by rw[hn1,if_pos (by have:=eR z85;omega)]),aw⟩ Z⟩
 refine ao ?_
 exact⟨Z,Ent.to ⟨Z,Z,Z,Z,Z,congrArg (fun z=>some (eI z)) (show y.2=n1 by rw[hn1,if_neg (by have:=eQ z85;omega)]),aw⟩ Z⟩
 refine ae ?_
 have hi:=hiz
 refine jy [_,_,_,_,_,_,_,_,_,_,_,_,_,_] [aM,af [0],aM,aM,af [2,3],af [2,3,4],af (rg 0 6),af (rg 0 7),aM,aM,af [8,9],af (rg 0 11),af (rg 0 12),pe (rg 0 13) 0] [13] [_,_] (eT Z (ai (bX (p:=s) (b:=s.getD y.1 0) O Z Z Z Z Z Z Z (by omega) (fV hc3n)) (ai ((gf (k:=.u8) (n:=((s.getD y.1 0).toNat:Int)-97) O Z Z (by show(0:Int)≤_;omega) (by show _≤(255:Int);omega)).cast (v':=.c (.d (.int .u8 (j:Int)))) (by rw[hj])) (ai (dI (c:=0≤(j:Int)∧(j:Int)<((10:Nat):Int)) (v:=.c (.pt 9 (0+(j:Int).toNat) 0)) O Z Z (by omega)) (ai (fA O (ex:=[.int .i64 (z.2.1.getD j 0)]) Z Z Z Z (by simp[hi.2.1,hj10]) Z) (kc Z (kc Z (ai (aj O Z Z (by omega) (by omega)) (ai (aj O Z Z (by omega) (by omega)) (ai (dI (c:=0≤(j:Int)∧(j:Int)<((10:Nat):Int)) (v:=.c (.pt 9 (0+(j:Int).toNat) 0)) O Z Z (by omega)) (ai (eP (ex:=[.int .i64 (z.2.1.getD j 0)]) (xs':=(ca z.2.1 j (sg*n1)).map (fun n=>[D.int .i64 n])) O Z Z Z Z Z Z Z Z Z Z Z Z Z Z Z (by simp[hi.2.1,hj10]) (by unfold ca;rw[List.map_set];simp only[Int.toNat_natCast,Nat.zero_add];rfl) Z) trivial))))))))))) ?_
 refine ag (js Z ?_)
 first|refine ji Z ?_|refine cJ Z Z ?_
 refine js Z (jf [5,98,97,96,95,94,93,92,91,90,89,88,87,86,0,2,4,6,8] Z (jn ?_))
 refine⟨(y.1+1,ca z.2.1 j (sg*n1),z.2.2),Ent.to ⟨Z,Z,Z,Z,aw⟩ Z,⟨by show y.1+1≤_;omega,by show(ca _ _ _).length=10;rw[lc];exact hiz.2.1,?_,?_,?_⟩,by show s.length-(y.1+1)<s.length-z.1;omega⟩
 exact fun q hq=>by have:=mo (B:=100000000*(z.1:Int)) (M:=100000000) (by omega) hiz.2.2.1 hm1 hm2 q hq;show -(100000000*((y.1+1:Nat):Int))≤q∧q≤100000000*((y.1+1:Nat):Int);omega
 show -(100000000*((y.1+1:Nat):Int))≤z.2.2∧z.2.2≤100000000*((y.1+1:Nat):Int);have:=hiz.2.2.2.1;omega
 show gu (s.drop (y.1+1)) (ca z.2.1 j (sg*n1)) z.2.2=_
 rw[←kD hst,hiz.2.2.2.2]
 refine ah ?_
 have z3:=ny z66 c3t
 rw[if_neg (fun hh=>z3 ⟨by omega,hh.2.1,hh.2.2⟩)]at hst0
 refine cb Z (jf [101,66,48,0,2,4,5,6,7,8] Z (jn (aB Z (fun z101=>?_) (fun z101=>?_))))
 refine ah (js Z (jo Z (aP ?_)))
 refine js Z (jr ?_)
 refine aK Z ?_
 rw[nI (by rw[←hiz.2.2.2.2,l6 (by rw[dG hz0];simp) (by rw[hst0,if_pos (by have:=eR z101;omega)])])]
 exact .tup (.cons (.agg (.cons .d (.cons .nils .nil))) (.cons (.c .d) .nil))
 refine ag ?_
 have hne: ¬y.1=i1:=by have:=eQ z101;omega
 have hst:=hst0
 rw[if_neg hne]at hst
 have hm1: -100000000≤sg*y.2:=by rcases hsg1 with e|e<;>rw[e]<;>omega
 have hm2:sg*y.2≤100000000:=by rcases hsg1 with e|e<;>rw[e]<;>omega
 have hi:=hiz
 refine cb Z ?_
 first|refine ji Z ?_|refine cJ Z Z ?_
 first|refine ji Z ?_|refine cJ Z Z ?_
 refine js Z (jf [65,64,101,66,48,0,2,4,5,6,7,8] Z (jo Z (aP ?_)))
 refine jf [101,66,48,0,2,4,5,6,7,8] Z (jn ?_)
 refine⟨(y.1,z.2.1,z.2.2+sg*y.2),Ent.to ⟨Z,Z,Z,Z,aw⟩ Z,⟨by show y.1≤_;omega,hiz.2.1,?_,?_,?_⟩,by show s.length-y.1<s.length-z.1;omega⟩
 exact fun q hq=>by have:=hiz.2.2.1 q hq;show -(100000000*(y.1:Int))≤q∧q≤100000000*(y.1:Int);omega
 show -(100000000*(y.1:Int))≤z.2.2+sg*y.2∧z.2.2+sg*y.2≤100000000*(y.1:Int);have:=hiz.2.2.2.1;omega
 show gu (s.drop y.1) z.2.1 (z.2.2+sg*y.2)=_
 rw[←ik hst,hiz.2.2.2.2]
 refine bi (ah ?_)
 have hz1:z.1=s.length:=by have:=eQ z14;omega
 have hr:=hi.2.2.2.2
 rw[hz1,List.drop_length,dD]at hr
 refine cy (Ent.freeze 9 (e':=[(0,_),(2,_),(4,_)]) Z (fe [0,2,4] Z) (eU Z (.cons Z (.box (pG Z (.cons (.row Z (by rw[ep,hi.2.1])) .nil))) (.skip .nil)))) ?_
 refine js Z (am O Z Z Z Z (p9 (t:=(⟨z.2.2,z.2.1⟩:Tm)) h1 h2) (ac Z) Z Z Z Z (B0:=108000) Z Z (jf [107,0,2,4] Z (jo Z (aP ?_))))
 refine jn (ae (ah (js Z (cR Z (mD (t:=(⟨z.2.2,aW z.2.1⟩:Tm)) h1 h2) 110000 Z (ap Z (jf [111,107,0,2,4] Z (aO 4 Z Z Z (fun hx=>az hx Z (eC O hx Z Z Z Z (kq (t:=(⟨z.2.2,aW z.2.1⟩:Tm)) h1 h2 (by simpa using hx)) (ac Z) Z Z Z Z Z Z Z (B0:=114000) Z (az hx Z (ct hx (iB (p:=tS (⟨z.2.2,aW z.2.1⟩:Tm)) (q:=s) O Z Z Z Z Z Z) Z (AN.nil))))) Z Z ?_)))))))
 first|refine an (aS O Z Z Z Z Z) Z ?_|refine an (Val.pickB O Z Z Z Z Z) Z ?_|refine an (aA O Z Z Z Z Z) Z ?_
 refine jf [116,107,0,2,4] Z (jn (aB Z (fun z116=>?_) (fun z116=>?_)))
 refine ah (js Z (jo Z (aP ?_)))
 refine js Z (jr ?_)
 refine aK Z ?_
 have hno:eo s=none:=by rw[lT hr.symm,if_neg];intro hh;revert z116;simp[hh.1,hh.2]
 rw[hno]
 exact .tup (.cons (.agg (.cons .d (.cons .nils .nil))) (.cons (.c .d) .nil))
 refine ao (ah (js Z (am O Z Z Z Z (qh (t:=(⟨z.2.2,aW z.2.1⟩:Tm)) h1 h2) (ac Z) Z Z Z Z (B0:=120000) Z Z (jf [119,116,107,0,2,4] Z (jo Z (aP ?_))))))
 refine js Z (jr ?_)
 refine aK Z ?_
 have hyes:eo s=some (⟨z.2.2,aW z.2.1⟩:Tm):=by rw[lT hr.symm,if_pos];revert z116;cases h7:Tm.ok (⟨z.2.2,aW z.2.1⟩:Tm)<;>simp
 rw[hyes]
 exact .tup (.cons (.agg (aT Z)) (.cons (.c .d) .nil))
end Go.Al
/- Lemmas for the walk of the reference's reader of oK. -/
namespace Go.Al
variable{L:Nat}(h1:4096≤L)(h2:L≤1073741824)
open Go.Lib
end Go.Al
/- Lemmas for the walks of both readers of sequents. -/
namespace Go.Al
variable{L:Nat}(h1:4096≤L)(h2:L≤1073741824)
open Go.Lib
theorem kz(c:UInt8): ∀s:aE,(gv c s).length≤s.length+1
 | []=>bp _
 | b::r=>by
  have ih:=kz c r
  rw[gv]
  split
  simp only[fI];omega
  simp only[fI,List.length_tail];omega
theorem nH{c:UInt8}{s:aE}: ∀p∈gv c s,p.length≤s.length:=by
 intro p hp
 rw[←hZ]at hp
 exact eb p hp
theorem gh{T:Type}{rd:aE→Option T}: ∀{a:List aE} {ts:List T} {x:aE} {t:T},bu rd a=some ts→rd x=some t→bu rd (a++[x])=some (ts++[t])
 | [],ts,x,t,h1,h2=>by
  rw[bu]at h1;cases h1
  rw[List.nil_append,bu,h2,bu];rfl
 | y::r,ts,x,t,h1,h2=>by
  rw[bu]at h1
  rw[List.cons_append,bu]
  split at h1
  cases h1
  rename_i t' ht
  split at h1
  cases h1
  rename_i ts' hts
  cases h1
  rw[gh hts h2];rfl
theorem gO{T:Type}{rd:aE→Option T}: ∀{a b:List aE} {x:aE},rd x=none→bu rd (a++x::b)=none
 | [],b,x,h=>by rw[List.nil_append,bu,h]
 | y::r,b,x,h=>by
  rw[List.cons_append,bu]
  split
  rfl
  rw[gO h]
theorem l7{ss:List aE}{ts:List Tm}(h:bu eo ss=some ts): ∀t∈ts,t.ok=true:=((cL (ok:=Tm.ok) (tx:=tS) fO).1 h).1
theorem lR{r:Option Tm}(h:(hJ r).2=true):r=some (hJ r).1:=by
 cases r with
 | none=>cases h
 | some t=>rfl
theorem lS{r:Option Tm}(h:(hJ r).2=false):r=none:=by
 cases r with
 | none=>rfl
 | some t=>cases h
theorem pZ{f:aE}(h:f≠[]):f[((f.length:Int)-1).toNat]? = some (f.getD (f.length-1) 0):=by
 have hl:=List.length_pos_iff.2 h
 rw[show((f.length:Int)-1).toNat=f.length-1 by omega,List.getElem?_eq_getElem (by omega)]
 simp[show f.length-1<f.length by omega]
theorem oc{f:aE}(h:((!decide (f=[]))==true)=true):f≠[]:=by simpa using h
theorem nM{f:aE}(h:((!decide (f=[]))==true)=true):(0:Int)≤(f.length:Int)-1:=by
 have:=List.length_pos_iff.2 (oc h);omega
theorem kF{f:aE}(h:f≠[]):f.getLast? = some 59↔((f.getD (f.length-1) 0).toNat:Int)=59:=by
 have hl:=List.length_pos_iff.2 h
 rw[List.getLast?_eq_getElem?,List.getElem?_eq_getElem (by omega),show((f.getD (f.length-1) 0).toNat:Int)=59↔f.getD (f.length-1) 0=59 from lJ (n:=59) (by decide)]
 simp[show f.length-1<f.length by omega]
theorem nm{k:Bool}{f:aE}{b:Prop}[Decidable b](hb:f≠[]→(f.getLast? = some 59↔b)):(bif !k then true else(bif !decide (f=[])then !decide b else false))=true↔(k=false∨(f≠[]∧f.getLast? ≠some 59)):=by
 cases k with
 | false=>simp
 | true=>
  by_cases h:f=[]
  simp[h]
  have:=hb h
  by_cases h2:b<;>simp_all
def oS(r:Option (List Tm×Tm)):A:=match r with
  | none=>.tup [ng ⟨[],⟨0,[]⟩⟩,eB false]
  | some x=>.tup [ng ⟨x.1,x.2⟩,eB true]
theorem oR{s:aE}(h:(cut s aF).2.2=false∨((cut s aF).1≠[]∧(cut s aF).1.getLast? ≠some 59)):ki eo s=none:=by unfold ki;rw[if_pos h]
theorem oP{s:aE}(h:eo (cut s aF).2.1=none):ki eo s=none:=by
 unfold ki
 split
 rfl
 rw[h]
theorem oQ{s:aE}(h:bu eo (gv 59 (cut s aF).1).dropLast=none):ki eo s=none:=by
 unfold ki
 split
 rfl
 split
 rfl
 rw[h]
theorem oO{s:aE}{g:Tm}{fs:List Tm}(h: ¬((cut s aF).2.2=false∨((cut s aF).1≠[]∧(cut s aF).1.getLast? ≠some 59)))(hg:eo (cut s aF).2.1=some g)(hf:bu eo (gv 59 (cut s aF).1).dropLast=some fs):ki eo s=if fs.length≤13 then some (fs,g)else none:=by
 unfold ki
 rw[if_neg h,hg]
 simp only[hf]
theorem mS{fs:List Tm}{g:Tm}(hf: ∀t∈fs,t.ok=true)(hg:g.ok=true):fT ⟨fs,g⟩=decide (fs.length≤13):=by
 unfold fT fh
 rw[List.all_eq_true.2 hf,hg]
 by_cases h:fs.length≤13
 rw[decide_eq_true h,decide_eq_true (by show(fs.length:Int)≤13;omega)];rfl
 rw[decide_eq_false h,decide_eq_false (by show¬(fs.length:Int)≤13;omega)];rfl
theorem oZ{s:aE}(hs:s.length≤1048576):MQ h1 h2 13 [fM s] [] (Plain (oS (ki eo s))):=by
 refine MC.data (jB 75 h1 h2 Tryd.func13 Z fun O hF=>?_)
 have hsL:s.length≤L:=by have h:=hF;simp[As.fact,A.fact,M.fact,D.fact,Ds.fact,bc]at h;exact h
 refine ah (jl Z (aP ?_))
 refine js Z (b0 (js Z (jf [14,3,2] Z (am O Z Z Z Z (oY (s:=s) (sep:=aF) h1 h2) (ac Z) Z Z Z Z (B0:=16000) Z Z (js Z ?_)))))
 obtain⟨F,hF0⟩: ∃F,F=(Lib.cut s aF).1:=⟨_,rfl⟩
 obtain⟨G,hG0⟩: ∃G,G=(Lib.cut s aF).2.1:=⟨_,rfl⟩
 obtain⟨K,hK0⟩: ∃K,K=(Lib.cut s aF).2.2:=⟨_,rfl⟩
 rw[←hF0,←hG0,←hK0]
 have hcl:=kJ s aF
 rw[←hF0,←hG0]at hcl
 refine cb Z (ap Z (jf [6,5,4,3,2] Z (jn (ae (ah (bQ Z (jf [21,6,5,4,3,2] Z (aO 10 Z Z Z (fun hx=>az hx Z (ct hx (iB (p:=F) (q:=[]) O Z Z Z Z Z Z) Z (az hx Z (jL 6 Z Z Z Z (fun hx'=>az hx' Z (az hx' Z (ct hx' (eJ (p:=F) O Z Z Z Z Z Z Z Z Z) Z (ct hx' (vF Z) Z (ct hx' (bX (p:=F) (b:=F.getD (F.length-1) 0) O Z Z Z Z Z Z Z (nM hx') (pZ (oc hx'))) Z (az hx' Z (AN.nil))))))) Z Z (ct hx (aA O Z Z Z Z Z) Z (AN.nil)))))) Z Z ?_))))))))
 first|refine an (aS O Z Z Z Z Z) Z ?_|refine an (Val.pickB O Z Z Z Z Z) Z ?_|refine an (aA O Z Z Z Z Z) Z ?_
 refine jf [32,6,5,4,3,2] Z (jn (aB Z (fun z32=>?_) (fun z32=>?_)))
 refine ah (js Z (jf [33,6,5,4,3,2] Z (jo Z (aP ?_))))
 refine js Z (jr ?_)
 refine aK Z ?_
 rw[oR (by rw[←hF0,←hK0];exact(nm fun h=>kF h).1 z32)]
 exact .tup (.cons (.agg (.cons .nils (.cons .d (.cons .nils .nil)))) (.cons (.c .d) .nil))
 refine ao (ah (jl Z (aP ?_)))
 refine b0 ?_
 have hno:=ny z32 (nm fun h=>kF h)
 have hK1:K=true:=by cases h:K with
  | true=>rfl
  | false=>exact absurd (.inl h) hno
 have hcj:s=F++aF++G:=jb (by rw[hF0,hG0,←hK1,hK0])
 have hfl:F.length+2≤s.length:=by have h:=congrArg List.length hcj;simp only[dc]at h;have h2:aF.length=2:=rfl;omega
 obtain⟨gT,hgT⟩: ∃g,g=(hJ (eo G)).1:=⟨_,rfl⟩
 obtain⟨gB,hgB⟩: ∃b,b=(hJ (eo G)).2:=⟨_,rfl⟩
 refine js Z (jf [35,7,6,4,3,2] Z (am O Z Z Z Z ((lK (s:=G) h1 h2 (by omega)).plain (v:=_) (u:=.tup [df gT,eB gB]) (by rw[hgT,hgB])) (ac Z) Z Z Z Z (B0:=37000) Z Z (cb Z (jf [39,38,37,7,6,4,3,2] Z (jo Z (aP ?_))))))
 refine js Z (jf [6,7,4,3,2] Z (jn (ae (ah (ap Z (jn (aB Z (fun z41=>?_) (fun z41=>?_))))))))
 refine ah (js Z (jf [42,40,6,7,4,3,2] Z (jo Z (aP ?_))))
 refine js Z (jr ?_)
 refine aK Z ?_
 rw[oP (by rw[←hG0];exact lS (by rw[←hgB];simpa using z41))]
 exact .tup (.cons (.agg (.cons .nils (.cons .d (.cons .nils .nil)))) (.cons (.c .d) .nil))
 refine ao (ah ?_)
 have hg1:gB=true:=by simpa using z41
 have hrg:eo G=some gT:=by rw[hgT];exact lR (by rw[←hgB];exact hg1)
 have hpl0:=kz 59 F
 obtain⟨Q,q,hQ,_,_,_⟩:=f5 59 F
 refine js Z (jf [43,40,6,7,4,3,2] Z (am O Z Z Z Z ((oX (s:=F) (sep:=[59]) h1 h2 (by simp) (by rw[hZ];omega)).plain (v:=_) (u:=.c (.d (strs (gv 59 F)))) (by rw[hZ])) (ac Z) Z Z Z Z (B0:=45000) Z Z (js Z (jf [8,40,6,7,4,3,2] Z (jn (ae (ah ?_)))))))
 rw[hQ]
 have hQl:(Q++[q]).length=Q.length+1:=by simp
 have hPL:Q.length+1≤F.length+1:=by rw[←hQl,←hQ];exact hpl0
 refine ap Z (an ((cm O Z Z Z Z Z Z Z Z).cast (v':=eI (Q.length+1:Nat)) (by rw[hQl])) Z (an ((aj O Z Z (by omega) (by omega)).cast (v':=eI (Q.length:Nat)) (congrArg eI (by omega))) Z (an (j8 (a:=0) (b:=Q.length) (ys:=Q.map fun p=>[sD p]) O Z Z Z Z Z Z Z Z Z Z (by simp[nat?]) ⟨fE _,by simp⟩ (by simp)) Z ?_)))
 first|refine fK Z ?_|refine js Z ?_|refine cJ Z Z ?_
 refine js Z (jf [51,50,49,40,6,7,4,3,2] Z (jn (ak (av (X:=Nat×List Tm) (fun z=>⟨[(2,.c (.pt 2 0 0)),(7,.c (.pt 7 0 0)),(49,.c (.d (strs Q))),(50,eI Q.length),(51,eI (z.1:Nat))],[(2,.box [.d .nils,.d (.int .i64 0),.d .nils]),(7,.box [.rs 900 0 z.2.length,.d (.int .i64 gT.c),.d (eX gT.xs)]),(900,nz z.2)]⟩) (fun z=>z.1≤Q.length∧z.2.length=z.1∧bu eo (Q.take z.1)=some z.2) (fun z=>Q.length-z.1) (0,[]) ((jq 7 900 2 false 0 Z Z Z).trans (Ent.to ⟨Z,Z,Z,Z,Z,aw⟩ Z)) ?_ (fun z hi=>?_)))))
 exact⟨fE _,Z,Z⟩
 refine ah (js Z (jn (ae (aB Z (fun z52=>?_) (fun z52=>?_)))))
 refine ao (ae (ak (ah ?_)))
 have hi0:z.1<Q.length:=by have:=eR z52;omega
 have hpl:(Q.getD z.1 default).length≤1100000:=by
  have h9:(Q.getD z.1 default)∈gv 59 F:=by rw[hQ,ax hi0];exact List.mem_append_left _ (List.getElem_mem hi0)
  have:=nH _ h9;omega
 obtain⟨t,ht⟩: ∃t,t=(hJ (eo (Q.getD z.1 default))).1:=⟨_,rfl⟩
 obtain⟨tB,htB⟩: ∃b,b=(hJ (eo (Q.getD z.1 default))).2:=⟨_,rfl⟩
 refine an (ej O Z Z Z Z Z Z Z Z (lD (by omega))) Z (ap Z (jf [10,52,2,7,49,50,51] Z (b0 (js Z (jf [56,52,2,7,49,50,51] Z (am O Z Z Z Z ((lK (s:=(Q.getD z.1 default)) h1 h2 hpl).plain (v:=_) (u:=.tup [df t,eB tB]) (by rw[ht,htB])) (ac Z) Z Z Z Z (B0:=58000) Z Z (bQ Z (jf [59,58,52,2,7,49,50,51] Z (jl Z (aP ?_))))))))))
 refine jo Z (aP ?_)
 refine js Z (jf [12,11,52,2,7,49,50,51] Z (jn (ae (ah (ap Z (jf [61,11,52,2,7,49,50,51] Z (jn (aB Z (fun z61=>?_) (fun z61=>?_)))))))))
 refine ah (js Z (jo Z (aP ?_)))
 refine js Z (jr ?_)
 refine aK Z ?_
 have hbad:ki eo s=none:=oQ (by rw[←hF0,hQ,List.dropLast_concat,←List.take_append_drop z.1 Q,List.drop_eq_getElem_cons hi0];exact gO (by rw[←ax hi0];exact lS (by rw[←htB];simpa using z61)))
 rw[hbad]
 exact .tup (.cons (.agg (.cons .nils (.cons .d (.cons .nils .nil)))) (.cons (.c .d) .nil))
 refine ao (ag ?_)
 have hok1:(hJ (eo (Q.getD z.1 default))).2=true:=by rw[←htB];simpa using z61
 refine bQ Z (jf [65,64,61,11,52,2,7,49,50,51] Z (b9 (fS O Z Z Z Z Z Z Z Z Z Z Z) Z (aP ?_)))
 refine jf [66,64,61,11,52,2,7,49,50,51] Z (b9 (kj (own:=false) (xs:=z.2.map Tm.cells) (ys:=[Tm.cells t]) (zs:=(z.2++[t]).map Tm.cells) (n:=(z.2++[t]).length) O Z (.row Z (ep _).symm) (.whole Z Z (.inr ⟨Z,Z⟩)) (by simp) Z (by simp;omega) (by simp;omega) (by simp) (by simp)) Z (aP ?_))
 refine aP ?_
 refine js Z (jf [68,67,61,11,52,2,7,49,50,51] Z (jo Z (aP ?_)))
 refine jf [61,11,52,2,7,49,50,51] Z (jn (ag ?_))
 first|refine ji Z ?_|refine cJ Z Z ?_
 refine js Z (jn ?_)
 refine⟨(z.1+1,z.2++[t]),((aV [2,7,67] (e':=[(2,_),(7,_),(49,_),(50,_),(51,_)]) Z Z ⟨Z,Z,Z,Z,Z,aw⟩ Z).trans (aZ 67 900 Z Z)).trans (Ent.to ⟨Z,Z,Z,Z,Z,aw⟩ Z),⟨by show z.1+1≤_;omega,by show(z.2++[t]).length=z.1+1;rw[dc,hi.2.1];rfl,?_⟩,by show Q.length-(z.1+1)<Q.length-z.1;omega⟩
 show bu eo (Q.take (z.1+1))=some (z.2++[t])
 rw[List.take_succ_eq_append_getElem hi0,←ax hi0]
 rw[ht]
 exact gh hi.2.2 (lR hok1)
 refine bi (ae (ah ?_))
 have hz1:z.1=Q.length:=by have:=eQ z52;omega
 have hall:=hi.2.2
 rw[hz1,List.take_length]at hall
 have hyes:=oO (s:=s) (g:=gT) (fs:=z.2) (by rw[←hF0,←hK0];exact hno) (by rw[←hG0];exact hrg) (by rw[←hF0,hQ,List.dropLast_concat];exact hall)
 have hsq:=mS (g:=gT) (l7 hall) ((fO G gT).1 hrg).1
 refine cy (Ent.freeze 900 (e':=[(2,_),(7,_)]) Z (fe [2,7] Z) (eU Z (.cons Z (.box (.cons (.row Z (ep _).symm) (fk Z))) (.skip .nil)))) ?_
 refine js Z (cR Z (oh (s:=⟨z.2,gT⟩) h1 h2) 72000 Z (js Z (jf [72,2,7] Z (jn (aB Z (fun z72=>?_) (fun z72=>?_))))))
 refine ah (js Z (jo Z (aP ?_)))
 refine js Z (jr ?_)
 refine aK Z ?_
 have h9:fT ⟨z.2,gT⟩=false:=by simpa using z72
 rw[hsq]at h9
 rw[hyes,if_neg (eQ h9)]
 exact .tup (.cons (.agg (.cons .nils (.cons .d (.cons .nils .nil)))) (.cons (.c .d) .nil))
 refine ao (ah (js Z (jo Z (aP ?_))))
 refine js Z (jr ?_)
 refine aK Z ?_
 have h9:fT ⟨z.2,gT⟩=true:=by simpa using z72
 rw[hsq]at h9
 rw[hyes,if_pos (eR h9)]
 exact .tup (.cons (.agg (aT Z)) (.cons (.c .d) .nil))
def pu:Nat→Src→List Int→List Int×Src
  | 0,s,xs=>(xs,s)
  | k+1,s,xs=>pu k (s.pick 9).2 (xs++[(s.pick 9).1-4])
def mE(xs:List Int):List Int×Src:=pu ((⟨xs,0,0⟩:Src).pick 11).1.toNat ((⟨xs,0,0⟩:Src).pick 11).2 []
def kR(xs:List Int):Tm:=(dR (((mE xs).2.pick 15).1-7) (mE xs).1).1
theorem m9{xs:List Int}:(kR xs).ok=true:=fP
variable{xs:List Int}
theorem pc(hx: ∀n∈xs,0≤n∧n≤255):MQ h1 h2 8 [.c (.d (bys xs))] [] (Plain (df (kR xs))):=by
 refine MC.data (jB 32 h1 h2 Tryd.func8 Z fun O hF=>?_)
 have hs:(⟨xs,0,0⟩:Src).Ok:=⟨hx⟩
 have ha:(⟨xs,0,0⟩:Src).at_=0:=rfl
 have hp0:=bf hs (n:=11) (by omega)
 have hat0:=bg (s:=(⟨xs,0,0⟩:Src)) (n:=11)
 refine ah (jl Z (aP ?_))
 refine b0 (js Z (jf [8,2] Z (aJ O [] (bin:=[]) Z Z Z Z (nq (xs:=xs) h1 h2) Z Z Z Z Z Z (B0:=10000) Z Z (aP ?_))))
 refine js Z (jf [3,2] Z (b0 (b9 (HS.lit O Z Z Z) Z (aP ?_))))
 refine js Z (jn (ae (ah (js Z (aJ O [10000] (bin:=[aU (⟨xs,0,0⟩:Src)]) Z Z Z Z (dS (s:=(⟨xs,0,0⟩:Src)) (n:=11) h1 h2 hs (by omega) (by omega) (by omega)) Z Z Z Z Z Z (B0:=13000) Z Z (aP ?_))))))
 refine js Z (jf [5,4,10,3,2] Z (jn (ak (av (X:=Nat×Src×List Int) (fun y=>⟨[(2,.c (.pt 2 0 0)),(3,.c (.pt 10000 0 0)),(4,.c (.rs 900 0 y.2.2.length)),(5,eI (y.1:Nat))],[(2,.box [.d (.int .i64 0),.d .nils]),(900,eW y.2.2),(10000,aU y.2.1)]⟩) (fun y=>y.2.1.Ok∧mE xs=pu y.1 y.2.1 y.2.2∧y.2.2.length+y.1≤10∧y.2.1.at_+2*y.1≤100) (fun y=>y.1) (((⟨xs,0,0⟩:Src).pick 11).1.toNat,((⟨xs,0,0⟩:Src).pick 11).2,[]) (((aV [2,10,10000] (e':=[(2,_),(3,_),(4,_),(5,_)]) Z Z ⟨Z,Z,Z,Z,aw⟩ Z).trans (aZ 10 900 Z Z)).trans (Ent.to ⟨Z,Z,Z,by rw[Int.toNat_of_nonneg hp0.1];rfl,aw⟩ Z)) ?_ (fun y hi=>?_)))))
 exact⟨hs.pick,Z,by simp only[List.length_nil];omega,by simp only;omega⟩
 refine ae (ah (ap Z (jn (aB Z (fun z14=>?_) (fun z14=>?_)))))
 refine ao (ae (ak (ag (ap Z ?_))))
 have hp:=bf hi.1 (n:=9) (by omega)
 have hat:=bg (s:=y.2.1) (n:=9)
 have hk2:=eR z14
 refine aJ O [10000] (bin:=[aU y.2.1]) Z Z Z Z (dS (s:=y.2.1) (n:=9) h1 h2 hi.1 (by omega) (by omega) (by omega)) Z Z Z Z Z Z (B0:=20000) Z Z (aP ?_)
 refine an (aj O Z Z (by omega) (by omega)) Z (jf [20,17,14,13,2,3,4,5] Z (b9 (HS.lit O Z Z Z) Z (aP ?_)))
 refine jf [21,17,14,13,2,3,4,5] Z (b9 (c5 (zs:=(y.2.2++[(y.2.1.pick 9).1-4]).map fun n=>[.int .i64 n]) (n:=(y.2.2++[(y.2.1.pick 9).1-4]).length) O Z Z Z Z Z Z Z Z Z Z Z Z Z Z Z Z (.row Z (ep _).symm) Z Z (by decide) Z (by simp;omega) (by simp;omega) (by simp) (by simp)) Z (aP ?_))
 refine aP ?_
 refine js Z (jf [4,14,13,2,3,5] Z (jn (ag (js Z ?_))))
 first|refine ji Z ?_|refine cJ Z Z ?_
 refine js Z (jf [5,4,14,13,2,3] Z (jn ?_))
 obtain⟨k,hk1⟩: ∃k,y.1=k+1:=⟨y.1-1,by omega⟩
 refine⟨(k,(y.2.1.pick 9).2,y.2.2++[(y.2.1.pick 9).1-4]),((aV [2,22,10000] (e':=[(2,_),(3,_),(4,_),(5,_)]) Z Z ⟨Z,Z,Z,Z,aw⟩ Z).trans (aZ 22 900 Z Z)).trans (Ent.to ⟨Z,Z,Z,?_,aw⟩ Z),⟨hi.1.pick,by rw[hi.2.1,hk1,pu],by simp only[dc,nf];omega,by simp only;omega⟩,by simp only;omega⟩
 exact congrArg (fun z=>some (eI z)) (by simp only;omega)
 refine bi (ah ?_)
 have hk2:=eQ z14
 obtain⟨j,s1,xs1⟩:=y
 simp only at hi hk2
 obtain rfl:j=0:=by omega
 obtain⟨hi1,hi2,hi3,hi4⟩:=hi
 have hM:mE xs=(xs1,s1):=hi2
 have hp1:=bf hi1 (n:=15) (by omega)
 have hat1:=bg (s:=s1) (n:=15)
 refine cy (Ent.freeze 900 (e':=[(2,_),(3,_),(4,_)]) Z (.cons Z (.keep Z) (.cons Z (.keep Z) (.cons Z (.c (.row Z (ep _).symm)) .nil))) (eU Z (.skip (eU Z .nil)))) ?_
 refine js Z (aJ O [10000] (bin:=[aU s1]) Z Z Z Z (dS (s:=s1) (n:=15) h1 h2 hi1 (by omega) (by omega) (by omega)) Z Z Z Z Z Z (B0:=26000) Z Z (aP ?_))
 refine an (aj O Z Z (by omega) (by omega)) Z (js Z (jf [27,26,2,3,4] Z (am O Z Z Z Z (lF (c:=(s1.pick 15).1-7) (xs:=xs1) h1 h2) (ac Z) Z Z Z Z (B0:=29000) Z Z (bQ Z (jf [30,29,2,3,4] Z (jl Z (aP ?_)))))))
 refine jo Z (aP ?_)
 refine js Z (jf [6,2,3,4] Z (b0 (js Z (jo Z (aP ?_)))))
 refine jr ?_
 refine aK Z ?_
 rw[show kR xs=(dR ((s1.pick 15).1-7) xs1).1 by unfold kR;rw[hM]]
 exact .v (.agg (aT Z))
theorem l3{L:Nat}(h1:4096≤L)(h2:L≤9223372036854775807){xs ys:List Int}:MC Tryd.prog L 7 [.c (.d (bys xs)),.c (.d (bys ys))] [] (Plain (eB (bif decide ((1048576:Int)<xs.length)then true else decide ((1048576:Int)<ys.length)))):=by
 refine aH ?_ Z
 have O:=mH (nt:=13) h1 h2
 refine MC.body O Tryd.func7 (by kernel_rfl) Z Z (Nat.le_of_ble_eq_true Z) (fun hF=>?_)
 refine ah (js Z (b0 (js Z ?_)))
 first|refine fK Z ?_|refine js Z ?_|refine cJ Z Z ?_
 refine ap Z (aO 3 Z Z Z (fun hx=>az hx Z (ct hx (cm O Z Z Z Z Z Z Z Z) Z (az hx Z (AN.nil)))) Z Z ?_)
 first|refine an (aS O Z Z Z Z Z) Z ?_|refine an (Val.pickB O Z Z Z Z Z) Z ?_|refine an (aA O Z Z Z Z Z) Z ?_
 refine js Z (jr ?_)
 refine aK Z ?_
 rfl
theorem lZ{L:Nat}(h1:4096≤L)(h2:L≤9223372036854775807){xs ys:List Int}(h0:(bif decide ((1048576:Int)<xs.length)then true else decide ((1048576:Int)<ys.length))=true):MC Tryd.prog L 3 [.c (.d (bys xs)),.c (.d (bys ys))] [] (Plain (eB true)):=by
 refine MC.data ?_
 have O:=mH (nt:=64) h1 h2
 refine MC.body O Tryd.func3 (by kernel_rfl) Z Z (Nat.le_of_ble_eq_true Z) (fun hF=>?_)
 refine ah (js Z (jn (ae (ah (ap Z (cR Z (l3 (xs:=xs) (ys:=ys) h1 h2) 18000 Z (jf [17,4,0,1] Z (jn (aB Z (fun z17=>?_) (fun z17=>?_))))))))))
 refine ah (js Z (jr ?_))
 refine aK Z ?_
 exact .v (.c .d)
 exact absurd z17 (by rw[h0];decide)
theorem nR{ys:List Int}{a:Tm}{q:Sq}(h0:(bif decide ((1048576:Int)<xs.length)then true else decide ((1048576:Int)<ys.length))=false)(hA:MQ h1 h2 8 [.c (.d (bys xs))] [] (Plain (df a)))(hQ:MQ h1 h2 9 [.c (.d (bys ys))] [] (Plain (ng q)))(hT:MQ h1 h2 10 [df a] [] (Plain (.tup [fM (tS a),eB true])))(hU:MQ h1 h2 11 [ng q] [] (Plain (.tup [fM (ns q),eB true])))(hR:MQ h1 h2 12 [fM (tS a)] [] (Plain (.tup [df a,eB true])))(hS:MQ h1 h2 13 [fM (ns q)] [] (Plain (.tup [ng q,eB true]))):MQ h1 h2 3 [.c (.d (bys xs)),.c (.d (bys ys))] [] (Plain (eB true)):=by
 refine MC.data (jB 64 h1 h2 Tryd.func3 Z fun O hF=>?_)
 refine ah (js Z (jn (ae (ah (ap Z (cR Z (l3 (xs:=xs) (ys:=ys) h1 (Nat.le_trans h2 (by decide))) 18000 Z (jf [17,4,0,1] Z (jn (aB Z (fun z17=>?_) (fun z17=>?_))))))))))
 exact absurd z17 (by rw[h0];decide)
 refine ao (ah (js Z (jf [18,4,0,1] Z (am O Z Z Z Z (hA) (ac Z) Z Z Z Z (B0:=20000) Z Z (jf [19,4,0,1] Z (jl Z (aP ?_)))))))
 refine jo Z (aP ?_)
 refine b0 (js Z (am O Z Z Z Z (hQ) (ac Z) Z Z Z Z (B0:=22000) Z Z (jf [21,5,19,4,0,1] Z (jl Z (aP ?_)))))
 refine jo Z (aP ?_)
 refine b0 (js Z (am O Z Z Z Z (hT) (ac Z) Z Z Z Z (B0:=25000) Z Z (cb Z (js Z (jf [8,7,6,21,5,19,4,0,1] Z (b0 (js Z (am O Z Z Z Z (hU) (ac Z) Z Z Z Z (B0:=30000) Z Z (cb Z (js Z (jf [10,9,8,7,6,21,5,19,4,0,1] Z (b0 (js Z (jf [33,10,9,8,6,21,5,19,4,0,1] Z (am O Z Z Z Z (hR) (ac Z) Z Z Z Z (B0:=35000) Z Z (bQ Z (jf [36,35,10,9,8,6,21,5,19,4,0,1] Z (jl Z (aP ?_)))))))))))))))))))
 refine jo Z (aP ?_)
 refine js Z (jf [12,11,10,9,8,6,21,5,19,4,0,1] Z (b0 (js Z (jf [38,12,11,10,8,6,21,5,19,4,0,1] Z (am O Z Z Z Z (hS) (ac Z) Z Z Z Z (B0:=40000) Z Z (bQ Z (jf [41,40,12,11,10,8,6,21,5,19,4,0,1] Z (jl Z (aP ?_)))))))))
 refine jo Z (aP ?_)
 refine js Z (jf [14,13,12,11,10,8,6,21,5,19,4,0,1] Z (b0 (ap Z (jf [43,14,13,12,11,10,6,21,5,19,4,0,1] Z (lx Z (js Z (an (cf O Z Z Z Z Z) Z (js Z (jf [46,14,13,12,11,6,21,5,19,4,0,1] Z (lx Z (js Z (an (cf O Z Z Z Z Z) Z (js Z (jf [49,14,13,11,6,21,5,19,4,0,1] Z (lx Z (js Z (an (cf O Z Z Z Z Z) Z (js Z (jf [52,13,11,6,21,5,19,4,0,1] Z (lx Z (js Z (lx Z (js Z (lx Z (cR Z ((kr (s:=a) (t:=a) h1 h2).plain (congrArg eB (decide_eq_true Z))) 56000 Z (an (cf O Z Z Z Z Z) Z (js Z (jf [57,13,11,6,21,5,19,4,0,1] Z (lx Z ?_)))))))))))))))))))))))))))))
 refine js Z (lx Z (b9 (fS O Z Z Z Z Z Z Z Z Z Z Z) Z (aP ?_)))
 refine jf [59,57,13,11,6,21,5,19,4,0,1] Z (lx Z (js Z (lx Z (b9 (fS O Z Z Z Z Z Z Z Z Z Z Z) Z (aP ?_)))))
 refine jf [61,59,57,13,11,6,21,5,19,4,0,1] Z (lx Z (dQ O Z Z Z Z ((ph (xs:=[q]) (ys:=[q]) h1 h2).plain (congrArg eB (decide_eq_true Z))) (.cons (.c (.whole Z Z)) (.cons (.c (.whole Z Z)) .nil)) Z Z Z Z Z (B0:=63000) Z (an (cf O Z Z Z Z Z) Z (js Z (jf [4,13,11,6,21,5,19,0,1] Z (jr ?_))))))
 refine aK Z ?_
 exact .v (.c .d)
theorem mR{s:Sq}(h:fT s=true):(ns s).length≤2000:=by
 obtain⟨hok,hl13,hgo⟩:=e6 h
 have h1:=gc (ps:=s.facts.map tS) (fun p hp=>by obtain⟨t,ht,rfl⟩:=List.mem_map.1 hp;exact dY (hok t ht))
 rw[ep]at h1
 have h2:=dY hgo
 unfold ns pp
 simp only[dc]
 have h3:aF.length=2:=rfl
 omega
theorem mi{xs ys:List Int}(hx: ∀n∈xs,0≤n∧n≤255)(hy: ∀n∈ys,0≤n∧n≤255):MC Tryd.prog 1073741824 3 [.c (.d (bys xs)),.c (.d (bys ys))] [] (Plain (eB true)):=by
 cases h0:(bif decide ((1048576:Int)<xs.length)then true else decide ((1048576:Int)<ys.length))with
 | true=>exact lZ (by decide) (by decide) h0
 | false=>
  have hA:=pc (L:=1073741824) (by decide) (bp _) hx
  have hQ:=pf (L:=1073741824) (by decide) (bp _) hy
  have ha:(kR xs).ok=true:=m9
  have hq:=na hy
  generalize kR xs=a at hA ha
  generalize jz ys=q at hQ hq
  have hr:eo (tS a)=some a:=(fO _ _).2 ⟨ha,rfl⟩
  obtain⟨hok,hl13,hgo⟩:=e6 hq
  have hs:ki eo (ns q)=some (q.facts,q.goal):=(mU fO oL).2 ⟨by omega,hok,hgo,rfl⟩
  have hal:=dY ha
  have hsl:=mR hq
  exact nR (by decide) (bp _) h0 hA hQ (o9 (by decide) (bp _) ha) (o0 (by decide) (bp _) hq) ((lK (s:=tS a) (by decide) (bp _) (by omega)).plain (by rw[hr];rfl)) ((oZ (s:=ns q) (by decide) (bp _) (by omega)).plain (by rw[hs];rfl))
theorem gd{L M:Nat}: ∀{xs:List Int},Dss.fact L (List.map (fun n=>[D.int IntKind.u8 n]) xs)→Dss.fact M (List.map (fun n=>[D.int IntKind.u8 n]) xs)
 | [],_=>trivial
 | x::xs,h=>by
  have ih:=gd (L:=L) (M:=M) (xs:=xs)
  simp only[List.map_cons,Dss.fact,Ds.fact,D.fact]at h ⊢
  exact⟨h.1,ih h.2⟩
theorem law1315{L:Nat}(h1:4096≤L)(h2:L≤9223372036854775807){xs ys:List Int}(hx: ∀n∈xs,0≤n∧n≤255)(hy: ∀n∈ys,0≤n∧n≤255):MC Tryd.prog L 3 [.c (.d (bys xs)),.c (.d (bys ys))] [] (Plain (eB true)):=by
 cases h0:(bif decide ((1048576:Int)<xs.length)then true else decide ((1048576:Int)<ys.length))with
 | true=>exact lZ h1 h2 h0
 | false=>
  have hl:xs.length≤1048576∧ys.length≤1048576:=by
   cases ha:decide ((1048576:Int)<xs.length)with
   | true=>rw[ha]at h0;cases h0
   | false=>
    rw[ha]at h0
    have:=eQ ha
    have:=eQ h0
    omega
  refine MC.facts ⟨_,_,Tryd.func3,by kernel_rfl,Z⟩ fun hF=>?_
  refine nb (L0:=1073741824) Z ?_ (mi hx hy)
  simp[As.fact,A.fact,M.fact,D.fact,Ds.fact]at hF ⊢
  exact⟨⟨by omega,gd hF.1.2⟩,⟨by omega,gd hF.2.2⟩⟩
end Go.Al
/- What the rows of the texts share: what the package-level variables hold in every world that a row ranges over. -/
namespace Go.Proofs.YtlofbdghppgnbaaDoor
open Go.ChangeShapes Go.WideShapes Go.ChangeAt Go.RowKit Go.Al
theorem wrapLaid{H:Type}{enc:TypeId×Value→H}{a:Assume}{C:Checked}{os:Os}{f:FuncId}{fn:Func}{s:ChangeSpec}{conds:List PathCond}{apart fresh handsOn again:Bool}{X:World→Array Value→Prop}
    (hX: ∀(w w':World) (args:Array Value),w.heap=w'.heap→X w args→X w' args)
    (own:ownKnob C.prog.godebug=none) (started:os.Started) (noInit:C.prog.inits.idxOf? f=none) (hfn:C.prog.funcs[f]? = some fn)
    (witness: ∃(w:World) (tape:Tape) (i:Input),w.os=os∧(w.forCall tape i).Shaped C.prog∧i.vars=[]∧Input.okWide C.prog (w.forCall tape i) .any w.heap.size f i∧
      ((s.pre enc C.prog fn conds apart (w.forCall tape i).memory i.args∧X (w.forCall tape i).memory i.args)∧sizedMet enc C.prog fn (OpenSpec.ofChange s) apart (w.forCall tape i).memory i.args)∧a.holds C.prog (lone (Frame.enter C.prog f i.args .normal) [] (w.forCall tape i)))
    (contract: ∀(W:World) (base:Nat) (args:Array Value) (ds gs:List (DataW H)) (before:List MemPlace),
      (∀(j:Nat) t v,fn.params[j]? = some t→args[j]? = some v→Value.okWide C.prog W .any base t v)→
      DataW.Whole enc C.prog fn.params.toList s.vars apart W args.toList ds gs before→X W args→W.ShapedOpen C.prog→
      Calls C.prog f args W fun e W'=> ∃v,e= .returned v∧s.post enc C.prog fn apart fresh handsOn again W args v W') :
    ReturnsInHanded a C os f .any (fun w args=>(s.pre enc C.prog fn conds apart w args∧X w args)∧sizedMet enc C.prog fn (OpenSpec.ofChange s) apart w args) (s.post enc C.prog fn apart fresh handsOn again):=by
 refine returnsInHanded_of_calls own started noInit witness ?_
 intro w tape i _ hsh _ hok hpre hholds
 obtain⟨_,_,_,fn',hfn',_,_,_,_,hval⟩:=hok
 have e:fn'=fn:=Option.some.inj (hfn'.symm.trans hfn)
 subst e
 obtain⟨⟨⟨ds,gs,before,hw,hc⟩,hx⟩,hz⟩:=hpre
 have hw':=DataW.Whole.of_heap (w':=w.forCall tape i) (by rfl) hw
 refine(contract (w.forCall tape i) w.heap.size i.args ds gs before hval hw' (hX _ _ _ (by rfl) hx) hsh).mono fun e W' ⟨v,he,hp⟩=>?_
 subst he
 exact ChangeSpec.post_blind hp
theorem fu{P:Program}{w:World}: ∀{l:List (String×DataW Unit)} {ps:List MemPlace},DataW.LaidVars P w l ps→∀{x:String×DataW Unit},x∈l→
    ∃g t cs fuel p,P.globalNamed x.1=some g∧(P.globals[g]?).map (·.type)=some t∧w.var? P x.1=some cs∧DataW.trod (fun _=>()) P w 0 (fun _=>true) false fuel t cs.toList=some (x.2,p)
 | [],_,_,_,h=>by cases h
 | (n,d)::l,_,h,x,hx=>by
  obtain⟨g,t,cs,fuel,p,q,hg,ht,hv,hd,hr,_⟩:=h
  rcases List.mem_cons.1 hx with rfl|hx
  exact⟨g,t,cs,fuel,p,hg,ht,hv,hd⟩
  exact fu hr hx
theorem mL{P:Program}{w:World}{n:Nat}{t e:TypeId}{fuel:Nat}{cs:Array Value}{zs:List Int}{p:List MemPlace}(ht:P.underlying t=some (.array n e))(he:P.underlying e=some (.int .u64))(hc:P.cellsOf t=n)(hce:P.cellsOf e=1)(hn:zs.length=n)
    (hd:DataW.trod (fun _:TypeId×Value=>()) P w 0 (fun _=>true) false fuel t cs.toList=some (.agg (zs.map fun z=>.lit (.int .u64 z)),p)):cs=(zs.map fun z=>Value.int .u64 z).toArray:=by
 obtain⟨xs,m,_,ex,hl,hxs,hel⟩:=DataW.trod_array ht hd
 have e3:(xs.map (·.1))=zs.map fun z=>.lit (.int .u64 z):=(DataW.agg.inj (Prod.mk.inj ex).1).symm
 have key:cs.toList=zs.map fun z=>Value.int .u64 z:=by
  refine List.ext_getElem (by simp[hl,hc,hn]) fun i h1 h2=>?_
  have hi:i<n:=by simpa[hn]using h2
  have hE:=hel i hi
  rw[hce,Nat.mul_one,List.getElem?_eq_getElem (by omega)]at hE
  obtain⟨z,e1,e2,_⟩:=DataW.trod_int he hE
  have e4:(xs.map (·.1))[i]? = (zs.map fun z=>(DataW.lit (.int .u64 z):DataW Unit))[i]? := by rw[e3]
  rw[List.getElem?_map,List.getElem?_map,List.getElem?_eq_getElem (by omega:i<xs.length),List.getElem?_eq_getElem (by omega:i<zs.length),e2]at e4
  simp only[Option.map_some,da,DataW.lit.injEq,Lit.int.injEq,true_and]at e4
  have h0:((cs.toList.drop i).take 1)[0]? = some (.int .u64 z):=by rw[e1];rfl
  have h3:cs.toList[i]? = some (.int .u64 z):=by simpa using h0
  rw[List.getElem?_eq_getElem h1]at h3
  rw[Option.some.inj h3,e4,List.getElem_map]
 rw[←key]
theorem kW:(Rows.laid_internal_strconv_uint64pow10:DataW Unit)= .agg (Lib.pow10Tab.map fun z=>.lit (.int .u64 z)):=by kernel_rfl
theorem gok{W:World}{laid:List (String×DataW Unit)}(hl:laidMet Tryd.prog laid W)(hm:("internal/strconv.uint64pow10",Rows.laid_internal_strconv_uint64pow10)∈laid)(hs:W.ShapedOpen Tryd.prog):GOk Tryd.prog W okAll:=by
 intro n g hn hg
 refine⟨trivial,?_⟩
 simp only[GN,List.mem_cons,List.mem_nil_iff,or_false]at hn
 rcases hn with rfl|rfl
 obtain⟨ps,hv,_,_⟩:=hl
 obtain⟨g',t,cs,fuel,p,hg',ht,hv,hd⟩:=fu hv (x:=("internal/strconv.uint64pow10",Rows.laid_internal_strconv_uint64pow10)) hm
 obtain rfl:=Option.some.inj ((show Tryd.prog.globalNamed "internal/strconv.uint64pow10" = some 1 by kernel_rfl).symm.trans hg')
 obtain rfl:=Option.some.inj ((show(Tryd.prog.globals[1]?).map (·.type)=some 162 by kernel_rfl).symm.trans ht)
 refine⟨cs,hv,fun _=>?_,fun h=>absurd h (by simp)⟩
 refine mL (n:=20) (e:=87) Tryd.underlying162 Tryd.underlying87 (by kernel_rfl) (by kernel_rfl) Lib.pow10Tab_length (p:=p) (fuel:=fuel) (P:=Tryd.prog) (w:=W) ?_
 rw[←kW]
 exact hd
 obtain rfl:=Option.some.inj ((show Tryd.prog.globalNamed "internal/bytealg.MaxLen" = some 0 by kernel_rfl).symm.trans hg)
 obtain⟨m,hm⟩:=cell_of_shapedOpen_int (k:=.i64) (g:=0) (t:=3) (zero:= #[.int .i64 0]) hs (eR (by kernel_rfl)) (by kernel_rfl) rfl (by kernel_rfl) (by kernel_rfl) Tryd.underlying3
 have hm':=hm
 unfold World.cell? at hm'
 unfold World.var?
 rw[hg,Option.bind_some]
 cases hb:W.heap[0]? with
 | none=>simp[hb]at hm'
 | some o=>
  cases o with
  | cells cs c d=>exact⟨cs,Z,fun h=>absurd h (by simp),fun _=>⟨m,by simpa[hb]using hm'⟩⟩
  | _=>simp[hb]at hm'
end Go.Proofs.YtlofbdghppgnbaaDoor
