/- Texts of terms and instructions: plain Lean, the readers, walked. -/
import Derived.Lib.ItoaNum
import Derived.Lib.Split
import Derived.Test.YtdjlfclghdofoaaGreatDoorD
import Derived.Test.YtdjlfclghdofoaaGreatDoorC
import Derived.Test.YtdjlfclghdofoaaGreatDoorS
import Derived.Lib.ParseIntBTie
import Derived.WalkKit
import Derived.Deep.QuietTactic
import Derived.BigQuiet
import Derived.Test.YtdjlfclghdofoaaGreatDoorH
set_option linter.unusedVariables false
set_option linter.unusedSimpArgs false
set_option maxRecDepth 10000
set_option maxHeartbeats 4000000
open Go.Proofs
/- Terms as texts, in plain Lean: what is written, what is read, and that a written term is read back. -/
namespace Go.Al
variable{L:Nat}(h1:4096≤L)(h2:L≤1073741824)
open Go.Lib
abbrev bQ:=List UInt8
def rK(b:UInt8):Bool:=decide (48≤b.toNat)&&decide (b.toNat≤57)
theorem fd{d:Nat}(h:d<10):(UInt8.ofNat (48+d)).toNat=48+d:=by
 rw[UInt8.toNat_ofNat'];omega
theorem iN{m k:Nat}(h:m<10^(k+1)):nDigits m≤k+1:=by
 induction k generalizing m with
 | zero=>rw[nDigits_small (by simpa using h)];exact cJ _
 | succ k ih=>
  by_cases hm:m<10
  rw[nDigits_small hm];omega
  rw[nDigits_big hm]
  have:=ih (m:=m/10) (by rw[Nat.pow_succ]at h;omega)
  omega
theorem f9(m:Nat):decDigits m≠[]:=by
 rw[decDigits];split<;>simp
theorem fq(m:Nat): ∀b∈decDigits m,rK b=true:=by
 induction m using Nat.strongRecOn with
 | _ m ih=>
  intro b hb
  rw[decDigits]at hb
  split at hb
  rename_i h
  rw[List.mem_singleton.1 hb];unfold rK;rw[fd h];simp;omega
  rename_i h
  rcases List.mem_append.1 hb with hb|hb
  exact ih (m/10) (by omega) b hb
  rw[List.mem_singleton.1 hb];unfold rK;rw[fd (Nat.mod_lt _ (by decide))];simp;omega
theorem oO(m:Nat)(l:bQ): ∃b r,decDigits m++l=b::r∧rK b=true:=by
 cases h:decDigits m with
 | nil=>exact absurd h (f9 m)
 | cons b r=>exact⟨b,r++l,Z,fq m b (by rw[h];simp)⟩
end Go.Al
/- Terms as texts, in plain Lean: the reference's reader. -/
namespace Go.Al
variable{L:Nat}(h1:4096≤L)(h2:L≤1073741824)
open Go.Lib
end Go.Al
/- Sequents as texts, in plain Lean: cutting and splitting; both readers accept just the written sequents. -/
namespace Go.Al
variable{L:Nat}(h1:4096≤L)(h2:L≤1073741824)
open Go.Lib
def kr(c:UInt8):bQ→List bQ
  | []=>[[]]
  | b::r=>if b=c then[]::kr c r else(b::(kr c r).headD [])::(kr c r).tail
theorem e7(c b:UInt8)(l:bQ):index (b::l) [c]=if b=c then 0 else if index l [c]= -1 then -1 else index l [c]+1:=by
 rw[index]
 by_cases h:b=c
 subst h;simp
 have h2:([c].isPrefixOf (b::l))=false:=by simp[List.isPrefixOf,Ne.symm h]
 rw[h2,if_neg h];simp
theorem lv(c:UInt8): ∀s:bQ,split s [c]=kr c s
 | []=>by
  have:index ([]:bQ) [c]= -1:=rfl
  unfold split
  rw[count_miss this];rfl
 | b::l=>by
  have ih:=lv c l
  unfold split at ih ⊢
  have hi:=e7 c b l
  by_cases h:b=c
  rw[if_pos h]at hi
  rw[count_hit (i:=0) (by simp) (by rw[hi];rfl),Nat.add_comm 1,splitK,hi,kr,if_pos h]
  simp only[show((0:Int)== -1)=false from Z]
  simp only[Bool.false_eq_true,if_false]
  simp[ih]
  rw[if_neg h]at hi
  rw[kr,if_neg h]
  by_cases h2:index l [c]= -1
  rw[if_pos h2]at hi
  rw[count_miss hi]
  rw[count_miss h2]at ih
  rw[←ih];rfl
  rw[if_neg h2]at hi
  have hge:=index_ge l [c]
  obtain⟨i,hi2⟩: ∃i:Nat,index l [c]=i:=⟨(index l [c]).toNat,by omega⟩
  rw[hi2]at hi
  rw[count_hit (i:=i) (by simp) hi2,Nat.add_comm 1,splitK,hi2]at ih
  rw[count_hit (i:=i+1) (by simp) (by rw[hi];rfl),Nat.add_comm 1,splitK,hi]
  have e1:((i:Int)== -1)=false:=by rw[beq_eq_false_iff_ne];omega
  have e2:(((i:Int)+1)== -1)=false:=by rw[beq_eq_false_iff_ne];omega
  rw[e1]at ih
  rw[e2]
  simp only[Bool.false_eq_true,if_false,Int.toNat_natCast,Nat.add_zero]at ih ⊢
  rw[←ih]
  have e3:((i:Int)+1).toNat=i+1:=by omega
  simp[e3]
theorem mz{c:UInt8}: ∀{p:bQ} (r:bQ),c ∉ p→kr c (p++c::r)=p::kr c r
 | [],r,_=>by rw[List.nil_append,kr,if_pos Z]
 | b::p,r,h=>by
  rw[List.cons_append,kr,if_neg (fun e=>h (by rw[e];exact List.mem_cons_self ..)),mz r (fun hh=>h (List.mem_cons_of_mem _ hh))]
  rfl
def ct(c:UInt8):List bQ→bQ
  | []=>[]
  | p::r=>p++c::ct c r
theorem kN{c:UInt8}: ∀{ps:List bQ},(∀p∈ps,c ∉ p)→kr c (ct c ps)=ps++[[]]
 | [],_=>rfl
 | p::r,h=>by
  rw[ct,mz _ (h p (List.mem_cons_self ..)),kN (fun q hq=>h q (List.mem_cons_of_mem _ hq))];rfl
theorem kM(c:UInt8): ∀s:bQ,∃ps q,kr c s=ps++[q]∧s=ct c ps++q∧c ∉ q∧∀p∈ps,c ∉ p
 | []=>⟨[],[],rfl,rfl,by simp,by simp⟩
 | b :: r=>by
  obtain⟨ps,q,h1,h2,h3,h4⟩:=kM c r
  rw[kr]
  by_cases h:b=c
  rw[if_pos h,h1]
  exact⟨[]::ps,q,Z,by rw[h2,h];rfl,h3,by simpa using h4⟩
  rw[if_neg h,h1]
  cases ps with
  | nil=>exact⟨[],b::q,Z,by rw[h2];rfl,by simp only[List.mem_cons,not_or];exact⟨Ne.symm h,h3⟩,by simp⟩
  | cons p ps=>
   refine⟨(b::p)::ps,q,Z,by rw[h2];rfl,h3,?_⟩
   intro x hx
   rcases List.mem_cons.1 hx with rfl|hx
   simp only[List.mem_cons,not_or];exact⟨Ne.symm h,h4 p (List.mem_cons_self ..)⟩
   exact h4 x (List.mem_cons_of_mem _ hx)
abbrev bB:bQ:=[61,62]
section
variable{T:Type}(tx:T→bQ)(ok:T→Bool)(rd:bQ→Option T)
variable{tx ok rd}
end
end Go.Al
/- Terms and sequents as texts: what both readers accept. -/
namespace Go.Al
variable{L:Nat}(h1:4096≤L)(h2:L≤1073741824)
open Go.Lib
abbrev fz(s:bQ):A:=.c (.d (sD s))
theorem p9{m:Nat}(h:m<100000000000000000000):(Lib.decDigits m).length≤20:=by
 rw[Lib.decDigits_eq,cV,List.length_range]
 exact iN (k:=19) (by omega)
end Go.Al
/- What three functions of Go's library answer, as contracts of the abstract logic. -/
namespace Go.Al
variable{L:Nat}(h1:4096≤L)(h2:L≤1073741824)
theorem lP{w:World}{k:Nat}{os:Array Obj}:Frame w (Go.Sort.grow (w.drewN k) os) []:=by
 refine⟨Z,Z,Z,?_,fun b hb _=>?_⟩
 show w.heap.size≤(w.heap++os).size
 rw[Array.size_append];omega
 show(w.heap++os)[b]? = w.heap[b]?
 exact Array.getElem?_append_left hb
theorem ix{P:Program}{L f:Nat}{args:List A}{v:A}(hc:eJ P f)
    (h: ∀(w:World) (ok:Nat→Prop) (m:Nat→Loc) (vs:List Value),GOk P w ok→RAs L w ok m args vs→Calls P f vs.toArray w (jQ fun x w'=>Frame w w' []∧∀ok' m',(∀b,w.heap.size≤b→ok' b)→RA L w' ok' m' v x)):MC P L f args [] (Plain v):=by
 refine⟨hc,fun w m F ok vs h0 h1 h2 h3 h4 h5=>?_⟩
 cases h1
 refine Calls.mono (h w ok m vs h0 h5) fun e w' he=>?_
 cases e with
 | returned x=>
  obtain⟨hf,hx⟩:=he
  exact⟨v,[],m,[],⟨Z,Z⟩,.nil,List.nodup_nil,(by simp),hx _ _ (fun b hb=>⟨by simp,.inr (.inl hb)⟩),hf,fun _ _ _=>rfl,h4⟩
 | _=>exact he
theorem RA.str_inv{L w ok m}{s:ByteArray}{x:Value}(h:RA L w ok m (.c (.d (.str s))) x):x= .string s∧s.size≤L:=by
 cases h with|c h=>cases h with|d h=>cases h with|str h=>exact⟨rfl,h⟩
theorem gP{L w ok m}{k:IntKind}{n:Int}{x:Value}(h:RA L w ok m (.c (.d (.int k n))) x):x= .int k n:=by
 cases h with|c h=>cases h with|d h=>cases h with|int h1 h2=>rfl
theorem GOk.tab{P:Program}{w:World}{ok:Nat→Prop}(h:GOk P w ok){g:Nat}(hg:P.globalNamed "internal/strconv.uint64pow10" = some g):Lib.TabIs P w "internal/strconv.uint64pow10" .u64 Lib.pow10Tab:=by
 obtain⟨_,cs,h1,h2⟩:=h "internal/strconv.uint64pow10" g (by simp[GN]) hg
 rw[GF.tab h2 Z]at h1
 exact h1
theorem GOk.maxLen{P:Program}{w:World}{ok:Nat→Prop}(h:GOk P w ok){g:Nat}(hg:P.globalNamed "internal/bytealg.MaxLen" = some g): ∃m,w.cell? ⟨g,0,none⟩=some (.int .i64 m):=by
 obtain⟨_,cs,h1,h2⟩:=h "internal/bytealg.MaxLen" g (by simp[GN]) hg
 obtain⟨m,hm⟩:=GF.len h2 rfl
 refine⟨m,?_⟩
 unfold World.var? at h1
 rw[hg,Option.bind_some]at h1
 split at h1
 rename_i cs' _ _ hb
 cases h1
 simp[World.cell?,hb,hm]
 cases h1
theorem tl{n:Int}(hn0: -9223372036854775808≤n)(hn1:n≤9223372036854775807):MQ h1 h2 110 [eI n,eI 10] [] (Plain (fz (Lib.itoa n))):=by
 refine ix ⟨_,_,Tryz.func110,by kernel_rfl,Z⟩ fun w ok m vs h0 h5=>?_
 cases h5 with
 | cons a1 a2=>cases a2 with
  | cons a3 a4=>
   cases a4
   rw[gP a1,gP a3]
   refine Calls.mono (Tryz.strconv_FormatInt_10 n hn0 hn1 w (h0.tab (g:=1) (by kernel_rfl))) fun e w' ⟨he,k,os,hw⟩=>?_
   subst he hw
   refine⟨lP,fun ok' m' _=>.c (.d (.str ?_))⟩
   show(bS (Lib.itoa n)).size≤L
   rw[bE]
   have hd: ∀m:Nat,m≤9223372036854775808→(Lib.decDigits m).length≤20:=fun m hm=>p9 (by omega)
   unfold Lib.itoa
   split
   ·
    have:=hd n.natAbs (by omega);rw[jN];omega
   ·
    have:=hd n.toNat (by omega);omega
theorem fQ(s:bQ):(bS s).data.toList=s:=by simp[bS]
theorem mJ(s sep:bQ):(Lib.cut s sep).1.length≤s.length∧(Lib.cut s sep).2.1.length≤s.length:=by
 unfold Lib.cut
 split
 exact⟨by rw[List.length_take];omega,by rw[List.length_drop];omega⟩
 exact⟨cJ _,fK _⟩
theorem tu{s sep:bQ}:MQ h1 h2 48 [fz s,fz sep] [] (Plain (.tup [fz (Lib.cut s sep).1,fz (Lib.cut s sep).2.1,eB (Lib.cut s sep).2.2])):=by
 refine ix ⟨_,_,Tryz.func48,by kernel_rfl,Z⟩ fun w ok m vs h0 h5=>?_
 cases h5 with
 | cons a1 a2=>cases a2 with
  | cons a3 a4=>
   cases a4
   obtain⟨rfl,l1⟩:=a1.str_inv
   obtain⟨rfl,l2⟩:=a3.str_inv
   obtain⟨k,hk⟩:=h0.maxLen (g:=0) (by kernel_rfl)
   rw[bE]at l1
   refine Calls.mono (Tryz.strings_Cut (bS s) (bS sep) k w (by rw[bE];omega) hk) fun e w' ⟨he,j,hw⟩=>?_
   subst he hw
   have hl:=mJ s sep
   refine⟨⟨Z,Z,Z,cJ _,fun _ _ _=>rfl⟩,fun ok' m' _=>?_⟩
   rw[fQ,fQ]
   refine .tup (.cons (.c (.d (.str ?_))) (.cons (.c (.d (.str ?_))) (.cons (.c (.d .bool)) .nil)))
   ·
    show(bS _).size≤L;rw[bE];omega
   ·
    show(bS _).size≤L;rw[bE];omega
theorem iL{sep:bQ}: ∀{k:Nat} {s:bQ},∀p∈Lib.splitK sep 0 k s,p.length≤s.length
 | 0,s,p,hp=>by rw[List.mem_singleton.1 hp];exact cJ _
 | k+1,s,p,hp=>by
  rw[Lib.splitK]at hp
  split at hp
  rw[List.mem_singleton.1 hp];exact cJ _
  rcases List.mem_cons.1 hp with rfl|hp
  rw[List.length_take];omega
  have:=iL p hp
  rw[List.length_drop]at this;omega
abbrev strs(ss:List bQ):D:=.slc 1 (ss.map fun p=>[sD p])
theorem k6{L:Nat}{w:World}{ok:Nat→Prop}{b:Nat}: ∀{ss:List bQ} {o:Nat},(∀p∈ss,p.length≤L)→(∀j p,ss[j]? = some p→w.cell? ⟨b,o+j,none⟩=some (.string (bS p)))→RDs L w ok (ss.map fun p=>[sD p]).flatten b o []
 | [],o,_,_=>.nil
 | p::r,o,h1,h2=>by
  simp only[List.map_cons,List.flatten_cons,List.singleton_append]
  refine .cons (F1:=[]) (F2:=[]) (h2 0 p Z) (.str (by rw[bE];exact h1 p (List.mem_cons_self ..))) (k6 (fun q hq=>h1 q (List.mem_cons_of_mem _ hq)) fun j q hq=>?_)
  have:=h2 (j+1) q hq
  rwa[show o+1+j=o+(j+1) by omega]
theorem tq{s sep:bQ}(hne:sep≠[])(hl:(Lib.split s sep).length≤L):MQ h1 h2 77 [fz s,fz sep] [] (Plain (.c (.d (strs (Lib.split s sep))))):=by
 refine ix ⟨_,_,Tryz.func77,by kernel_rfl,Z⟩ fun w ok m vs h0 h5=>?_
 cases h5 with
 | cons a1 a2=>cases a2 with
  | cons a3 a4=>
   cases a4
   obtain⟨rfl,l1⟩:=a1.str_inv
   obtain⟨rfl,l2⟩:=a3.str_inv
   obtain⟨k,hk⟩:=h0.maxLen (g:=0) (by kernel_rfl)
   rw[bE]at l1
   refine Calls.mono (Tryz.strings_Split (bS s) (bS sep) k w (by rw[bE];omega) hk (by rw[bE];exact List.length_pos_iff.2 hne)) fun e w' ⟨he,hw⟩=>?_
   subst he hw
   have hd:=Lib.splitB_data (bS sep) 0 (Lib.countB (bS s) (bS sep)) (bS s)
   have hc:Lib.countB (bS s) (bS sep)=Lib.count s sep:=by show Lib.count (bS s).data.toList (bS sep).data.toList=_;rw[fQ,fQ]
   rw[hc]at hd ⊢
   rw[fQ,fQ]at hd
   have hd2:Lib.splitB (bS sep) 0 (Lib.count s sep) (bS s)=(Lib.split s sep).map bS:=by
    have:=congrArg (List.map bS) hd
    rw[List.map_map]at this
    rw[show(Lib.split s sep)=Lib.splitK sep 0 (Lib.count s sep) s from Z,←this]
    conv=>lhs;rw[←List.map_id (Lib.splitB (bS sep) 0 (Lib.count s sep) (bS s))]
    exact List.map_congr_left fun x _=>(qe x).symm
   have hall:=Lib.splitB_all (bS sep) (by rw[bE];exact List.length_pos_iff.2 hne) 0 _ (bS s) Z
   rw[hc,hd2,cV]at hall
   refine⟨⟨Z,Z,Z,by show w.heap.size≤(w.heap.push _).size;rw[Array.size_push];omega,fun b hb _=>by show(w.heap.push _)[b]? = _;rw[Array.getElem?_push,if_neg (by omega)]⟩,fun ok' m' hok=>.c (.d ?_)⟩
   rw[hd2,←hall]
   rw[show(Lib.split s sep).length=((Lib.split s sep).map fun p=>[sD p]).length by rw[cV]]
   refine .slc (by rw[cV];exact hl) (cJ _) (by intro e he;obtain⟨p,_,rfl⟩:=List.mem_map.1 he;rfl) (hok _ (cJ _)) (by show w.heap.size<(w.heap.push _).size;rw[Array.size_push];omega) (k6 (fun p hp=>Nat.le_trans (iL p hp) l1) fun j p hj=>?_)
   rw[Nat.zero_add]
   have hb:(w.alloc (.cells (((Lib.split s sep).map bS).map Value.string).toArray 9)).heap[w.heap.size]? = some (.cells (((Lib.split s sep).map bS).map Value.string).toArray 9):=by
    show(w.heap.push _)[w.heap.size]? = _
    rw[Array.getElem?_push_size]
   rw[cell_of_row _ _ _ _ _ _ hb]
   simp[hj]
theorem qy{n:Int}(hn0: -9223372036854775808≤n)(hn1:n≤9223372036854775807):MQ h1 h2 74 [eI n] [] (Plain (fz (Lib.itoa n))):=by
 refine aF ?_ Z
 refine jB 5 h1 h2 Tryz.func74 Z fun O hF=>?_
 refine ac (js Z (bc (js Z (jf [3,2] Z (aS Z (tl (n:=n) h1 h2 hn0 hn1) 5000 Z (js Z (jf [2] Z (jr ?_))))))))
 refine aO Z ?_
 rfl
end Go.Al
/- Lemmas for the walk of the program's reader of terms. -/
namespace Go.Al
variable{L:Nat}(h1:4096≤L)(h2:L≤1073741824)
open Go.Lib
theorem sf{b:UInt8}{n:Nat}(hn:n<256):((b.toNat:Int)=n)↔b=UInt8.ofNat n:=by
 constructor
 intro h
 apply UInt8.toNat_inj.1
 rw[UInt8.toNat_ofNat'];omega
 rintro rfl
 rw[UInt8.toNat_ofNat'];omega
theorem uz{x:Bool}{p:Prop}(h:x=false)(hx:x=true↔p): ¬p:=fun hp=>by rw[hx.2 hp]at h;cases h
end Go.Al
/- Lemmas for the walk of the reference's reader of terms. -/
namespace Go.Al
variable{L:Nat}(h1:4096≤L)(h2:L≤1073741824)
open Go.Lib
end Go.Al
/- Lemmas for the walks of both readers of sequents. -/
namespace Go.Al
variable{L:Nat}(h1:4096≤L)(h2:L≤1073741824)
open Go.Lib
theorem my(c:UInt8): ∀s:bQ,(kr c s).length≤s.length+1
 | []=>cJ _
 | b::r=>by
  have ih:=my c r
  rw[kr]
  split
  simp only[jN];omega
  simp only[jN,List.length_tail];omega
theorem uE{f:bQ}(h:f≠[]):f[((f.length:Int)-1).toNat]? = some (f.getD (f.length-1) 0):=by
 have hl:=List.length_pos_iff.2 h
 rw[show((f.length:Int)-1).toNat=f.length-1 by omega,List.getElem?_eq_getElem (by omega)]
 simp[show f.length-1<f.length by omega]
theorem rT{f:bQ}(h:((!decide (f=[]))==true)=true):f≠[]:=by simpa using h
theorem qU{f:bQ}(h:((!decide (f=[]))==true)=true):(0:Int)≤(f.length:Int)-1:=by
 have:=List.length_pos_iff.2 (rT h);omega
end Go.Al
/- Numbers read from their decimal texts; nodes and proofs read from their texts: plain Lean. -/
namespace Go.Al
variable{L:Nat}(h1:4096≤L)(h2:L≤1073741824)
open Go.Lib
theorem pN(m:Nat): ∀(acc:Nat) (r:bQ),acc*10^nDigits m+m≤1000000000000000000→parseUintM 18446744073709551615 acc (decDigits m++r)=parseUintM 18446744073709551615 (acc*10^nDigits m+m) r:=by
 induction m using Nat.strongRecOn with
 | _ m ih=>
  intro acc r h
  by_cases hm:m<10
  rw[nDigits_small hm]at h ⊢
  rw[decDigits,dif_pos hm,List.singleton_append,parseUintM,fd hm,if_pos (by omega),if_neg (by omega),if_neg (by omega)]
  congr 1;omega
  rw[nDigits_big hm,Nat.pow_succ,←Nat.mul_assoc]at h ⊢
  have hd:m%10<10:=Nat.mod_lt _ (by decide)
  rw[decDigits,dif_neg hm,dD,List.singleton_append,ih (m/10) (by omega) acc _ (by omega),parseUintM,fd hd,if_pos (by omega),if_neg (by omega),if_neg (by omega)]
  congr 1;omega
theorem mD{m:Nat}(h:m≤1000000000):parseUintB 64 (decDigits m)= .ok m:=by
 have h1:=pN m 0 [] (by omega)
 rw[List.append_nil,Nat.zero_mul,Nat.zero_add]at h1
 unfold parseUintB
 rw[if_neg (f9 m),show 2^64-1=18446744073709551615 from Z,h1];rfl
theorem oF{n:Int}(h: -1000000000≤n∧n≤1000000000):parseIntB 64 (itoa n)= .ok n:=by
 unfold itoa
 by_cases hn:n<0
 rw[if_pos hn,parseIntB_minus,mD (by omega)]
 unfold signedC
 simp only
 rw[if_neg (by simp;omega)]
 congr 1;omega
 rw[if_neg hn]
 obtain⟨b,r,hb,hd⟩:=oO n.toNat []
 rw[List.append_nil]at hb
 have hd':48≤b.toNat∧b.toNat≤57:=by unfold rK at hd;simpa using hd
 have hp:=mD (m:=n.toNat) (by omega)
 rw[hb]at hp
 rw[hb,parseIntB_plain _ _ _ (by omega) (by omega),hp]
 unfold signlessC
 simp only
 rw[if_neg (by simp;omega)]
 congr 1;omega
def lm(s:bQ):Option Int:=match parseIntB 64 s with
  | .ok v=>if(-1000000000≤v∧v≤1000000000)∧itoa v=s then some v else none
  | _=>none
theorem pG(s:bQ)(n:Int):lm s=some n↔(-1000000000≤n∧n≤1000000000)∧s=itoa n:=by
 constructor
 intro h
 unfold lm at h
 split at h
 split at h
 rename_i h2;cases h;exact⟨h2.1,h2.2.symm⟩
 cases h
 cases h
 rintro⟨h,rfl⟩
 unfold lm
 rw[oF h]
 exact if_pos ⟨h,Z⟩
theorem mG{n:Int}(h: -1000000000≤n∧n≤1000000000):(itoa n).length≤11:=by
 have key: ∀m:Nat,m≤1000000000→(decDigits m).length≤10:=fun m hm=>by
  rw[decDigits_eq,cV,List.length_range]
  exact iN (k:=9) (by omega)
 unfold itoa
 split
 have:=key n.natAbs (by omega);rw[jN];omega
 have:=key n.toNat (by omega);omega
end Go.Al
/- Nodes and proofs read from their texts: plain Lean. -/
namespace Go.Al
variable{L:Nat}(h1:4096≤L)(h2:L≤1073741824)
open Go.Lib
def lu:Option Int→Int×Bool
  | none=>(0,false)
  | some n=>(n,true)
structure NdR(x:Nd):Prop where
  kind:x.kind=1∨x.kind=2∨x.kind=3
  fact: -1000000000≤x.fact∧x.fact≤1000000000
  term:x.term.ok=true
  mul: ∀m∈x.mul,-1000000000≤m∧m≤1000000000
abbrev qM(r:Option Int):A:=.tup [eI (lu r).1,eB (lu r).2]
end Go.Al
/- What the program's ReadDecimal answers: strconv.ParseInt, a bound, and the decimal text compared. -/
namespace Go.Al
variable{L:Nat}(h1:4096≤L)(h2:L≤1073741824)
open Go.Proofs Go.RowKit
theorem Frame.below{w w':World}(h:Frame w w' []):Below w.heap.size w w':=⟨h.os,h.tape,h.output,h.size,fun k hk=>h.block k hk (by simp)⟩
theorem Frame.of_below{w w':World}(h:Below w.heap.size w w'):Frame w w' []:=⟨h.os,h.tape,h.output,h.size,fun k hk _=>h.block k hk⟩
theorem GOk.below{P:Program}{w w':World}{ok:Nat→Prop}(h:GOk P w ok)(hb:Below w.heap.size w w'):GOk P w' ok:=h.mono fun b h1 h2=>⟨h2,hb.block b h1⟩
theorem MC.calls{P:Program}{L f:Nat}{args:List A}{v:A}(h:MC P L f args [] (Plain v)){w:World}{ok:Nat→Prop}{vs:List Value}(hg:GOk P w ok)(ha:RAs L w ok (fun _=>.nil) args vs) :
    Calls P f vs.toArray w (jQ fun x w'=>Below w.heap.size w w'∧∃ok' m',RA L w' ok' m' v x):=by
 refine Calls.mono (h.2 w (fun _=>.nil) [] ok vs hg .nil List.nodup_nil (fun b hb=>by cases hb) (fun _ _ _ _ h=>by cases h) ha) fun e w' he=>?_
 cases e with
 | returned x=>
  obtain⟨res,H',m',F',⟨rfl,rfl⟩,_,_,_,hres,hf,_,_⟩:=he
  exact⟨hf.below,_,_,hres⟩
 | _=>exact he.elim
theorem gL{L:Nat}(h1:4096≤L)(h2:L≤1073741824){v:Int}{w:World}{ok:Nat→Prop}(hg:GOk Tryz.prog w ok)(hv: -9223372036854775808≤v∧v≤9223372036854775807) :
    Calls Tryz.prog 68 #[.int .i64 v,.int .i64 (-1000000000),.int .i64 1000000000] w fun e w'=>e= .returned (.bool (bU (-1000000000) 1000000000 v))∧Below w.heap.size w w':=by
 refine Calls.mono ((fh (x:=v) (lo:= -1000000000) (hi:=1000000000) h1 h2).calls hg (vs:=[.int .i64 v,.int .i64 (-1000000000),.int .i64 1000000000]) (.cons (.c (.d (.int hv.1 hv.2))) (.cons (.c (.d (.int (by decide) (by decide)))) (.cons (.c (.d (.int (by decide) (by decide)))) .nil)))) fun e w' he=>?_
 cases e with
 | returned x=>
  obtain⟨hB,_,_,hr⟩:=he
  exact⟨by rw[hr.bool_inv],hB⟩
 | _=>exact he.elim
theorem kd{L:Nat}(h1:4096≤L)(h2:L≤1073741824){v:Int}{w:World}{ok:Nat→Prop}(hg:GOk Tryz.prog w ok)(hv: -9223372036854775808≤v∧v≤9223372036854775807) :
    Calls Tryz.prog 74 #[.int .i64 v] w fun e w'=>e= .returned (.string (bS (Lib.itoa v)))∧Below w.heap.size w w':=by
 refine Calls.mono ((qy (n:=v) h1 h2 hv.1 hv.2).calls hg (vs:=[.int .i64 v]) (.cons (.c (.d (.int hv.1 hv.2))) .nil)) fun e w' he=>?_
 cases e with
 | returned x=>
  obtain⟨hB,_,_,hr⟩:=he
  exact⟨by rw[hr.str_inv.1],hB⟩
 | _=>exact he.elim
theorem kO{s:ByteArray}{w:World}{v:Int}{tp:TypeId}(hP:Calls Tryz.prog 113 #[.string s,.int .i64 10,.int .i64 64] w fun e w'=> ∃p,e= .returned (.tuple #[.int .i64 v,.iface tp p])∧Below w.heap.size w w') :
    Calls Tryz.prog 79 #[.string s] w fun e w'=>e= .returned (.tuple #[.int .i64 0,.bool false])∧Below w.heap.size w w':=by
 go_enter Tryz.func79,Tryz.ntmps79
 go_wp2_with fail
 refine hP.mono fun e W1 ⟨p,he,hB⟩=>?_
 subst he
 go_wp2_with fail
 go_ret2
 exact⟨Z,hB⟩
theorem oB{s:ByteArray}{w:World}{v:Int}(hP:Calls Tryz.prog 113 #[.string s,.int .i64 10,.int .i64 64] w fun e w'=>e= .returned (.tuple #[.int .i64 v,.nilIface])∧Below w.heap.size w w')
    (hI: ∀W1,Below w.heap.size w W1→Calls Tryz.prog 68 #[.int .i64 v,.int .i64 (-1000000000),.int .i64 1000000000] W1 fun e w'=>e= .returned (.bool false)∧Below W1.heap.size W1 w') :
    Calls Tryz.prog 79 #[.string s] w fun e w'=>e= .returned (.tuple #[.int .i64 0,.bool false])∧Below w.heap.size w w':=by
 go_enter Tryz.func79,Tryz.ntmps79
 go_wp2_with fail
 refine hP.mono fun e W1 ⟨he,hB⟩=>?_
 subst he
 go_wp2_with fail
 refine(hI W1 hB).mono fun e W2 ⟨he,hB2⟩=>?_
 subst he
 go_wp2_with fail
 go_ret2
 exact⟨Z,hB.trans (hB2.mono hB.size)⟩
theorem pJ{w:World}{v:Int}{s d:ByteArray}(hs:d=s)(hP:Calls Tryz.prog 113 #[.string s,.int .i64 10,.int .i64 64] w fun e w'=>e= .returned (.tuple #[.int .i64 v,.nilIface])∧Below w.heap.size w w')
    (hI: ∀W1,Below w.heap.size w W1→Calls Tryz.prog 68 #[.int .i64 v,.int .i64 (-1000000000),.int .i64 1000000000] W1 fun e w'=>e= .returned (.bool true)∧Below W1.heap.size W1 w')
    (hD: ∀W1,Below w.heap.size w W1→Calls Tryz.prog 74 #[.int .i64 v] W1 fun e w'=>e= .returned (.string d)∧Below W1.heap.size W1 w') :
    Calls Tryz.prog 79 #[.string s] w fun e w'=>e= .returned (.tuple #[.int .i64 v,.bool true])∧Below w.heap.size w w':=by
 subst hs
 go_enter Tryz.func79,Tryz.ntmps79
 go_wp2_with fail
 refine hP.mono fun e W1 ⟨he,hB⟩=>?_
 subst he
 go_wp2_with fail
 refine(hI W1 hB).mono fun e W2 ⟨he,hB2⟩=>?_
 subst he
 have hB3:=hB.trans (hB2.mono hB.size)
 go_wp2_with fail
 refine(hD W2 hB3).mono fun e W3 ⟨he,hB4⟩=>?_
 subst he
 have hB5:=hB3.trans (hB4.mono hB3.size)
 go_wp2_with fail
 go_ret2
 exact⟨Z,hB5⟩
theorem pI{w:World}{v:Int}{s d:ByteArray}(hs:(!d.toList==s.toList)=true)(hP:Calls Tryz.prog 113 #[.string s,.int .i64 10,.int .i64 64] w fun e w'=>e= .returned (.tuple #[.int .i64 v,.nilIface])∧Below w.heap.size w w')
    (hI: ∀W1,Below w.heap.size w W1→Calls Tryz.prog 68 #[.int .i64 v,.int .i64 (-1000000000),.int .i64 1000000000] W1 fun e w'=>e= .returned (.bool true)∧Below W1.heap.size W1 w')
    (hD: ∀W1,Below w.heap.size w W1→Calls Tryz.prog 74 #[.int .i64 v] W1 fun e w'=>e= .returned (.string d)∧Below W1.heap.size W1 w') :
    Calls Tryz.prog 79 #[.string s] w fun e w'=>e= .returned (.tuple #[.int .i64 0,.bool false])∧Below w.heap.size w w':=by
 go_enter Tryz.func79,Tryz.ntmps79
 go_wp2_with fail
 refine hP.mono fun e W1 ⟨he,hB⟩=>?_
 subst he
 go_wp2_with fail
 refine(hI W1 hB).mono fun e W2 ⟨he,hB2⟩=>?_
 subst he
 have hB3:=hB.trans (hB2.mono hB.size)
 go_wp2_with fail
 refine(hD W2 hB3).mono fun e W3 ⟨he,hB4⟩=>?_
 subst he
 have hB5:=hB3.trans (hB4.mono hB3.size)
 go_wp2_with fail
 go_ret2
 exact⟨Z,hB5⟩
theorem tm{s:bQ}(hs:s.length≤1100000):MQ h1 h2 79 [fz s] [] (Plain (qM (lm s))):=by
 refine ix ⟨_,_,Tryz.func79,by kernel_rfl,Z⟩ fun w ok m vs h0 h5=>?_
 cases h5 with
 | cons a1 a2=>
  cases a2
  obtain⟨rfl,hsL⟩:=RA.str_inv a1
  have hsz:(bS s).size≤1100000:=by rw[bE];exact hs
  have hdl:(bS s).data.toList=s:=fQ s
  have fin: ∀{n:Int} {b:Bool} {e w'},(-9223372036854775808≤n∧n≤9223372036854775807)→e=Ending.returned (.tuple #[.int .i64 n,.bool b])∧Below w.heap.size w w'→qM (lm s)= .tup [eI n,eB b]→jQ (fun x w'=>Frame w w' []∧∀ok' m',(∀b,w.heap.size≤b→ok' b)→RA L w' ok' m' (qM (lm s)) x) e w':=by
   rintro n b e w' hn ⟨rfl,hB⟩ hv
   rw[hv]
   exact⟨.of_below hB,fun ok' m' _=>.tup (.cons (.c (.d (.int hn.1 hn.2))) (.cons (.c (.d .bool)) .nil))⟩
  cases hp:Lib.parseIntB 64 s
  case ok v=>
   have hb:=Lib.parseIntB_bounds hp
   have hb2: -9223372036854775808≤v∧v≤9223372036854775807:=by simp at hb;omega
   have hP:=(Tryz.strconv_ParseInt_10_at64_ok (bS s) (by omega) v (by rw[hdl];exact hp) w).mono (R':=fun e w'=>e= .returned (.tuple #[.int .i64 v,.nilIface])∧Below w.heap.size w w') fun e w' ⟨a,hw⟩=>⟨a,by
    rcases hw with rfl|⟨t,rfl⟩
    ·
     exact Below.refl _ _
    ·
     exact Lib.bytesWorld_below _ _ _⟩
   by_cases hr: -1000000000≤v∧v≤1000000000
   ·
    have hin:bU (-1000000000) 1000000000 v=true:=by unfold bU;simp[hr.1,hr.2]
    have hW:=fun(W1:World) (hB:Below w.heap.size w W1)=>show Calls Tryz.prog 68 #[.int .i64 v,.int .i64 (-1000000000),.int .i64 1000000000] W1 fun e w'=>e= .returned (.bool true)∧Below W1.heap.size W1 w' by have h:=gL h1 h2 (h0.below hB) hb2;rw[hin]at h;exact h
    have hD:=fun(W1:World) (hB:Below w.heap.size w W1)=>kd h1 h2 (h0.below hB) hb2
    have hd:(bS (Lib.itoa v)=bS s)↔Lib.itoa v=s:=⟨fun h=>by have:=congrArg (fun b=>b.data.toList) h;simpa[fQ]using this,fun h=>by rw[h]⟩
    by_cases h9:Lib.itoa v=s
    ·
     refine Calls.mono (pJ (hd.2 h9) hP hW hD) fun e w' he=>fin (by omega) he ?_
     unfold lm
     rw[hp]
     simp only[h9,hr,and_self,if_true];rfl
    ·
     refine Calls.mono (pI (by rw[fV,fV];simp[h9]) hP hW hD) fun e w' he=>fin (by decide) he ?_
     unfold lm
     rw[hp]
     simp only[h9,hr,and_false,if_false];rfl
   ·
    have hin:bU (-1000000000) 1000000000 v=false:=by unfold bU;simp;omega
    refine Calls.mono (oB hP (fun W1 hB=>by have h:=gL h1 h2 (h0.below hB) hb2;rw[hin]at h;exact h)) fun e w' he=>fin (by decide) he ?_
    unfold lm
    rw[hp]
    simp only[hr,false_and,if_false];rfl
  case range=>
   obtain⟨_,cs,hv,hc⟩:=h0 "strconv.ErrRange" 3 (by simp[GN]) (by kernel_rfl)
   obtain⟨ev,he,hev⟩:=ov hc (.inr rfl)
   have hcell:=World.var?_cell (show Tryz.prog.globalNamed "strconv.ErrRange" = some 3 by kernel_rfl) hv 0
   rw[he]at hcell
   refine Calls.mono (kO ((Tryz.strconv_ParseInt_10_at64_range (bS s) (by omega) (by rw[hdl];exact hp) ev w hcell hev).mono fun e w' ⟨N,a,_,_,hB⟩=>⟨_,a,hB⟩)) fun e w' he=>fin (by decide) he (by unfold lm;rw[hp];rfl)
  ·
   obtain⟨_,cs,hv,hc⟩:=h0 "strconv.ErrSyntax" 2 (by simp[GN]) (by kernel_rfl)
   obtain⟨ev,he,hev⟩:=ov hc (.inl rfl)
   have hcell:=World.var?_cell (show Tryz.prog.globalNamed "strconv.ErrSyntax" = some 2 by kernel_rfl) hv 0
   rw[he]at hcell
   refine Calls.mono (kO ((Tryz.strconv_ParseInt_10_at64_syntax (bS s) (by omega) (by rw[hdl];exact hp) ev w hcell hev).mono fun e w' ⟨N,a,_,_,hB⟩=>⟨_,a,hB⟩)) fun e w' he=>fin (by decide) he (by unfold lm;rw[hp];rfl)
end Go.Al
/- Instructions as texts, in plain Lean: what is written, what both readers read. -/
namespace Go.Al
variable{L:Nat}(h1:4096≤L)(h2:L≤1073741824)
open Go.Lib
def qH:List bQ:=[[112,117,115,104],[108,111,97,100],[115,116,111,114,101],[97,100,100],[115,99,97,108,101],[106,117,109,112],[116,101,115,116],[103,101,116],[112,117,116],[101,109,105,116],[99,104,101,99,107],[104,97,108,116]]
def mQ(op:Int):bQ:=qH.getD op.toNat []
def jR(op:Int):Bool:=[(0:Int),1,2,4,5,6,9].contains op
def et(x:In):bQ:=if jR x.op then mQ x.op++[32]++itoa x.a else mQ x.op
def jk(w:bQ):Int:=match qH.findIdx? (fun v=>decide (v=w))with
  | some i=>(i:Int)
  | none=> -1
def rF(s:bQ):In:=⟨jk (cut s [32]).1,if jR (jk (cut s [32]).1)then(lu (lm (cut s [32]).2.1)).1 else 0⟩
def rC(s:bQ):Option In:=if aw (rF s)=true∧et (rF s)=s then some (rF s)else none
theorem f5{x:In}(h:aw x=true):(0≤x.op∧x.op≤11)∧(-1000000000≤x.a∧x.a≤1000000000)∧(jR x.op=false→x.a=0):=by
 have hn: ∀{z:Int},gx z=true→ -1000000000≤z∧z≤1000000000:=fun{z} hz=>by have:=tZ.1 hz;omega
 have hb: ∀{u v z:Int},bU u v z=true→u≤z∧z≤v:=fun{u v z} hz=>by unfold bU at hz;simpa using hz
 unfold aw at h
 split at h
 rename_i h1
 refine⟨by omega,hn h,fun h2=>?_⟩
 rcases h1 with h1|h1<;>(rw[h1]at h2;exact absurd h2 (by decide))
 split at h
 rename_i h1
 have:=hb h
 refine⟨by omega,by omega,fun h2=>?_⟩
 rcases h1 with h1|h1<;>(rw[h1]at h2;exact absurd h2 (by decide))
 split at h
 rename_i h1
 have:=hb h
 refine⟨by omega,by omega,fun h2=>?_⟩
 rcases h1 with h1|h1<;>(rw[h1]at h2;exact absurd h2 (by decide))
 split at h
 rename_i h1
 have:=hb h
 refine⟨by omega,by omega,fun h2=>?_⟩
 rw[h1]at h2;exact absurd h2 (by decide)
 split at h
 rename_i h1
 have:=aB h
 exact⟨by omega,by omega,fun _=>this⟩
 cases h
theorem kS{c:UInt8}: ∀{p:bQ},c ∉ p→index p [c]= -1
 | [],_=>rfl
 | b::p,h=>by
  rw[e7,if_neg (fun e=>h (by rw[e];exact List.mem_cons_self ..)),if_pos (kS (fun hh=>h (List.mem_cons_of_mem _ hh)))]
theorem kT{c:UInt8}(r:bQ): ∀{p:bQ},c ∉ p→index (p++c::r) [c]=p.length
 | [],_=>by rw[List.nil_append,e7,if_pos Z];rfl
 | b::p,h=>by
  have ih:=kT r (fun hh=>h (List.mem_cons_of_mem _ hh)) (p:=p)
  rw[List.cons_append,e7,if_neg (fun e=>h (by rw[e];exact List.mem_cons_self ..)),ih,if_neg (by omega),jN]
  omega
theorem rb{c:UInt8}{p:bQ}(h:c ∉ p):cut p [c]=(p,[],false):=by
 unfold cut
 rw[kS h,if_neg (by omega)]
theorem rc{c:UInt8}{p:bQ}(r:bQ)(h:c ∉ p):cut (p++c::r) [c]=(p,r,true):=by
 unfold cut
 rw[kT r h,if_pos (by omega)]
 simp
theorem fZ{P:Int→Prop}(h: ∀k:Fin 12,P (k.val:Int)){o:Int}(h0:0≤o)(h1:o≤11):P o:=by
 have:=h ⟨o.toNat,by omega⟩
 rwa[show((⟨o.toNat,by omega⟩:Fin 12).val:Int)=o by simp;omega]at this
theorem n9{o:Int}(h0:0≤o)(h1:o≤11):(32:UInt8) ∉ mQ o:=fZ (P:=fun o=>(32:UInt8) ∉ mQ o) (by decide) h0 h1
theorem od{o:Int}(h0:0≤o)(h1:o≤11):jk (mQ o)=o:=fZ (P:=fun o=>jk (mQ o)=o) (by decide) h0 h1
theorem qR{x:In}(h:aw x=true):rF (et x)=x:=by
 obtain⟨⟨h0,h1⟩,h2,h3⟩:=f5 h
 unfold rF et
 cases ha:jR x.op with
 | true=>
  rw[if_pos Z,dD,List.singleton_append,rc _ (n9 h0 h1)]
  simp only[od h0 h1,ha,if_true]
  rw[(pG (itoa x.a) x.a).2 ⟨h2,rfl⟩];rfl
 | false=>
  rw[if_neg (by decide),rb (n9 h0 h1)]
  simp only[od h0 h1,ha]
  have:=h3 ha
  cases x;simp_all
theorem pK(s:bQ)(x:In):rC s=some x↔aw x=true∧s=et x:=by
 unfold rC
 constructor
 intro h
 split at h
 rename_i h2;cases h;exact⟨h2.1,h2.2.symm⟩
 cases h
 rintro⟨h,rfl⟩
 rw[qR h,if_pos ⟨h,rfl⟩]
end Go.Al
/- Annotated code as text, in plain Lean: what is written, what is read. -/
namespace Go.Al
variable{L:Nat}(h1:4096≤L)(h2:L≤1073741824)
open Go.Lib
theorem iF(c:UInt8): ∀(p q:List bQ),ct c (p++q)=ct c p++ct c q
 | [],q=>rfl
 | x::p,q=>by rw[List.cons_append,ct,iF c p q,ct];simp
theorem jE{c:UInt8}{B:Nat}: ∀{ls:List bQ},(∀l∈ls,l.length≤B)→(ct c ls).length≤(B+1)*ls.length
 | [],_=>by simp[ct]
 | l::r,h=>by
  have h1:=jE (c:=c) (ls:=r) fun x hx=>h x (List.mem_cons_of_mem _ hx)
  have h2:=h l (List.mem_cons_self ..)
  rw[ct,cC,jN,jN,Nat.mul_add]
  omega
theorem mE{o:Int}(h0:0≤o)(h1:o≤11):(mQ o).length≤5:=fZ (P:=fun o=>(mQ o).length≤5) (by decide) h0 h1
theorem jY{x:In}(h:aw x=true):(et x).length≤17:=by
 obtain⟨⟨h0,h1⟩,h2,_⟩:=f5 h
 have h3:=mE h0 h1
 have h4:=mG h2
 unfold et
 split
 simp only[cC,gU];omega
 omega
def oY(s:bQ):Prop:=40000<s.length∨(s≠[]∧s.getLast? ≠some 10)
instance(s:bQ):Decidable (oY s):=by unfold oY;infer_instance
abbrev tY(s:bQ):A:=if oY s then .tup [.c (.d (strs [])),eB false]else .tup [.c (.d (strs (kr 10 s).dropLast)),eB true]
theorem mF{f:bQ}(h:f≠[]):f.getLast? = some 10↔((f.getD (f.length-1) 0).toNat:Int)=10:=by
 have hl:=List.length_pos_iff.2 h
 rw[List.getLast?_eq_getElem?,List.getElem?_eq_getElem (by omega),show((f.getD (f.length-1) 0).toNat:Int)=10↔f.getD (f.length-1) 0=10 from sf (n:=10) (by decide)]
 simp[show f.length-1<f.length by omega]
theorem rU{f:bQ}{b:Prop}[Decidable b](hb:f≠[]→(f.getLast? = some 10↔b)):(bif decide ((40000:Int)<(f.length:Int))then true else(bif !decide (f=[])then !decide b else false))=true↔oY f:=by
 unfold oY
 by_cases h0:(40000:Int)<(f.length:Int)
 simp[h0,show 40000<f.length by omega]
 by_cases h:f=[]
 simp[h]
 have:=hb h
 by_cases h2:b<;>simp_all<;>omega
theorem tn{s:bQ}(hL:1048576<L)(hs:s.length≤1048576):MQ h1 h2 35 [fz s] [] (Plain (tY s)):=by
 refine MC.data (jB 27 h1 h2 Tryz.func35 Z fun O hF=>?_)
 refine ac (aa Z (jn (aj (ac (js Z (ae (kY (p:=s) O Z Z Z Z Z Z Z Z Z) Z (aa Z (jf [8,3,2,0] Z (bz 10 Z Z Z (fun hx=>ba hx Z (dz hx (mL (p:=s) (q:=[]) O Z Z Z Z Z Z) Z (ba hx Z (iy 6 Z Z Z Z (fun hx'=>ba hx' Z (ba hx' Z (dz hx' (kY (p:=s) O Z Z Z Z Z Z Z Z Z) Z (dz hx' (vF Z) Z (dz hx' (oR (p:=s) (b:=s.getD (s.length-1) 0) O Z Z Z Z Z Z Z (qU hx') (uE (rT hx'))) Z (ba hx' Z (AN.nil))))))) Z Z (dz hx (aU O Z Z Z Z Z) Z (AN.nil)))))) Z Z ?_)))))))))
 first|refine ae (bq O Z Z Z Z Z) Z ?_|refine ae (Val.pickB O Z Z Z Z Z) Z ?_|refine ae (aU O Z Z Z Z Z) Z ?_
 refine jf [19,3,2,0] Z (jn (ab Z (fun z19=>?_) (fun z19=>?_)))
 refine ac (aa Z (jr ?_))
 refine aO Z ?_
 have hyes:oY s:=(rU fun h=>mF h).1 z19
 rw[show tY s=_ from if_pos hyes]
 exact .tup (.cons (.c .nils) (.cons (.c .d) .nil))
 refine al (ac ?_)
 have hno: ¬oY s:=uz z19 (rU fun h=>mF h)
 have hQ0:=my 10 s
 obtain⟨Q,q0,hQ,_,_,_⟩:=kM 10 s
 refine js Z (jf [20,3,2,0] Z (af O Z Z Z Z ((tq (s:=s) (sep:=[10]) h1 h2 (by simp) (by rw[lv];omega)).plain (v:=_) (u:=.c (.d (strs (kr 10 s)))) (by rw[lv])) (ak Z) Z Z Z Z (B0:=22000) Z Z (js Z (jf [4,3,2,0] Z (bc ?_)))))
 rw[hQ]
 have hQl:(Q++[q0]).length=Q.length+1:=by simp
 rw[hQ]at hQ0
 refine aa Z (ae ((bF O Z Z Z Z Z Z Z Z).cast (v':=eI (Q.length+1:Nat)) (by rw[hQl])) Z (ae ((ah O Z Z (by omega) (by omega)).cast (v':=eI (Q.length:Nat)) (congrArg eI (by omega))) Z (ae (l3 (a:=0) (b:=Q.length) (ys:=Q.map fun p=>[sD p]) O Z Z Z Z Z Z Z Z Z Z (by simp[nat?]) ⟨fK _,by simp⟩ (by simp)) Z (aa Z (jf [3,2,0] Z (jr ?_))))))
 refine aO Z ?_
 rw[show tY s=_ from if_neg hno,hQ,List.dropLast_concat]
 exact .tup (.cons (.c .d) (.cons (.c .d) .nil))
end Go.Al
/- Annotated code as text: what a text that is no list of lines comes to. -/
namespace Go.Al
variable{L:Nat}(h1:4096≤L)(h2:L≤1073741824)
open Go.Lib
end Go.Al
