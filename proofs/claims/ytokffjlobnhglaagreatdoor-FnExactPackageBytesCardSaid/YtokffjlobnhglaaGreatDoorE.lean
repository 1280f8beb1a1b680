/- Texts of bh, nodes, instructions and annotated code: plain Lean, the writers of both sides, walked. -/
import Derived.Lib.ItoaNum
import Derived.Lib.Split
import Derived.Test.YtokffjlobnhglaaGreatDoorH
import Derived.Test.YtokffjlobnhglaaGreatDoorC
import Derived.Test.YtokffjlobnhglaaGreatDoorS
import Derived.WalkKit
import Derived.Deep.QuietTactic
import Derived.BigQuiet
set_option linter.unusedVariables false
set_option linter.unusedSimpArgs false
set_option maxRecDepth 10000
set_option maxHeartbeats 4000000
open Go.Proofs
/- Terms as texts, in plain Lean: what is written, what is read, and that a written term is read back. -/
namespace Go.Al
variable{L:Nat}(h1:4096≤L)(h2:L≤1073741824)
open Go.Lib
abbrev Str:=List UInt8
def lV(i:Nat):UInt8:=UInt8.ofNat (97+i)
def cT(out:Str)(n:Int):Str:=if n<0 then[45]else if out=[]then[]else[43]
def tC(out:Str)(i:Nat)(c:Int):Str:=if c=0 then out else out++cT out c++(if c.natAbs=1 then[]else decDigits c.natAbs)++[lV i]
def tX:Nat→List Int→Str→Str
  | _,[],out=>out
  | i,c::r,out=>tX (i+1) r (tC out i c)
def tK(out:Str)(c:Int):Str:=if c=0 then out else out++cT out c++decDigits c.natAbs
def tZ(out:Str):Str:=if out=[]then[48]else out
def rX(c:Int)(xs:List Int):Str:=tZ (tK (tX 0 xs []) c)

theorem fm{m k:Nat}(h:m<10^(k+1)):nDigits m≤k+1:=by
 induction k generalizing m with
 | zero=>rw[nDigits_small (by simpa using h)];exact cw _
 | succ k ih=>
  by_cases hm:m<10
  rw[nDigits_small hm];omega
  rw[nDigits_big hm]
  have:=ih (m:=m/10) (by rw[Nat.pow_succ]at h;omega)
  omega
theorem oD{i:Nat}(h:i<10):(lV i).toNat=97+i:=by
 unfold lV;rw[UInt8.toNat_ofNat'];omega
end Go.Al
/- Terms as texts, in plain Lean: the reference's reader. -/
namespace Go.Al
variable{L:Nat}(h1:4096≤L)(h2:L≤1073741824)
open Go.Lib
end Go.Al
/- Sequents as texts, in plain Lean: cutting and splitting; both readers accept just the written sequents. -/
namespace Go.Al
variable{L:Nat}(h1:4096≤L)(h2:L≤1073741824)
open Go.Lib
def bb(c:UInt8):List Str→Str
  | []=>[]
  | p::r=>p++c::bb c r
abbrev bq:Str:=[61,62]
section
variable{T:Type}(tx:T→Str)(ok:T→Bool)(rd:Str→Option T)
variable{tx ok rd}
end
end Go.Al
/- Terms and sequents as texts: what both readers accept. -/
namespace Go.Al
variable{L:Nat}(h1:4096≤L)(h2:L≤1073741824)
open Go.Lib
abbrev tS(t:Tm):Str:=rX t.c t.xs
theorem lH{n:Int}(h:gL n=true):n.natAbs≤1000000:=by
 have:=rV.1 h;omega
theorem ja{t:Tm}(h:t.ok=true):t.c.natAbs≤1000000∧(∀x∈t.xs,x.natAbs≤1000000)∧t.xs.length≤10:=by
 obtain⟨h1,h2,h3,_⟩:=tk.1 h
 exact⟨lH h1,fun x hx=>lH (List.all_eq_true.1 h2 x hx),h3⟩
theorem dN{m:Nat}(h:m≤1000000):(decDigits m).length≤7:=by
 rw[decDigits_eq,cS,List.length_range]
 exact fm (k:=6) (by omega)
theorem pM{out:Str}{i:Nat}{c:Int}(h:c.natAbs≤1000000):(tC out i c).length≤out.length+9:=by
 unfold tC
 split
 omega
 have h1:(cT out c).length≤1:=by
  unfold cT
  split
  simp
  split<;>simp
 have h2:(if c.natAbs=1 then[]else decDigits c.natAbs).length≤7:=by
  split
  simp
  exact dN h
 simp only[bn,n5];omega
theorem kF: ∀{xs:List Int} {i:Nat} {out:Str},(∀x∈xs,x.natAbs≤1000000)→(tX i xs out).length≤out.length+9*xs.length
 | [],i,out,_=>by simp[tX]
 | c::r,i,out,h=>by
  rw[tX]
  have h1:=kF (i:=i+1) (out:=tC out i c) (fun x hx=>h x (List.mem_cons_of_mem _ hx))
  have h2:=pM (out:=out) (i:=i) (h c (List.mem_cons_self ..))
  simp only[dV];omega
theorem jg: ∀(xs:List Int) (i:Nat) (c:Int) (out:Str),tX i (xs++[c]) out=tC (tX i xs out) (i+xs.length) c
 | [],i,c,out=>by simp[tX]
 | x::r,i,c,out=>by
  rw[List.cons_append,tX,jg r,tX,dV,show i+1+r.length=i+(r.length+1) by omega]
theorem nb{out:Str}{c:Int}(h:c.natAbs≤1000000):(tK out c).length≤out.length+8:=by
 unfold tK
 split
 omega
 have h1:(cT out c).length≤1:=by
  unfold cT
  split
  simp
  split<;>simp
 have h2:=dN h
 simp only[bn];omega
theorem pK{t:Tm}(h:t.ok=true):(tS t).length≤100:=by
 obtain⟨h1,h2,h3⟩:=ja h
 have h4:=kF (i:=0) (out:=[]) h2
 have h5:=nb (out:=tX 0 t.xs []) h1
 unfold tS rX tZ
 split
 decide
 simp only[List.length_nil]at h4;omega
abbrev bk(s:Str):A:=.c (.d (sD s))
theorem lL{m:Nat}(h:m<100000000000000000000):(Lib.decDigits m).length≤20:=by
 rw[Lib.decDigits_eq,cS,List.length_range]
 exact fm (k:=19) (by omega)
def gy(m:Int):Str:=if m<0 then Lib.decDigits m.natAbs else[]
theorem na{m:Int}(h:m<0):m.tdiv 10= -((m.natAbs/10:Nat):Int)∧m.tmod 10= -((m.natAbs%10:Nat):Int):=by
 obtain⟨k,hk⟩: ∃k:Nat,m= -(k:Int):=⟨m.natAbs,by omega⟩
 subst hk
 rw[Int.neg_tdiv,Int.neg_tmod,Int.natAbs_neg,Int.natAbs_natCast]
 exact⟨by rw[show(10:Int)=((10:Nat):Int)from Z,←Int.ofNat_tdiv],by rw[show(10:Int)=((10:Nat):Int)from Z,←Int.ofNat_tmod]⟩
theorem mh{m:Int}(h:m<0):gy m=gy (m.tdiv 10)++[UInt8.ofNat (48-m.tmod 10).toNat]:=by
 have e1:(m.tdiv 10).natAbs=m.natAbs/10:=by rw[Int.natAbs_tdiv];rfl
 have h3:=na h
 have e2:(48-m.tmod 10).toNat=48+m.natAbs%10:=by omega
 unfold gy
 rw[if_pos h,Lib.decDigits,e1,e2]
 by_cases h2:m.natAbs<10
 rw[dif_pos h2,if_neg (by omega),Nat.mod_eq_of_lt h2];rfl
 rw[dif_neg h2,if_pos (by omega)]
theorem nA{n:Int}(h:0<n):Lib.itoa n=gy (-n):=by
 unfold Lib.itoa gy
 rw[if_neg (by omega),if_pos (by omega)]
 congr 1;omega
theorem ml:Lib.itoa 0=[48]:=by
 unfold Lib.itoa
 rw[if_neg (by decide),Lib.decDigits,dif_pos (by decide)];rfl
theorem nB{n:Int}(h:n<0):Lib.itoa n=45::gy n:=by
 unfold Lib.itoa gy
 rw[if_pos h,if_pos h]
theorem jX{n:Int}(h: -9223372036854775808≤n):(gy n).length≤20:=by
 unfold gy
 split
 exact lL (by omega)
 simp
theorem eC{n:Int}(h0:0≤n)(h1:n≤255):IntKind.u8.wrap n=n:=eA _ _ h0 h1
theorem pI{n:Int}(h0:0≤n)(h1:n≤255):((UInt8.ofNat n.toNat).toNat:Int)=n:=by
 rw[UInt8.toNat_ofNat'];omega
variable{n:Int}
theorem lz(hn0: -9223372036854775807≤n)(hn1:n≤9223372036854775807):MQ h1 h2 68 [eI n] [] (Plain (bk (Lib.itoa n))):=by
 refine ac ?_ Z
 refine jB 29 h1 h2 Tryz.func68 Z fun O hF=>?_
 refine ab (js Z (jn (af (ab (aa Z (jn (al Z (fun z6=>?_) (fun z6=>?_))))))))
 refine ab (js Z (jr ?_))
 refine am Z ?_
 have h0:n=0:=bK z6
 rw[h0,ml];rfl
 refine ae (ab (aa Z (jf [3,5,2,0] Z (jn (af (ab (aa Z (jn ?_))))))))
 have hne:n≠0:=ce z6
 obtain⟨N,hN⟩: ∃N:Int,N=if 0<n then -n else n:=⟨_,rfl⟩
 have hN2:N<0∧ -9223372036854775808≤N:=by rw[hN];split<;>omega
 refine bJ ⟨[(0,eI n),(3,eI N)],[]⟩ ?_ ?_
 refine al Z (fun z9=>?_) (fun z9=>?_)
 refine ag (js Z (ji Z (js Z (jf [3,8,5,2,0] Z (jn ?_)))))
 exact⟨Z,Ent.to ⟨Z,congrArg (fun z=>some (eI z)) (show 0-n=N by rw[hN,if_pos (bK z9)];omega),ao⟩ Z⟩
 refine ae ?_
 exact⟨Z,Ent.to ⟨Z,congrArg (fun z=>some (eI z)) (show n=N by rw[hN,if_neg (ce z9)]),ao⟩ Z⟩
 refine ab (js Z (jn (af (ak (aq (X:=Int×Str) (fun z=>⟨[(0,eI n),(3,eI z.1),(4,bk z.2)],[]⟩) (fun z=>z.1≤0∧ -9223372036854775808≤z.1∧gy N=gy z.1++z.2) (fun z=>z.1.natAbs) (N,[]) (Ent.to ⟨Z,Z,Z,ao⟩ Z) ?_ (fun z hi=>?_))))))
 exact⟨by show N≤0;omega,hN2.2,by simp⟩
 refine af (ab (aa Z (jn (al Z (fun z13=>?_) (fun z13=>?_)))))
 refine ae (ak (ab (js Z ?_)))
 have hz:z.1<0:=bK z13
 have h3:=na hz
 have hr: -9≤z.1.tmod 10∧z.1.tmod 10≤0:=by omega
 have hlen:z.2.length≤20:=by have h:=jX hN2.2;rw[hi.2.2,bn]at h;omega
 refine ah (cz O Z Z Z Z (by decide) (by omega) (by omega)) Z (ah (aP O Z Z (by omega) (by omega)) Z (ah ((Val.conv (b:=true) (dt:=.int .i64) O Z Z Z (by kernel_rfl) (by kernel_rfl)).cast (v':=.c (.d (.int .u8 ((UInt8.ofNat (48-z.1.tmod 10).toNat).toNat:Int)))) (by rw[eC (by omega) (by omega),pI (by omega) (by omega)])) Z (jf [17,13,12,0,3,4] Z (bC (bt O Z Z Z Z Z Z Z Z Z Z Z) Z (aW ?_)))))
 refine ah (dS (p:=[UInt8.ofNat (48-z.1.tmod 10).toNat]) O Z Z Z (.whole Z Z (.inl (fN _))) Z Z (by kernel_rfl) (by kernel_rfl)) Z (js Z (ah (aw (p:=[UInt8.ofNat (48-z.1.tmod 10).toNat]) (q:=z.2) O Z Z Z Z Z Z (by show 1+z.2.length≤L;omega) (by show L≤_;omega)) Z (js Z (jf [4,13,12,0,3] Z (jn (ag (js Z (ah (f9 O Z Z Z Z (by decide) (by omega) (by omega)) Z (js Z (jf [3,4,13,12,0] Z (jn ?_)))))))))))
 refine⟨(z.1.tdiv 10,UInt8.ofNat (48-z.1.tmod 10).toNat::z.2),(aE [] (e':=[(0,_),(3,_),(4,_)]) Z Z ⟨Z,Z,Z,ao⟩ Z),⟨by show z.1.tdiv 10≤0;omega,by show -9223372036854775808≤z.1.tdiv 10;omega,?_⟩,by show(z.1.tdiv 10).natAbs<z.1.natAbs;omega⟩
 rw[hi.2.2,mh hz];simp
 refine aL (af (ab (js Z ?_)))
 have hz0:z.1=0:=by have:=ce z13;omega
 have hp:=hi.2.2
 rw[hz0,show gy 0=[]from Z,List.nil_append]at hp
 have hlen:z.2.length≤20:=by have h:=jX hN2.2;rw[hp]at h;exact h
 refine js Z (jn (al Z (fun z25=>?_) (fun z25=>?_)))
 refine ab (js Z (ah (aw (p:=[45]) (q:=z.2) O Z Z Z Z Z Z (by show 1+z.2.length≤L;omega) (by show L≤_;omega)) Z (js Z (jf [2,25,24,13,12,0,3,4] Z (jr ?_)))))
 refine am Z ?_
 have hn:n<0:=bK z25
 rw[nB hn,show n=N by rw[hN,if_neg (by omega)],hp];rfl
 refine ae (ab (aa Z (jr ?_)))
 refine am Z ?_
 have hn: ¬n<0:=ce z25
 rw[nA (by omega),show -n=N by rw[hN,if_pos (by omega)],hp]
def oI(t:Tm)(i:Nat):Str:=if i≤t.xs.length then tX 0 (t.xs.take i) []else tK (tX 0 t.xs []) t.c
def oS(o:Str)(n:Int)(nm:Str):Str:=if n=0 then o else o++cT o n++(if n.natAbs=1∧nm≠[]then[]else Lib.decDigits n.natAbs)++nm
theorem pP{t:Tm}{i:Nat}(h:i<t.xs.length):oI t (i+1)=oS (oI t i) (t.xs.getD i default) [lV i]:=by
 unfold oS
 rw[show oI t (i+1)=tX 0 (t.xs.take (i+1)) []from if_pos (by omega),show oI t i=tX 0 (t.xs.take i) []from if_pos (by omega),List.take_succ_eq_append_getElem h,jg,List.length_take,Nat.min_eq_left (by omega),Nat.zero_add,au h]
 unfold tC
 simp
theorem pQ{t:Tm}:oI t (t.xs.length+1)=oS (oI t t.xs.length) t.c []:=by
 unfold oS
 rw[show oI t (t.xs.length+1)=tK (tX 0 t.xs []) t.c from if_neg (by omega),show oI t t.xs.length=tX 0 (t.xs.take t.xs.length) []from if_pos (cw _),List.take_length]
 unfold tK
 simp
theorem gW{o:Str}{n:Int}:(cT o n).length≤1:=by
 unfold cT
 split
 simp
 split<;>simp
theorem dy(a:Nat):Lib.itoa (a:Int)=Lib.decDigits a:=by
 unfold Lib.itoa
 rw[if_neg (by omega),Int.toNat_natCast]
theorem oU{t:Tm}:tS t=tZ (oI t (t.xs.length+1)):=by
 unfold oI;rw[if_neg (by omega)];rfl
theorem pm{t:Tm}(ht:t.ok=true):MQ h1 h2 69 [ptr t.cells] [] (Plain (bk (tS t))):=by
 refine ac ?_ Z
 refine jB 67 h1 h2 Tryz.func69 Z fun O hF=>?_
 obtain⟨z6,hx6,hl10⟩:=ja ht
 have hl:t.xs.length≤L:=by omega
 refine ab (js Z (aX (js Z (jn (af (ab (js Z (jn (ak (aq (X:=Nat×Str) (fun z=>⟨[(0,ptr t.cells),(3,bk z.2),(4,eI (z.1:Nat))],[]⟩) (fun z=>z.1≤t.xs.length+1∧z.2=oI t z.1∧z.2.length≤9*z.1) (fun z=>t.xs.length+1-z.1) (0,[]) (Ent.to ⟨Z,Z,Z,ao⟩ Z) ?_ (fun z hi=>?_)))))))))))
 exact⟨bZ _,by show[]=oI t 0;unfold oI;simp[tX],cw _⟩
 refine af (ab (aJ Z (js Z ?_)))
 first|refine bA Z ?_|refine js Z ?_|refine aQ Z Z ?_
 refine js Z (jf [13,0,3,4] Z (jn (al Z (fun z13=>?_) (fun z13=>?_))))
 refine ae (af (ak (ab (aJ Z (js Z (jf [5,13,0,3,4] Z (aX (js Z (jn (af (ab (aJ Z (js Z ?_)))))))))))))
 first|refine bA Z ?_|refine js Z ?_|refine aQ Z Z ?_
 refine js Z (jf [26,6,5,13,0,3,4] Z (jn ?_))
 have hz1:z.1≤t.xs.length:=by have:=bK z13;omega
 obtain⟨n,nm,hn1,hn2⟩: ∃(n:Int) (nm:Str),(z.1<t.xs.length→n=t.xs.getD z.1 default∧nm=[lV z.1])∧(¬z.1<t.xs.length→n=t.c∧nm=[]):=by
  by_cases h:z.1<t.xs.length
  exact⟨_,_,fun _=>⟨Z,Z⟩,fun h2=>absurd h h2⟩
  exact⟨_,_,fun h2=>absurd h2 h,fun _=>⟨Z,Z⟩⟩
 have hstep:oI t (z.1+1)=oS z.2 n nm:=by
  rw[hi.2.1]
  by_cases h:z.1<t.xs.length
  rw[(hn1 h).1,(hn1 h).2,pP h]
  rw[(hn2 h).1,(hn2 h).2,show z.1=t.xs.length by omega,pQ]
 have hna:n.natAbs≤1000000∧nm.length≤1:=by
  by_cases h:z.1<t.xs.length
  rw[(hn1 h).1,(hn1 h).2,au h];exact⟨hx6 _ (List.getElem_mem h),by simp⟩
  rw[(hn2 h).1,(hn2 h).2];exact⟨z6,by simp⟩
 refine bJ ⟨[(0,ptr t.cells),(3,bk z.2),(4,eI (z.1:Nat)),(5,eI n),(6,bk nm)],[]⟩ ?_ ?_
 refine al Z (fun z26=>?_) (fun z26=>?_)
 refine ab ?_
 have hc26t:z.1<t.xs.length:=by have:=bK z26;omega
 refine aJ Z (js Z ?_)
 first|refine n0 Z Z ?_|refine eZ Z Z ?_|refine aQ Z Z ?_
 refine aa Z (jf [5,26,6,13,0,3,4] Z (jn (ag (js Z ?_))))
 first|refine ji Z ?_|refine aQ Z Z ?_
 refine ah ((Val.conv (b:=true) (dt:=.int .i64) O Z Z Z (by kernel_rfl) (by kernel_rfl)).cast (v':=.c (.d (.int .u8 ((lV z.1).toNat:Int)))) (by rw[eC (by omega) (by omega),oD (by omega)];rfl)) Z (jf [36,5,26,6,13,0,3,4] Z (bC (bt O Z Z Z Z Z Z Z Z Z Z Z) Z (aW ?_)))
 refine ah (dS (p:=[lV z.1]) O Z Z Z (.whole Z Z (.inl (fN _))) Z Z (by kernel_rfl) (by kernel_rfl)) Z (js Z (jf [6,5,26,13,0,3,4] Z (jn ?_)))
 exact⟨Z,(aE [] (e':=[(0,_),(3,_),(4,_),(5,_),(6,_)]) Z Z ⟨Z,Z,Z,Z,Z,ao⟩ Z).trans (Ent.to ⟨Z,Z,Z,congrArg (fun z=>some (eI z)) ((hn1 hc26t).1.symm),congrArg (fun s=>some (bk s)) ((hn1 hc26t).2.symm),ao⟩ Z)⟩
 refine ae ?_
 have hc26t: ¬z.1<t.xs.length:=by have:=ce z26;omega
 exact⟨Z,(aE [] (e':=[(0,_),(3,_),(4,_),(5,_),(6,_)]) Z Z ⟨Z,Z,Z,Z,Z,ao⟩ Z).trans (Ent.to ⟨Z,Z,Z,congrArg (fun z=>some (eI z)) ((hn2 hc26t).1.symm),congrArg (fun s=>some (bk s)) ((hn2 hc26t).2.symm),ao⟩ Z)⟩
 refine af (ab (aa Z (jn (al Z (fun z40=>?_) (fun z40=>?_)))))
 refine aL (ag (js Z ?_))
 first|refine ji Z ?_|refine aQ Z Z ?_
 refine js Z (jf [4,40,39,0,3,5,6] Z (jn ?_))
 have hst:oI t (z.1+1)=z.2:=by rw[hstep];unfold oS;rw[if_pos (bK z40)]
 refine⟨(z.1+1,z.2),(aE [] (e':=[(0,_),(3,_),(4,_)]) Z Z ⟨Z,Z,Z,ao⟩ Z),⟨by show z.1+1≤_;omega,hst.symm,by show z.2.length≤9*(z.1+1);omega⟩,by show t.xs.length+1-(z.1+1)<t.xs.length+1-z.1;omega⟩
 refine ae (af (ab (aa Z (jn ?_))))
 obtain⟨o2,ho2⟩: ∃o,o=z.2++cT z.2 n:=⟨_,rfl⟩
 obtain⟨a,ha⟩: ∃a:Nat,a=n.natAbs:=⟨_,rfl⟩
 have hzl:z.2.length≤99:=by have:=hi.2.2;omega
 have h2l:o2.length≤z.2.length+1:=by have:=gW (o:=z.2) (n:=n);rw[ho2,bn];omega
 refine bJ ⟨[(0,ptr t.cells),(3,bk o2),(4,eI (z.1:Nat)),(5,eI (a:Nat)),(6,bk nm)],[]⟩ ?_ ?_
 refine al Z (fun z42=>?_) (fun z42=>?_)
 refine ab (js Z (ah (aw (p:=z.2) (q:=[45]) O Z Z Z Z Z Z (by show z.2.length+1≤L;omega) (by show L≤_;omega)) Z (js Z (jf [3,42,41,40,39,0,4,5,6] Z (jn (ag (js Z (ji Z (js Z (jf [5,3,42,41,40,39,0,4,6] Z (jn ?_)))))))))))
 exact⟨Z,(aE [] (e':=[(0,_),(3,_),(4,_),(5,_),(6,_)]) Z Z ⟨Z,Z,Z,Z,Z,ao⟩ Z).trans (Ent.to ⟨Z,congrArg (fun s=>some (bk s)) (show z.2++[45]=o2 by rw[ho2];unfold cT;rw[if_pos (bK z42)]),Z,congrArg (fun z=>some (eI z)) (show 0-n=(a:Int) by have:=bK z42;omega),Z,ao⟩ Z)⟩
 refine ab (js Z (ah (gJ (p:=z.2) (q:=[]) O Z Z Z Z Z Z) Z (jn (al Z (fun z48=>?_) (fun z48=>?_)))))
 refine ag (js Z (ah (aw (p:=z.2) (q:=[43]) O Z Z Z Z Z Z (by show z.2.length+1≤L;omega) (by show L≤_;omega)) Z (js Z (jf [3,48,47,42,41,40,39,0,4,5,6] Z (jn ?_)))))
 exact⟨Z,(aE [] (e':=[(0,_),(3,_),(4,_),(5,_),(6,_)]) Z Z ⟨Z,Z,Z,Z,Z,ao⟩ Z).trans (Ent.to ⟨Z,congrArg (fun s=>some (bk s)) (show z.2++[43]=o2 by rw[ho2];unfold cT;rw[if_neg (ce z42),if_neg (by simpa using z48)]),Z,congrArg (fun z=>some (eI z)) (show n=(a:Int) by have:=ce z42;omega),Z,ao⟩ Z)⟩
 refine ae ?_
 exact⟨Z,(aE [] (e':=[(0,_),(3,_),(4,_),(5,_),(6,_)]) Z Z ⟨Z,Z,Z,Z,Z,ao⟩ Z).trans (Ent.to ⟨Z,congrArg (fun s=>some (bk s)) (show z.2=o2 by rw[ho2];unfold cT;rw[if_neg (ce z42),if_pos (by simpa using z48),List.append_nil]),Z,congrArg (fun z=>some (eI z)) (show n=(a:Int) by have:=ce z42;omega),Z,ao⟩ Z)⟩
 refine af (ab (bc Z (jf [53,0,3,4,5,6] Z (aA 2 Z Z Z (fun hx=>ax hx Z (c5 hx (Val.seq (p:=nm) (q:=[]) O Z Z Z Z Z Z) Z (AN.nil))) Z Z ?_))))
 first|refine ah (ay O Z Z Z Z Z) Z ?_|refine ah (Val.pickB O Z Z Z Z Z) Z ?_|refine ah (ar O Z Z Z Z Z) Z ?_
 refine jf [56,0,3,4,5,6] Z (jn ?_)
 obtain⟨o3,ho3⟩: ∃o,o=o2++(if a=1∧nm≠[]then[]else Lib.decDigits a):=⟨_,rfl⟩
 have hdl:(Lib.decDigits a).length≤7:=dN (by omega)
 have h3l:o3.length≤o2.length+7:=by rw[ho3,bn];split<;>simp<;>omega
 refine bJ ⟨[(0,ptr t.cells),(3,bk o3),(4,eI (z.1:Nat)),(5,eI (a:Nat)),(6,bk nm)],[]⟩ ?_ ?_
 refine al Z (fun z56=>?_) (fun z56=>?_)
 refine ag (aa Z (aB Z (lz (n:=(a:Int)) h1 h2 (by omega) (by omega)) 60000 Z (ah (aw (p:=o2) (q:=Lib.itoa (a:Int)) O Z Z Z Z Z Z (by rw[dy];show o2.length+(Lib.decDigits a).length≤L;omega) (by show L≤_;omega)) Z (js Z (jf [3,56,0,4,5,6] Z (jn ?_))))))
 exact⟨rfl,(aE [] (e':=[(0,_),(3,_),(4,_),(5,_),(6,_)]) rfl rfl ⟨rfl,rfl,rfl,rfl,rfl,ao⟩ rfl).trans (Ent.to ⟨rfl,congrArg (fun s=>some (bk s)) (show o2++Lib.itoa (a:Int)=o3 by rw[ho3,dy,if_neg];rintro⟨e1,e2⟩;revert z56;simp[e1,e2]),rfl,rfl,rfl,ao⟩ rfl)⟩
 refine ae ?_
 exact⟨rfl,(aE [] (e':=[(0,_),(3,_),(4,_),(5,_),(6,_)]) rfl rfl ⟨rfl,rfl,rfl,rfl,rfl,ao⟩ rfl).trans (Ent.to ⟨rfl,congrArg (fun s=>some (bk s)) (show o2=o3 by rw[ho3,if_pos,List.append_nil];revert z56;cases h:decide ((a:Int)=1)<;>simp_all<;>omega),rfl,rfl,rfl,ao⟩ rfl)⟩
 refine ag (aa Z (ah (aw (p:=o3) (q:=nm) O Z Z Z Z Z Z (by show o3.length+nm.length≤L;omega) (by show L≤_;omega)) Z (js Z (jf [3,0,4,5,6] Z (jn (ag (js Z ?_)))))))
 first|refine ji Z ?_|refine aQ Z Z ?_
 refine js Z (jf [4,3,0,5,6] Z (jn ?_))
 refine⟨(z.1+1,o3++nm),(aE [] (e':=[(0,_),(3,_),(4,_)]) Z Z ⟨Z,Z,Z,ao⟩ Z),⟨by show z.1+1≤_;omega,?_,by show(o3++nm).length≤9*(z.1+1);rw[bn];omega⟩,by show t.xs.length+1-(z.1+1)<t.xs.length+1-z.1;omega⟩
 show o3++nm=oI t (z.1+1)
 rw[hstep,ho3,ho2,ha]
 unfold oS
 rw[if_neg (ce z40)]
 refine aL (af (ab ?_))
 have hz1:z.1=t.xs.length+1:=by have:=ce z13;omega
 have ho:=hi.2.1
 rw[hz1]at ho
 refine js Z (ah (Val.seq (p:=z.2) (q:=[]) O Z Z Z Z Z Z) Z (jn (al Z (fun z65=>?_) (fun z65=>?_))))
 refine ab (js Z (jr ?_))
 refine am Z ?_
 rw[oU,←ho]
 unfold tZ
 rw[if_pos (bK z65)];rfl
 refine ae (ab (aa Z (jr ?_)))
 refine am Z ?_
 rw[oU,←ho]
 unfold tZ
 rw[if_neg (ce z65)]
end Go.Al
/- Texts of instructions, proofs and annotated code, in plain Lean: what is written. -/
namespace Go.Al
variable{L:Nat}(h1:4096≤L)(h2:L≤1073741824)
open Go.Lib
theorem gF{n:Int}(h: -1000000000≤n∧n≤1000000000):(itoa n).length≤11:=by
 have key: ∀m:Nat,m≤1000000000→(decDigits m).length≤10:=fun m hm=>by
  rw[decDigits_eq,cS,List.length_range]
  exact fm (k:=9) (by omega)
 unfold itoa
 split
 have:=key n.natAbs (by omega);rw[dV];omega
 have:=key n.toNat (by omega);omega
def aI(c:UInt8):List Str→Str
  | []=>[]
  | [p]=>p
  | p::q::r=>p++c::aI c (q::r)
theorem kI(c:UInt8): ∀(ps:List Str) (q:Str),aI c (ps++[q])=bb c ps++q
 | [],q=>rfl
 | [p],q=>by simp[aI,bb]
 | p::p2::r,q=>by
  have:=kI c (p2::r) q
  rw[List.cons_append]at this
  rw[List.cons_append,List.cons_append,aI,this,bb];simp[bb]
theorem oF{c:UInt8}{xs:List Str}{y:Str}(h:xs≠[]):aI c (xs++[y])=aI c xs++c::y:=by
 rw[kI]
 obtain⟨ps,q,rfl⟩: ∃ps q,xs=ps++[q]:=⟨xs.dropLast,xs.getLast h,(List.dropLast_concat_getLast h).symm⟩
 rw[kI]
 have: ∀(ps:List Str),bb c (ps++[q])=bb c ps++q++[c]:=by
  intro ps
  induction ps with
  | nil=>simp[bb]
  | cons p r ih=>rw[List.cons_append,bb,ih,bb];simp
 rw[this];simp
theorem ni{c:UInt8}: ∀{xs:List Str} {i:Nat},(aI c (xs.take i)).length≤(aI c xs).length
 | [],i=>by simp
 | p::r,0=>by simp[aI]
 | [p],i+1=>by simp
 | p::q::r,1=>by simp[aI]
 | p::q::r,i+2=>by
  have:=ni (c:=c) (xs:=q::r) (i:=i+1)
  rw[List.take_succ_cons]at this
  rw[List.take_succ_cons,List.take_succ_cons,aI,aI]
  simp only[bn,dV];omega
def aO(x:Nd):Str:=if x.kind=1 then 99::aI 44 (x.mul.map itoa)else if x.kind=2 then 115::tS x.term else if x.kind=3 then 116::itoa x.fact else[]
structure NdR(x:Nd):Prop where
  kind:x.kind=1∨x.kind=2∨x.kind=3
  fact: -1000000000≤x.fact∧x.fact≤1000000000
  term:x.term.ok=true
  mul: ∀m∈x.mul,-1000000000≤m∧m≤1000000000
theorem qE:Tm.ok ⟨0,[]⟩=true:=by decide
def sL:List Str:=[[112,117,115,104],[108,111,97,100],[115,116,111,114,101],[97,100,100],[115,99,97,108,101],[106,117,109,112],[116,101,115,116],[103,101,116],[112,117,116],[101,109,105,116],[99,104,101,99,107],[104,97,108,116]]
def jK(op:Int):Str:=sL.getD op.toNat []
def me(op:Int):Bool:=[(0:Int),1,2,4,5,6,9].contains op
def iH(x:In):Str:=if me x.op then jK x.op++[32]++itoa x.a else jK x.op
theorem gZ{x:In}(h:aK x=true):(0≤x.op∧x.op≤11)∧(-1000000000≤x.a∧x.a≤1000000000)∧(me x.op=false→x.a=0):=by
 have hn: ∀{z:Int},gL z=true→ -1000000000≤z∧z≤1000000000:=fun{z} hz=>by have:=rV.1 hz;omega
 have hb: ∀{u v z:Int},cC u v z=true→u≤z∧z≤v:=fun{u v z} hz=>by unfold cC at hz;simpa using hz
 unfold aK at h
 split at h
 rename_i h1
 refine⟨by omega,hn h,fun h2=>?_⟩
 rcases h1 with h1|h1<;>(rw[h1]at h2;exact absurd h2 (by decide))
 split at h
 rename_i h1
 have:=hb h
 refine⟨by omega,by omega,fun h2=>?_⟩
 rcases h1 with h1|h1<;>(rw[h1]at h2;exact absurd h2 (by decide))
 split at h
 rename_i h1
 have:=hb h
 refine⟨by omega,by omega,fun h2=>?_⟩
 rcases h1 with h1|h1<;>(rw[h1]at h2;exact absurd h2 (by decide))
 split at h
 rename_i h1
 have:=hb h
 refine⟨by omega,by omega,fun h2=>?_⟩
 rw[h1]at h2;exact absurd h2 (by decide)
 split at h
 rename_i h1
 have:=bK h
 exact⟨by omega,by omega,fun _=>this⟩
 cases h
theorem nv{P:Int→Prop}(h: ∀k:Fin 12,P (k.val:Int)){o:Int}(h0:0≤o)(h1:o≤11):P o:=by
 have:=h ⟨o.toNat,by omega⟩
 rwa[show((⟨o.toNat,by omega⟩:Fin 12).val:Int)=o by simp;omega]at this
def b0:Str:=[112,114,101]
def bz:Str:=[112,111,115,116]
def kz:Str:=[97,116]
def bQ:Str:=[112,111,105,110,116]
def bo(w:Str)(fs:List Tm):List Str:=fs.map fun t=>w++[32]++tS t
def mQ(a:An)(i:Nat):List Str:=(match a.pts.findIdx? (fun p=>decide (p.k=(i:Int)))with
  | none=>[]
  | some k=>bQ::bo kz (a.pts.getD k default).fs)++[iH (a.code.getD i default)]
def cn(a:An):Nat→List Str
  | 0=>[]
  | i+1=>cn a i++mQ a i
def eb(a:An):List Str:=bo b0 a.pre++bo bz a.post++cn a a.code.length
def cx(a:An):Str:=bb 10 (eb a)
theorem bF(c:UInt8): ∀(p q:List Str),bb c (p++q)=bb c p++bb c q
 | [],q=>rfl
 | x::p,q=>by rw[List.cons_append,bb,bF c p q,bb];simp
theorem i2{c:UInt8}{B:Nat}: ∀{ls:List Str},(∀l∈ls,l.length≤B)→(bb c ls).length≤(B+1)*ls.length
 | [],_=>by simp[bb]
 | l::r,h=>by
  have h1:=i2 (c:=c) (ls:=r) fun x hx=>h x (List.mem_cons_of_mem _ hx)
  have h2:=h l (List.mem_cons_self ..)
  rw[bb,bn,dV,dV,Nat.mul_add]
  omega
theorem jh{t:Tm}(h:t.term=true):(tS t).length≤45:=by
 unfold Tm.term at h
 simp only[bd,decide_eq_true_eq]at h
 obtain⟨h1,h2,h3⟩:=ja h.1
 have h4:=kF (i:=0) (out:=[]) h2
 have h5:=nb (out:=tX 0 t.xs []) h1
 have h6:=h.2
 unfold tS rX tZ
 split
 decide
 simp only[List.length_nil]at h4;omega
theorem cJ{ts:List Tm}{n:Nat}(h:bh ts n=true):(∀t∈ts,t.term=true)∧ts.length≤n:=by
 unfold bh at h
 simp only[bd,decide_eq_true_eq,List.all_eq_true]at h
 exact⟨h.1,by omega⟩
theorem dm{w:Str}{fs:List Tm}(hw:w.length≤4)(h:bh fs 6=true):(bb 10 (bo w fs)).length≤306:=by
 obtain⟨h1,h2⟩:=cJ (n:=6) h
 have h3:=i2 (c:=10) (B:=50) (ls:=bo w fs) fun l hl=>by
  unfold bo at hl
  obtain⟨t,ht,rfl⟩:=List.mem_map.1 hl
  have:=jh (h1 t ht)
  simp only[bn,n5];omega
 unfold bo at h3
 rw[cS]at h3
 unfold bo
 omega
theorem jm{o:Int}(h0:0≤o)(h1:o≤11):(jK o).length≤5:=nv (P:=fun o=>(jK o).length≤5) (by decide) h0 h1
theorem jq{x:In}(h:aK x=true):(iH x).length≤17:=by
 obtain⟨⟨h0,h1⟩,h2,_⟩:=gZ h
 have h3:=jm h0 h1
 have h4:=gF h2
 unfold iH
 split
 simp only[bn,n5];omega
 omega
theorem dO{a:An}(h:cU a=true):(∀i,i<a.code.length→aK (a.code.getD i default)=true)∧a.code.length≤80∧1≤a.code.length∧bh a.pre 6=true∧bh a.post 6=true∧a.pts.length≤8∧∀k,k<a.pts.length→bh (a.pts.getD k default).fs 6=true:=by
 unfold cU dh at h
 simp only[bd,decide_eq_true_eq,List.all_eq_true]at h
 obtain⟨⟨h1,h2⟩,h3,h4,h5,h6⟩:=h
 unfold cC at h2
 simp only[bd,decide_eq_true_eq]at h2
 refine⟨fun i hi=>by rw[au hi];exact h1 _ (List.getElem_mem hi),by omega,by omega,h3,h4,h5,fun k hk=>?_⟩
 unfold ma at h6
 have:=List.all_eq_true.1 h6 k (List.mem_range.2 hk)
 unfold mL at this
 simp only[bd]at this
 exact this.1.2
theorem lM{a:An}(h:cU a=true){i:Nat}(hi:i<a.code.length):(bb 10 (mQ a i)).length≤330:=by
 obtain⟨h1,_,_,_,_,_,h7⟩:=dO h
 have h2:=jq (h1 i hi)
 unfold mQ
 rw[bF,bn]
 have h8:(bb 10 [iH (a.code.getD i default)]).length≤18:=by
  simp only[bb,bn,dV,List.length_nil];omega
 cases hk:a.pts.findIdx? (fun p=>decide (p.k=(i:Int)))with
 | none=>show 0+_≤330;omega
 | some k=>
  have hkl:k<a.pts.length:=by
   have:=List.findIdx?_eq_some_iff_findIdx_eq.1 hk
   omega
  have h9:=dm (w:=kz) (by decide) (h7 k hkl)
  show(bQ++10::bb 10 (bo kz (a.pts.getD k default).fs)).length+_≤330
  rw[bn,dV]
  have:bQ.length=5:=rfl
  omega
theorem il{a:An}(h:cU a=true): ∀{n:Nat},n≤a.code.length→(bb 10 (cn a n)).length≤330*n
 | 0,_=>by simp[cn,bb]
 | n+1,hn=>by
  have h1:=il h (n:=n) (by omega)
  have h2:=lM h (i:=n) (by omega)
  rw[cn,bF,bn]
  omega
theorem dA{a:An}(h:cU a=true):(cx a).length≤30000:=by
 obtain⟨_,h1,_,h3,h4,_,_⟩:=dO h
 have q1:=dm (w:=b0) (by decide) h3
 have q2:=dm (w:=bz) (by decide) h4
 have q3:=il h (n:=a.code.length) (cw _)
 unfold cx eb
 rw[bF,bF,bn,bn]
 omega
theorem iN{s:Str}{i:Nat}(h:i<s.length):s[((i:Nat):Int).toNat]? = some (s.getD i 0):=by
 rw[Int.toNat_natCast,List.getElem?_eq_getElem h];simp[h]
end Go.Al
/- The bytes of a package, in plain Lean. -/
namespace Go.Al
variable{L:Nat}(h1:4096≤L)(h2:L≤1073741824)
open Go.Lib
structure Pk where
  nm:Str
  an:An
  pf:List (List Nd)
def eQ(p:List Nd):Str:=aI 47 (p.map aO)
def bO(m:Nat):Str:=if h:m<128 then[UInt8.ofNat m]else UInt8.ofNat (m%128+128)::bO (m/128)
termination_by m
decreasing_by omega
theorem gD{m:Nat}(h:m<128):bO m=[UInt8.ofNat m]:=by rw[bO,dif_pos h]
theorem lF{m:Nat}(h:128≤m):bO m=UInt8.ofNat (m%128+128)::bO (m/128):=by rw[bO,dif_neg (by omega)]
theorem jU: ∀{k m:Nat},m<128^(k+1)→(bO m).length≤k+1
 | 0,m,h=>by rw[gD (by simpa using h)];simp
 | k + 1,m,h=>by
  by_cases h1:m<128
  rw[gD h1];simp
  rw[lF (by omega),dV]
  have:m/128<128^(k+1):=by
   rw[Nat.pow_succ]at h
   exact Nat.div_lt_of_lt_mul (by rw[Nat.mul_comm];exact h)
  have:=jU (k:=k) this
  omega
theorem bP{m:Nat}(h:m<1180591620717411303424):(bO m).length≤10:=jU (k:=9) (by simpa using h)
def ga(s:Str):Nat×Nat:=s.foldl (fun z c=>((z.1+c.toNat)%65521,(z.2+(z.1+c.toNat)%65521)%65521)) (1,0)
def gM(s:Str):Nat:=(ga s).1+65521*(ga s).2
theorem ik{s:Str}{i:Nat}(h:i<s.length):ga (s.take (i+1))=(((ga (s.take i)).1+(s.getD i 0).toNat)%65521,((ga (s.take i)).2+((ga (s.take i)).1+(s.getD i 0).toNat)%65521)%65521):=by
 rw[List.take_succ_eq_append_getElem h]
 unfold ga
 rw[List.foldl_append]
 simp[List.getD_eq_getElem?_getD,List.getElem?_eq_getElem h]
theorem gS{s:Str}: ∀{i:Nat},i≤s.length→(ga (s.take i)).1<65521∧(ga (s.take i)).2<65521
 | 0,_=>by simp[ga]
 | i+1,h=>by rw[ik (by omega)];exact⟨Nat.mod_lt _ (by decide),Nat.mod_lt _ (by decide)⟩
theorem kM{s:Str}:gM s<4293001441:=by
 have h:=gS (s:=s) (cw _)
 rw[List.take_length]at h
 unfold gM
 omega
def d9(t:Str):Str:=bO (2*t.length)++t
theorem gE{t:Str}(h:t.length≤40000):(d9 t).length≤40010:=by
 have:=bP (m:=2*t.length) (by omega)
 unfold d9
 rw[bn];omega
def fV(ts:List Str)(c:Str):Nat→Str
  | 0=>[]
  | i+1=>fV ts c i++d9 (ts.getD i [])++(if i=1 then c else[])
theorem ki{ts:List Str}{c:Str}(h: ∀t∈ts,t.length≤40000)(hc:c.length≤10): ∀{i:Nat},i≤ts.length→(fV ts c i).length≤40020*i
 | 0,_=>by simp[fV]
 | i+1,hi=>by
  have h1:=ki h hc (i:=i) (by omega)
  have h2:=gE (h (ts.getD i []) (by rw[List.getD_eq_getElem?_getD,List.getElem?_eq_getElem (by omega)];exact List.getElem_mem _))
  rw[fV,bn,bn]
  have h3:(if i=1 then c else[]).length≤10:=by split<;>simp[hc]
  omega
def gu(p:Pk):List Str:=p.nm::cx p.an::p.pf.map eQ
def mM(p:Pk):Str:=bO (2*p.pf.length)
def mO(p:Pk):Str:=d9 p.nm++d9 (cx p.an)++mM p
def fy(p:Pk):Str:=mO p++(p.pf.map fun q=>d9 (eQ q)).flatten
def gB(p:Pk):Str:=fy p++bO (2*gM (fy p))
theorem lO{x y c:Str}{ps:List Str}: ∀{k:Nat},k≤ps.length→fV (x::y::ps) c (k+2)=d9 x++d9 y++c++((ps.take k).map d9).flatten
 | 0,_=>by simp[fV]
 | k+1,h=>by
  rw[show k+1+2=(k+2)+1 by omega,fV,lO (by omega),if_neg (by omega),List.take_succ_eq_append_getElem (show k<ps.length by omega),List.map_append,List.flatten_append]
  have e:(x::y::ps).getD (k+2) []=ps[k]:=by simp[List.getD_eq_getElem?_getD,show k<ps.length by omega]
  rw[e]
  simp only[List.map_cons,List.map_nil,List.flatten_cons,List.flatten_nil,List.append_nil,dd]
theorem nT{p:Pk}:fV (gu p) (mM p) (gu p).length=fy p:=by
 have h:=lO (x:=p.nm) (y:=cx p.an) (c:=mM p) (ps:=p.pf.map eQ) (k:=(p.pf.map eQ).length) (cw _)
 rw[List.take_length,List.map_map]at h
 exact h
theorem pR{n:Int}(h:co n=true):(itoa n).length≤7:=by
 unfold co at h
 simp only[bd,decide_eq_true_eq]at h
 unfold itoa
 rw[if_neg (by omega)]
 exact dN (by omega)
theorem f2{c:UInt8}{B:Nat}: ∀{ls:List Str},(∀l∈ls,l.length≤B)→(aI c ls).length≤(B+1)*ls.length
 | [],_=>by simp[aI]
 | [p],h=>by have:=h p (by simp);simp only[aI,n5];omega
 | p::q::r,h=>by
  have h1:=f2 (c:=c) (ls:=q::r) fun x hx=>h x (List.mem_cons_of_mem _ hx)
  have h2:=h p (List.mem_cons_self ..)
  rw[aI,bn,dV,dV (a:=p),Nat.mul_add]
  omega
theorem m4{x:Nd}(h:dG x=true):NdR x∧x.mul.length≤20∧∀m∈x.mul,co m=true:=by
 have hz:x.term.zero=true→x.term.ok=true:=fun hz=>by
  unfold Tm.zero at hz
  simp only[bd,decide_eq_true_eq]at hz
  have h0:x.term.xs=[]:=List.length_eq_zero_iff.1 (by omega)
  have:x.term=⟨0,[]⟩:=by cases hx:x.term with|mk c xs=>rw[hx]at hz h0;simp only at hz h0;rw[h0,hz.1]
  rw[this];exact qE
 unfold dG at h
 split at h
 rename_i h1
 simp only[bd,decide_eq_true_eq]at h
 obtain⟨⟨h2,h3⟩,h4⟩:=h
 unfold md at h4
 simp only[bd,decide_eq_true_eq,List.all_eq_true]at h4
 refine⟨⟨.inl h1,by omega,hz h3,fun m hm=>?_⟩,by omega,h4.1⟩
 have:=h4.1 m hm
 unfold co at this
 simp only[bd,decide_eq_true_eq]at this
 omega
 split at h
 rename_i h1
 simp only[bd,decide_eq_true_eq]at h
 obtain⟨⟨h2,h3⟩,h4⟩:=h
 have h0:x.mul=[]:=List.length_eq_zero_iff.1 (by omega)
 exact⟨⟨.inr (.inl h1),by omega,h3,by rw[h0];simp⟩,by omega,by rw[h0];simp⟩
 split at h
 rename_i h1
 simp only[bd,decide_eq_true_eq]at h
 obtain⟨⟨h2,h3⟩,h4⟩:=h
 have h0:x.mul=[]:=List.length_eq_zero_iff.1 (by omega)
 unfold cC at h2
 simp only[bd,decide_eq_true_eq]at h2
 exact⟨⟨.inr (.inr h1),by omega,hz h3,by rw[h0];simp⟩,by omega,by rw[h0];simp⟩
 cases h
theorem j0{x:Nd}(h:dG x=true):(aO x).length≤170:=by
 obtain⟨hR,h1,h2⟩:=m4 h
 unfold aO
 split
 have:=f2 (c:=44) (B:=7) (ls:=x.mul.map itoa) fun l hl=>by
  obtain⟨m,hm,rfl⟩:=List.mem_map.1 hl
  exact pR (h2 m hm)
 rw[cS]at this
 rw[dV];omega
 split
 have:=pK hR.term
 rw[dV];omega
 have:=gF hR.fact
 split<;>simp<;>omega
theorem kK{p:List Nd}(h:gA p=true):1≤p.length∧p.length≤60∧∀x∈p,dG x=true:=by
 unfold gA at h
 simp only[bd,decide_eq_true_eq,List.all_eq_true]at h
 obtain⟨⟨h1,h2⟩,h3,h4⟩:=h
 exact⟨by omega,by omega,h3⟩
theorem fE{p:List Nd}(h:gA p=true):(eQ p).length≤10260:=by
 obtain⟨h1,h2,h3⟩:=kK h
 have:=f2 (c:=47) (B:=170) (ls:=p.map aO) fun l hl=>by
  obtain⟨x,hx,rfl⟩:=List.mem_map.1 hl
  exact j0 (h3 x hx)
 rw[cS]at this
 unfold eQ
 omega
def lW(c:UInt8):Bool:=decide (97≤c.toNat)&&decide (c.toNat≤122)
def i5(s:Str):Bool:=decide ((1:Int)≤s.length)&&decide ((s.length:Int)≤10)&&s.all lW
theorem lr(c:UInt8):(bif decide ((c.toNat:Int)<97)then true else decide ((122:Int)<(c.toNat:Int)))= !lW c:=by
 unfold lW
 by_cases h1:(c.toNat:Int)<97
 simp[h1,show¬97≤c.toNat by omega]
 simp only[h1,decide_false,cond_false,show 97≤c.toNat by omega,decide_true,Bool.true_and]
 by_cases h2:c.toNat≤122
 simp[h2,show¬(122:Int)<(c.toNat:Int) by omega]
 simp[h2,show(122:Int)<(c.toNat:Int) by omega]
theorem ng{s:Str}{i:Nat}(hi:i<s.length)(h:lW (s.getD i 0)=false):i5 s=false:=by
 unfold i5
 rw[show s.all lW=false from List.all_eq_false.2 ⟨s[i],List.getElem_mem hi,by simp[List.getD_eq_getElem?_getD,hi]at h;simp[h]⟩,Bool.and_false]
theorem nf{s:Str}(h: ∀j,j<s.length→lW (s.getD j 0)=true):i5 s=(decide ((1:Int)≤s.length)&&decide ((s.length:Int)≤10)):=by
 unfold i5
 rw [show s.all lW=true from List.all_eq_true.2 fun c hc=>by
  obtain⟨j,hj,rfl⟩:=List.getElem_of_mem hc
  have:=h j hj
  simpa[List.getD_eq_getElem?_getD,hj]using this,Bool.and_true]
def iG(p:Pk):Bool:=i5 p.nm&&cU p.an&&decide (p.pf.length≤60)&&p.pf.all gA
theorem rU{p:Pk}:iG p=true↔i5 p.nm=true∧cU p.an=true∧p.pf.length≤60∧∀q∈p.pf,gA q=true:=by
 unfold iG
 simp only[bd,decide_eq_true_eq,List.all_eq_true]
 exact⟨fun⟨⟨⟨h1,h2⟩,h3⟩,h4⟩=>⟨h1,h2,h3,h4⟩,fun⟨h1,h2,h3,h4⟩=>⟨⟨⟨h1,h2⟩,h3⟩,h4⟩⟩
theorem kE{p:Pk}(h:iG p=true): ∀t∈gu p,t.length≤40000:=by
 obtain⟨h1,h2,h3,h4⟩:=rU.1 h
 intro t ht
 unfold gu at ht
 rcases List.mem_cons.1 ht with rfl|ht
 unfold i5 at h1
 simp only[bd,decide_eq_true_eq]at h1
 omega
 rcases List.mem_cons.1 ht with rfl|ht
 have:=dA h2;omega
 obtain⟨q,hq,rfl⟩:=List.mem_map.1 ht
 have:=fE (h4 q hq);omega
theorem ie: ∀{ps:List (List Nd)},(∀q∈ps,gA q=true)→((ps.map fun q=>d9 (eQ q)).flatten).length≤10270*ps.length
 | [],_=>by simp
 | q::r,h=>by
  have h1:=ie (ps:=r) fun x hx=>h x (List.mem_cons_of_mem _ hx)
  have h2:=fE (h q (List.mem_cons_self ..))
  have h3:=bP (m:=2*(eQ q).length) (by omega)
  have h4:(d9 (eQ q)).length≤10270:=by unfold d9;rw[bn];omega
  rw[List.map_cons,List.flatten_cons,bn,dV]
  omega
theorem kL{p:Pk}(h:iG p=true):(mO p).length≤30050:=by
 obtain⟨h1,h2,h3,h4⟩:=rU.1 h
 unfold i5 at h1
 simp only[bd,decide_eq_true_eq]at h1
 have q1:=bP (m:=2*p.nm.length) (by omega)
 have q2:=dA h2
 have q3:=bP (m:=2*(cx p.an).length) (by omega)
 have hc:(mM p).length≤10:=bP (by omega)
 unfold mO d9
 simp only[bn]
 omega
theorem kO{p:Pk}(h:iG p=true):(fy p).length≤700000:=by
 have q1:=kL h
 obtain⟨h1,h2,h3,h4⟩:=rU.1 h
 have q2:=ie h4
 unfold fy
 rw[bn];omega
def jQ(p:Pk):Str×Bool:=if iG p=true then(if(gB p).length≤40000 then(gB p,true)else([],false))else([],false)
def eR(c:UInt8)(ss:List Str):Str:=if ss=[]then[]else aI c ss++[c]
theorem qT{c:UInt8}{ss:List Str}{y:Str}:aI c (ss++[y])=eR c ss++y:=by
 unfold eR
 by_cases h:ss=[]
 rw[if_pos h,h];rfl
 rw[if_neg h,oF h];simp
theorem lv{α:Type}[Inhabited α]{c:UInt8}{f:α→Str}{p:List α}{i:Nat}(h:i<p.length):aI c ((p.take (i+1)).map f)=eR c ((p.take i).map f)++f (p.getD i default):=by
 rw[List.take_succ_eq_append_getElem h,List.map_append,List.map_singleton,qT,au h]
theorem ql{α:Type}{c:UInt8}{f:α→Str}{p:List α}{i:Nat}(h: ¬(0:Int)<(i:Int)):aI c ((p.take i).map f)=eR c ((p.take i).map f):=by
 obtain rfl:i=0:=by omega
 rfl
theorem od{α:Type}{c:UInt8}{f:α→Str}{p:List α}{i:Nat}(h:(0:Int)<(i:Int))(hp:i<p.length):aI c ((p.take i).map f)++[c]=eR c ((p.take i).map f):=by
 unfold eR
 rw[if_neg]
 intro e
 have:=congrArg List.length e
 simp only[cS,List.length_take,List.length_nil]at this
 omega
theorem gX{c:UInt8}: ∀{ss:List Str},ss.length≤(aI c ss).length+1
 | []=>by simp
 | [p]=>by simp
 | p::q::r=>by
  have:=gX (c:=c) (ss:=q::r)
  rw[aI]
  simp only[bn,dV]at *;omega
theorem lu{α:Type}{c:UInt8}{f:α→Str}{p:List α}{i:Nat}:(aI c ((p.take i).map f)).length≤(aI c (p.map f)).length:=by
 rw[List.map_take];exact ni
variable{p:List Nd}
theorem pp(hR: ∀x∈p,NdR x)(hl:(aI 47 (p.map aO)).length≤L):MQ h1 h2 29 [dI p] [] (Plain (bk (aI 47 (p.map aO)))):=by
 refine ac ?_ Z
 refine jB 72 h1 h2 Tryz.func29 Z fun O hF=>?_
 have hpl:p.length≤L:=by have h:=hF;simp only[As.fact,A.fact,M.fact,D.fact,cS]at h;exact h.1.1
 refine ab (js Z (aX (js Z (jn (af (ab (js Z (jn (ak (aq (X:=Nat) (fun i=>⟨[(0,dI p),(3,bk (aI 47 ((p.take i).map aO))),(4,eI i)],[]⟩) (fun i=>i≤p.length) (fun i=>p.length-i) 0 (Ent.to ⟨Z,Z,Z,ao⟩ Z) ?_ (fun i hi=>?_)))))))))))
 exact bZ _
 refine af (ab (aa Z ?_))
 first|refine bA Z ?_|refine js Z ?_|refine aQ Z Z ?_
 refine js Z (jf [9,0,3,4] Z (jn (al Z (fun z9=>?_) (fun z9=>?_))))
 refine ae (af (ak (af (ab ?_))))
 have hi0:i<p.length:=by have:=bK z9;omega
 have hOl:(aI 47 ((p.take i).map aO)).length≤L:=Nat.le_trans lu hl
 have hOl2:0<i→(aI 47 ((p.take i).map aO)).length+1≤L:=fun h0=>by have h5:=od (c:=47) (f:=aO) (p:=p) (i:=i) (by omega) hi0;have h6:(aI 47 ((p.take (i+1)).map aO)).length≤L:=Nat.le_trans lu hl;have h7:=congrArg List.length (lv (c:=47) (f:=aO) hi0);rw[bn]at h7;have h8:=congrArg List.length h5;rw[bn]at h8;have h9:[(47:UInt8)].length=1:=rfl;omega
 refine aa Z (jn ?_)
 have hxR:NdR (p.getD i default):=by rw[au hi0];exact hR _ (List.getElem_mem hi0)
 have hT:(aI 47 ((p.take (i+1)).map aO))=(eR 47 ((p.take i).map aO))++aO (p.getD i default):=lv hi0
 have hTl:(aI 47 ((p.take (i+1)).map aO)).length≤L:=Nat.le_trans lu hl
 rw[hT,bn]at hTl
 refine bJ ⟨[(0,dI p),(3,bk (eR 47 ((p.take i).map aO))),(4,eI i)],[]⟩ ?_ ?_
 refine al Z (fun z13=>?_) (fun z13=>?_)
 refine ag (js Z (ah (aw (p:=(aI 47 ((p.take i).map aO))) (q:=[47]) O Z Z Z Z Z Z (by have h:=hOl2 (by have:=bK z13;omega);exact h) (by show L≤_;omega)) Z (js Z (jf [3,13,12,9,0,4] Z (jn ?_)))))
 exact⟨Z,Ent.to ⟨Z,congrArg (fun s=>some (bk s)) (od (bK z13) hi0),Z,ao⟩ Z⟩
 refine ae ?_
 exact⟨Z,Ent.to ⟨Z,congrArg (fun s=>some (bk s)) (ql (ce z13)),Z,ao⟩ Z⟩
 refine ab (aa Z (ah (aF O Z Z Z Z Z Z Z Z (cQ hi0)) Z (aa Z (jf [20,0,3,4] Z (jn (bJ ⟨[(0,dI p),(3,bk (aI 47 ((p.take (i+1)).map aO))),(4,eI i)],[]⟩ ?_ ?_))))))
 refine ak (ab (aa Z (jn (al Z (fun z21=>?_) (fun z21=>?_)))))
 refine ab (js Z ?_)
 have hk1:(p.getD i default).kind=1:=bK z21
 have hn1:aO (p.getD i default)=99::aI 44 (((p.getD i default).mul).map Lib.itoa):=if_pos hk1
 rw[hn1,dV]at hTl
 have hml:=gX (c:=44) (ss:=((p.getD i default).mul).map Lib.itoa)
 rw[cS]at hml
 refine ah (aw (p:=(eR 47 ((p.take i).map aO))) (q:=[99]) O Z Z Z Z Z Z (by show(eR 47 ((p.take i).map aO)).length+1≤L;omega) (by show L≤_;omega)) Z (js Z (jf [3,21,22,20,0,4] Z (aX (js Z (jn (ak (aq (X:=Nat) (fun j=>⟨[(0,dI p),(3,bk ((eR 47 ((p.take i).map aO))++99::(aI 44 (((((p.getD i default).mul)).take j).map Lib.itoa)))),(4,eI i),(5,eI j)],[]⟩) (fun j=>j≤((p.getD i default).mul).length) (fun j=>((p.getD i default).mul).length-j) 0 (Ent.to ⟨Z,Z,Z,Z,ao⟩ Z) ?_ (fun j hi=>?_))))))))
 exact bZ _
 refine af (ab (bc Z (ah (aF O Z Z Z Z Z Z Z Z (cQ hi0)) Z (aa Z ?_))))
 first|refine bA Z ?_|refine js Z ?_|refine aQ Z Z ?_
 refine js Z (jf [32,0,3,4,5] Z (jn (al Z (fun z32=>?_) (fun z32=>?_))))
 refine ae (af (ak (af (ab ?_))))
 have hj0:j<((p.getD i default).mul).length:=by have:=bK z32;omega
 have hJl:(aI 44 (((((p.getD i default).mul)).take (j+1)).map Lib.itoa)).length≤(aI 44 (((p.getD i default).mul).map Lib.itoa)).length:=lu
 have hJa:(aI 44 (((((p.getD i default).mul)).take (j+1)).map Lib.itoa))=(eR 44 (((((p.getD i default).mul)).take j).map Lib.itoa))++Lib.itoa (((p.getD i default).mul).getD j default):=lv hj0
 rw[hJa,bn]at hJl
 have hmR: -1000000000≤((p.getD i default).mul).getD j default∧((p.getD i default).mul).getD j default≤1000000000:=by rw[au hj0];exact hxR.mul _ (List.getElem_mem hj0)
 have hJ1:0<j→(aI 44 (((((p.getD i default).mul)).take j).map Lib.itoa)).length+1=(eR 44 (((((p.getD i default).mul)).take j).map Lib.itoa)).length:=fun h0=>by have h5:=congrArg List.length (od (c:=44) (f:=Lib.itoa) (p:=((p.getD i default).mul)) (i:=j) (by omega) hj0);rw[bn]at h5;exact h5
 refine aa Z (jn (bJ ⟨[(0,dI p),(3,bk ((eR 47 ((p.take i).map aO))++99::(eR 44 (((((p.getD i default).mul)).take j).map Lib.itoa)))),(4,eI i),(5,eI j)],[]⟩ ?_ ?_))
 refine al Z (fun z36=>?_) (fun z36=>?_)
 refine ag (js Z (ah (aw (p:=((eR 47 ((p.take i).map aO))++99::(aI 44 (((((p.getD i default).mul)).take j).map Lib.itoa)))) (q:=[44]) O Z Z Z Z Z Z (by have h:=hJ1 (by have:=bK z36;omega);have h2:[(44:UInt8)].length=1:=rfl;show _+_≤L;rw[bn,dV];omega) (by show L≤_;omega)) Z (js Z (jf [3,36,35,32,0,4,5] Z (jn ?_)))))
 exact⟨Z,Ent.to ⟨Z,congrArg (fun s=>some (bk s)) (show((eR 47 ((p.take i).map aO))++99::(aI 44 (((((p.getD i default).mul)).take j).map Lib.itoa)))++[44]=(eR 47 ((p.take i).map aO))++99::(eR 44 (((((p.getD i default).mul)).take j).map Lib.itoa)) by rw[←od (bK z36) hj0];simp),Z,Z,ao⟩ Z⟩
 refine ae ?_
 exact⟨Z,Ent.to ⟨Z,congrArg (fun s=>some (bk s)) (show(eR 47 ((p.take i).map aO))++99::(aI 44 (((((p.getD i default).mul)).take j).map Lib.itoa))=(eR 47 ((p.take i).map aO))++99::(eR 44 (((((p.getD i default).mul)).take j).map Lib.itoa)) by rw[ql (ce z36)]),Z,Z,ao⟩ Z⟩
 refine ag (bc Z (ah (aF O Z Z Z Z Z Z Z Z (cQ hi0)) Z (bc Z (ah (aF O Z Z Z Z Z Z Z Z (cQ hj0)) Z (js Z (jf [47,39,0,3,4,5] Z (aB Z (lz (n:=((p.getD i default).mul).getD j default) h1 h2 (by omega) (by omega)) 49000 Z (ah (aw (p:=((eR 47 ((p.take i).map aO))++99::(eR 44 (((((p.getD i default).mul)).take j).map Lib.itoa)))) (q:=(Lib.itoa (((p.getD i default).mul).getD j default))) O Z Z Z Z Z Z (by show _+_≤L;rw[bn,dV];omega) (by show L≤_;omega)) Z (js Z (jf [3,0,4,5] Z (jn (ag (js Z ?_)))))))))))))
 first|refine ji Z ?_|refine aQ Z Z ?_
 refine js Z (jf [5,3,0,4] Z (jn ?_))
 refine⟨j+1,Ent.to ⟨Z,congrArg (fun s=>some (bk s)) (show((eR 47 ((p.take i).map aO))++99::(eR 44 (((((p.getD i default).mul)).take j).map Lib.itoa)))++Lib.itoa (((p.getD i default).mul).getD j default)=(eR 47 ((p.take i).map aO))++99::(aI 44 (((((p.getD i default).mul)).take (j+1)).map Lib.itoa)) by rw[lv hj0];simp),Z,Z,ao⟩ Z,by omega,by omega⟩
 refine aL ?_
 have hjl:j=((p.getD i default).mul).length:=by have:=ce z32;omega
 exact⟨Z,(aE [] (e':=[(0,_),(3,_),(4,_)]) Z Z ⟨Z,Z,Z,ao⟩ Z).trans (Ent.to ⟨Z,congrArg (fun s=>some (bk s)) (show(eR 47 ((p.take i).map aO))++99::(aI 44 (((((p.getD i default).mul)).take j).map Lib.itoa))=(aI 47 ((p.take (i+1)).map aO)) by rw[hT,hn1,hjl,List.take_length]),Z,ao⟩ Z)⟩
 refine ab (aa Z (jn (al Z (fun z50=>?_) (fun z50=>?_))))
 refine ag ?_
 have hk2:(p.getD i default).kind=2:=bK z50
 have hn2:aO (p.getD i default)=115::tS (p.getD i default).term:=by unfold aO;rw[hk2,if_neg (by decide),if_pos Z]
 rw[hn2,dV]at hTl
 refine bc Z (ah (aF O Z Z Z Z Z Z Z Z (cQ hi0)) Z (js Z (jf [56,52,50,51,21,22,20,0,3,4] Z (br O Z Z Z Z (pm (t:=(p.getD i default).term) h1 h2 hxR.term) (.cons (.c (.sub Z)) .nil) Z Z Z Z Z (B0:=58000) Z (ah (aw (p:=[115]) (q:=(tS (p.getD i default).term)) O Z Z Z Z Z Z (by show 1+(tS (p.getD i default).term).length≤L;omega) (by show L≤_;omega)) Z (ah (aw (p:=(eR 47 ((p.take i).map aO))) (q:=(115::tS (p.getD i default).term)) O Z Z Z Z Z Z (by show _+_≤L;rw[dV];omega) (by show L≤_;omega)) Z (js Z (jf [3,50,51,21,22,20,0,4] Z (jn ?_)))))))))
 exact⟨Z,(aE [] (e':=[(0,_),(3,_),(4,_)]) Z Z ⟨Z,Z,Z,ao⟩ Z).trans (Ent.to ⟨Z,congrArg (fun s=>some (bk s)) (show(eR 47 ((p.take i).map aO))++(115::tS (p.getD i default).term)=(aI 47 ((p.take (i+1)).map aO)) by rw[hT,hn2]),Z,ao⟩ Z)⟩
 refine ab (aa Z (jn (al Z (fun z60=>?_) (fun z60=>?_))))
 refine ag ?_
 have hk3:(p.getD i default).kind=3:=bK z60
 have hn3:aO (p.getD i default)=116::Lib.itoa (p.getD i default).fact:=by unfold aO;rw[hk3,if_neg (by decide),if_neg (by decide),if_pos Z]
 rw[hn3,dV]at hTl
 have hfR:=hxR.fact
 refine bc Z (ah (aF O Z Z Z Z Z Z Z Z (cQ hi0)) Z (aa Z (jf [67,62,60,61,50,51,21,22,20,0,3,4] Z (aB Z (lz (n:=(p.getD i default).fact) h1 h2 (by omega) (by omega)) 69000 Z (ah (aw (p:=[116]) (q:=(Lib.itoa (p.getD i default).fact)) O Z Z Z Z Z Z (by show 1+(Lib.itoa (p.getD i default).fact).length≤L;omega) (by show L≤_;omega)) Z (ah (aw (p:=(eR 47 ((p.take i).map aO))) (q:=(116::Lib.itoa (p.getD i default).fact)) O Z Z Z Z Z Z (by show _+_≤L;rw[dV];omega) (by show L≤_;omega)) Z (js Z (jf [3,60,61,50,51,21,22,20,0,4] Z (jn ?_)))))))))
 exact⟨Z,(aE [] (e':=[(0,_),(3,_),(4,_)]) Z Z ⟨Z,Z,Z,ao⟩ Z).trans (Ent.to ⟨Z,congrArg (fun s=>some (bk s)) (show(eR 47 ((p.take i).map aO))++(116::Lib.itoa (p.getD i default).fact)=(aI 47 ((p.take (i+1)).map aO)) by rw[hT,hn3]),Z,ao⟩ Z)⟩
 refine ae ?_
 exact absurd hxR.kind (by have h1:=ce z21;have h2:=ce z50;have h3:=ce z60;exact fun h=>h.elim h1 (fun h=>h.elim h2 h3))
 refine ag (js Z ?_)
 first|refine ji Z ?_|refine aQ Z Z ?_
 refine js Z (jf [4,0,3] Z (jn ?_))
 refine⟨i+1,Ent.to ⟨Z,Z,Z,ao⟩ Z,by omega,by omega⟩
 refine aL (ab (aa Z (jr ?_)))
 refine am Z ?_
 obtain rfl:i=p.length:=by have:=ce z9;omega
 rw[List.take_length]
theorem oH{x:Int}:(bif (bif (bif (bif (bif (bif decide (x=0)then true else decide (x=1))then true else decide (x=2))then true else decide (x=4))then true else decide (x=5))then true else decide (x=6))then true else decide (x=9))=me x:=by
 by_cases e0:x=0
 subst e0;rfl
 by_cases e1:x=1
 subst e1;rfl
 by_cases e2:x=2
 subst e2;rfl
 by_cases e4:x=4
 subst e4;rfl
 by_cases e5:x=5
 subst e5;rfl
 by_cases e6:x=6
 subst e6;rfl
 by_cases e9:x=9
 subst e9;rfl
 unfold me
 simp[e0,e1,e2,e4,e5,e6,e9]
theorem pO{k:Nat}(h:k<12):sL.getD k default=jK (k:Int):=rfl
theorem q9{x:Int}:MQ h1 h2 99 [eI x] [] (Plain (eB (me x))):=by
 refine ac ?_ Z
 refine jB 29 h1 h2 Tryz.func99 Z fun O hF=>?_
 refine ab (js Z (aX (bc Z (jf [5,2,0] Z (aA 2 Z Z Z (fun hx=>ax hx Z (ax hx Z (AN.nil))) Z Z ?_)))))
 first|refine ah (ay O Z Z Z Z Z) Z ?_|refine ah (Val.pickB O Z Z Z Z Z) Z ?_|refine ah (ar O Z Z Z Z Z) Z ?_
 refine js Z (jf [9,2,0] Z (aA 2 Z Z Z (fun hx=>ax hx Z (ax hx Z (AN.nil))) Z Z ?_))
 first|refine ah (ay O Z Z Z Z Z) Z ?_|refine ah (Val.pickB O Z Z Z Z Z) Z ?_|refine ah (ar O Z Z Z Z Z) Z ?_
 refine js Z (jf [13,2,0] Z (aA 2 Z Z Z (fun hx=>ax hx Z (ax hx Z (AN.nil))) Z Z ?_))
 first|refine ah (ay O Z Z Z Z Z) Z ?_|refine ah (Val.pickB O Z Z Z Z Z) Z ?_|refine ah (ar O Z Z Z Z Z) Z ?_
 refine js Z (jf [17,2,0] Z (aA 2 Z Z Z (fun hx=>ax hx Z (ax hx Z (AN.nil))) Z Z ?_))
 first|refine ah (ay O Z Z Z Z Z) Z ?_|refine ah (Val.pickB O Z Z Z Z Z) Z ?_|refine ah (ar O Z Z Z Z Z) Z ?_
 refine js Z (jf [21,2,0] Z (aA 2 Z Z Z (fun hx=>ax hx Z (ax hx Z (AN.nil))) Z Z ?_))
 first|refine ah (ay O Z Z Z Z Z) Z ?_|refine ah (Val.pickB O Z Z Z Z Z) Z ?_|refine ah (ar O Z Z Z Z Z) Z ?_
 refine js Z (jf [25,2,0] Z (aA 2 Z Z Z (fun hx=>ax hx Z (ax hx Z (AN.nil))) Z Z ?_))
 first|refine ah (ay O Z Z Z Z Z) Z ?_|refine ah (Val.pickB O Z Z Z Z Z) Z ?_|refine ah (ar O Z Z Z Z Z) Z ?_
 refine js Z (jf [2] Z (jr ?_))
 refine am Z ?_
 exact congrArg eB oH
theorem q8{k:Nat}(hk:k<12):MQ h1 h2 100 [eI (k:Nat)] [] (Plain (bk (jK (k:Int)))):=by
 refine ac ?_ Z
 refine jB 9 h1 h2 Tryz.func100 Z fun O hF=>?_
 refine ab (js Z (aX (bC (bt O Z Z Z Z Z Z Z Z Z Z Z) Z (aW ?_))))
 refine bf (aE [4] (e':=[(0,_),(4,_)]) Z Z ⟨Z,Z,ao⟩ Z) (bf (Ent.freeze 4 (e':=[(0,_),(4,_)]) Z (.cons Z (.keep Z) (.cons Z (.c (.row Z Z)) .nil)) (.skip .nil)) ?_)
 refine aW ?_
 refine js Z (aX (aa Z (ah (aF O Z Z Z Z Z Z Z Z (show(sL.map fun p=>[sD p])[((k:Nat):Int).toNat]? = some [sD (sL.getD k default)]from cQ (show k<sL.length from hk))) Z (aa Z (jf [2,4] Z (jr ?_))))))
 refine am Z ?_
 rw[←pO hk]
theorem rj{x:In}(h:aK x=true):MQ h1 h2 65 [.agg (x.cells.map .d)] [] (Plain (bk (iH x))):=by
 refine ac ?_ Z
 refine jB 17 h1 h2 Tryz.func65 Z fun O hF=>?_
 obtain⟨⟨ho0,ho1⟩,ha,_⟩:=gZ h
 have hol:=jm ho0 ho1
 have hal:=gF ha
 have z2:MC Tryz.prog L 100 [eI x.op] [] (Plain (bk (jK x.op))):=by
  obtain⟨k,hk⟩: ∃k:Nat,x.op=k:=⟨x.op.toNat,by omega⟩
  rw[hk];exact q8 h1 h2 (by omega)
 refine ab (jx Z (aW ?_))
 refine bf (Ent.freeze 1 (e':=[(1,_),(0,_)]) Z (.cons Z (.c (.box (cs:=x.cells) Z (bj Z))) (fe [0] Z)) (.skip .nil)) ?_
 refine aW ?_
 refine js Z (jn (af (ab (aa Z (jf [4,2,1,0] Z (aB Z (q9 (x:=x.op) h1 h2) 6000 Z (jn (al Z (fun z5=>?_) (fun z5=>?_)))))))))
 refine af (jw [4,1,0] Z (kA [_,_,_,_,_,_,_,_,_] [bp,aT [0],pe [0,1] 0,pn [0,1,2] 1 2,pn [] 0 1,pn [4] 0 1,pe [0,1,2,4,5] 1,pn (rg 0 7) 2 2,pn (rg 0 8) 2 2] [2,6] [_,_,_] (kc Z (kc Z (ai (aD O (B0:=9000) Z Z Z Z (z2) (aj Z) Z Z Z Z Z) (ai (ai (aw (p:=jK x.op) (q:=[32]) O Z Z Z Z Z Z (by show(jK x.op).length+1≤L;omega) (by show L≤_;omega)) (aw (p:=jK x.op) (q:=[32]) O Z Z Z Z Z Z (by show(jK x.op).length+1≤L;omega) (by show L≤_;omega))) (ai (kc Z (V Z)) (ai (kc Z (V Z)) (ai (aD O (B0:=13000) Z Z Z Z (lz (n:=x.a) h1 h2 (by omega) (by omega)) (aj Z) Z Z Z Z Z) (ai (aw (p:=(jK x.op++[32])) (q:=Lib.itoa x.a) O Z Z Z Z Z Z (by rw[bn];show _+1+_≤L;omega) (by show L≤_;omega)) (kc Z trivial))))))))) ?_))
 refine jw [2,4,1,0] Z (nZ ?_)
 refine px ?_
 refine am Z ?_
 rw[show iH x=jK x.op++[32]++Lib.itoa x.a from if_pos z5]
 refine ae (ab (aa Z (jf [15,4,2,1,0] Z (aB Z (z2) 17000 Z (js Z (jf [2,4,1,0] Z (jr ?_)))))))
 refine am Z ?_
 rw[show iH x=jK x.op from if_neg (by simp[z5])]
def fc(m:Nat):UInt8:=UInt8.ofNat (m%128+128)
theorem jV(m:Nat):((fc m).toNat:Int)=(m%128:Nat)+128:=by
 unfold fc;rw[UInt8.toNat_ofNat'];omega
theorem iX{m:Nat}(h:128≤m):bO m=fc m::bO (m/128):=lF h
theorem dw(m:Nat):(m:Int).tdiv 128=((m/128:Nat):Int):=by rw[Int.tdiv_eq_ediv_of_nonneg (by omega)];omega
theorem dv(m:Nat):(m:Int).tmod 128=((m%128:Nat):Int):=by rw[Int.tmod_eq_emod_of_nonneg (by omega)];omega
abbrev n4(s:Str):List (List D):=s.map fun b=>[.int .u8 (b.toNat:Int)]
theorem pg{n:Nat}(hn:n≤1000000000000000):MQ h1 h2 67 [eI (n:Nat)] [] (Plain (bk (bO (2*n)))):=by
 refine ac ?_ Z
 refine jB 30 h1 h2 Tryz.func67 Z fun O hF=>?_
 have hpl:=bP (m:=2*n) (by omega)
 refine ab (js Z (aX (js Z (ah (aP O Z Z (by omega) (by omega)) Z (js Z (jf [3,2,0] Z (jn (af (ab (aa Z (jn (al Z (fun z8=>?_) (fun z8=>?_)))))))))))))
 exact absurd (bK z8) (by omega)
 refine ae (ab (bC (HS.lit O Z Z Z) Z (aW ?_)))
 refine js Z (jf [4,7,3,2,0] Z (jn (af (ak (aq (X:=Str×Nat) (fun z=>⟨[(3,eI (z.2:Nat)),(4,.c (.rs 900 0 z.1.length))],[(900,.row false 1 (n4 z.1))]⟩) (fun z=>z.1++bO z.2=bO (2*n)∧z.2≤2*n) (fun z=>z.2) ([],2*n) ((mB 12 Z).trans ((bv 12 900 Z Z).trans (Ent.to ⟨congrArg (fun z=>some (eI z)) (by omega),Z,ao⟩ Z))) ?_ (fun z hi=>?_))))))
 exact⟨Z,cw _⟩
 refine af (ab (aa Z (jn (al Z (fun z14=>?_) (fun z14=>?_)))))
 refine ae (ak (ab (aa Z ?_)))
 have hz:128≤z.2:=by have:=bK z14;omega
 have hzl:z.1.length≤10:=by have h:=congrArg List.length hi.1;rw[bn]at h;omega
 refine ah ((cz O Z Z Z Z (by decide) (by rw[dv];omega) (by rw[dv];omega)).cast (v':=eI ((z.2%128:Nat):Int)) (congrArg eI (dv z.2))) Z (ah (aP O Z Z (by omega) (by omega)) Z (ah ((Val.conv (b:=true) (dt:=.int .i64) O Z Z Z (by kernel_rfl) (by kernel_rfl)).cast (v':=.c (.d (.int .u8 ((fc z.2).toNat:Int)))) (by rw[eC (by omega) (by omega),jV])) Z (jf [19,15,14,13,3,4] Z (bC (bt O Z Z Z Z Z Z Z Z Z Z Z) Z (aW ?_)))))
 refine jf [20,15,14,13,3,4] Z (bC (eT (own:=false) (xs:=n4 z.1) (ys:=[[.int .u8 (((fc z.2)).toNat:Int)]]) (zs:=n4 (z.1++[(fc z.2)])) (n:=(z.1++[(fc z.2)]).length) O Z (.row Z (cS _).symm) (.whole Z Z (.inr ⟨Z,Z⟩)) (by simp) Z (by simp;omega) (by simp;omega) (by simp) (by simp)) Z (aW ?_))
 refine aW ?_
 refine js Z (jf [4,14,13,3] Z (jn (ag (js Z (ah ((f9 O Z Z Z Z (by decide) (by rw[dw];omega) (by rw[dw];omega)).cast (v':=eI ((z.2/128:Nat):Int)) (congrArg eI (dw z.2))) Z (js Z (jf [3,4,14,13] Z (jn ?_))))))))
 refine⟨(z.1++[(fc z.2)],z.2/128),((aE [21] (e':=[(3,_),(4,_)]) Z Z ⟨Z,Z,ao⟩ Z).trans (bv 21 900 Z Z)).trans (Ent.to ⟨Z,Z,ao⟩ Z),⟨?_,by show z.2/128≤2*n;omega⟩,by show z.2/128<z.2;omega⟩
 show(z.1++[(fc z.2)])++bO (z.2/128)=bO (2*n)
 rw[←hi.1,iX hz];simp
 refine aL (ab (aa Z ?_))
 have hz:z.2<128:=by have:=ce z14;omega
 have hzl:z.1.length≤10:=by have h:=congrArg List.length hi.1;rw[bn]at h;omega
 have hlast:=hi.1
 rw[gD hz]at hlast
 refine ah ((Val.conv (b:=true) (dt:=.int .i64) O Z Z Z (by kernel_rfl) (by kernel_rfl)).cast (v':=.c (.d (.int .u8 ((UInt8.ofNat z.2).toNat:Int)))) (by rw[eC (by omega) (by omega),UInt8.toNat_ofNat'];exact congrArg (fun n:Int=>A.c (.d (.int .u8 n))) (by omega))) Z (jf [26,24,14,13,3,4] Z (bC (bt O Z Z Z Z Z Z Z Z Z Z Z) Z (aW ?_)))
 refine jf [27,24,14,13,3,4] Z (bC (eT (own:=false) (xs:=n4 z.1) (ys:=[[.int .u8 (((UInt8.ofNat z.2)).toNat:Int)]]) (zs:=n4 (z.1++[(UInt8.ofNat z.2)])) (n:=(z.1++[(UInt8.ofNat z.2)]).length) O Z (.row Z (cS _).symm) (.whole Z Z (.inr ⟨Z,Z⟩)) (by simp) Z (by simp;omega) (by simp;omega) (by simp) (by simp)) Z (aW ?_))
 refine aW ?_
 refine ah (dS (p:=z.1++[UInt8.ofNat z.2]) O Z Z Z (.whole Z (by simp) (.inl (fN _))) Z Z (by kernel_rfl) (by kernel_rfl)) Z (js Z (jf [2,14,13,3,4] Z (jr ?_)))
 refine am Z ?_
 rw[←hlast]
theorem ri{n:Nat}(hn:n≤1000000000000000):MQ h1 h2 66 [eI (n:Nat)] [] (Plain (eB true)):=by
 refine ac ?_ Z
 refine jB 5 h1 h2 Tryz.func66 Z fun O hF=>?_
 refine ab (js Z (aX (js Z (jf [3,2] Z (aB Z ((kB (x:=(n:Int)) (lo:= -1000000000000000) (hi:=1000000000000000) h1 h2).plain (u:=eB true) (congrArg eB (by simp;omega))) 5000 Z (js Z (jf [2] Z (jr ?_))))))))
 refine am Z ?_
 rfl
theorem ly{n:Nat}(hn:n≤1000000000000000):MQ h1 h2 28 [eI (n:Nat)] [] (Plain (.tup [bk (bO (2*n)),eB true])):=by
 refine jB 9 h1 h2 Tryz.func28 Z fun O hF=>?_
 refine ab (aa Z (jn (af (ab (js Z (aB Z (ri (n:=n) h1 h2 hn) 6000 Z (js Z (jf [6,3,2,0] Z (jn (al Z (fun z6=>?_) (fun z6=>?_)))))))))))
 exact absurd z6 (by decide)
 refine ae (ab (js Z (jf [7,3,2,0] Z (aB Z (pg (n:=n) h1 h2 hn) 9000 Z (aa Z (jf [3,2,0] Z (jr ?_)))))))
 refine⟨.inl Z,_,(aE [] (e':=[(2,_),(3,_)]) Z Z ⟨Z,Z,ao⟩ Z),_,Z,?_⟩
 exact⟨Z,Z⟩
theorem rk{s:Str}(hs:s.length≤40000)(hL:1048576<L):MQ h1 h2 62 [bk s] [] (Plain (bk (d9 s))):=by
 refine ac ?_ Z
 refine jB 8 h1 h2 Tryz.func62 Z fun O hF=>?_
 refine ab (js Z (aX (js Z (ah (bG (p:=s) O Z Z Z Z Z Z Z Z Z) Z (jf [4,2,0] Z (aB Z (pg (n:=s.length) h1 h2 (by omega)) 6000 Z (js Z ?_)))))))
 have hpl:=bP (m:=2*s.length) (by omega)
 refine ah (aw (p:=bO (2*s.length)) (q:=s) O Z Z Z Z Z Z (by show _+s.length≤L;omega) (by show L≤_;omega)) Z (js Z (jf [2] Z (jr ?_)))
 refine am Z ?_
 rfl
theorem iP{s:Str}(hs:s.length≤40000)(hL:1048576<L):MQ h1 h2 26 [bk s] [] (Plain (.tup [bk (d9 s),eB true])):=by
 refine jB 9 h1 h2 Tryz.func26 Z fun O hF=>?_
 refine ab (aa Z (jn (af (ab (js Z (ah (bG (p:=s) O Z Z Z Z Z Z Z Z Z) Z (js Z (jf [6,3,2,0] Z (jn (al Z (fun z6=>?_) (fun z6=>?_)))))))))))
 exact absurd (bK z6) (by omega)
 refine ae (ab (js Z (jf [7,3,2,0] Z (aB Z (rk (s:=s) h1 h2 hs hL) 9000 Z (aa Z (jf [3,2,0] Z (jr ?_)))))))
 refine⟨.inl Z,_,(aE [] (e':=[(2,_),(3,_)]) Z Z ⟨Z,Z,ao⟩ Z),_,Z,?_⟩
 exact⟨Z,Z⟩
theorem bD(m:Nat):(m:Int).tmod 65521=((m%65521:Nat):Int):=by rw[Int.tmod_eq_emod_of_nonneg (by omega)];omega
theorem rh{s:Str}(hs:s.length≤L):MQ h1 h2 70 [bk s] [] (Plain (eI (gM s:Nat))):=by
 refine ac ?_ Z
 refine jB 27 h1 h2 Tryz.func70 Z fun O hF=>?_
 refine ab (js Z (aX (js Z (aX (js Z (jn (af (ab (js Z (jn (ak (aq (X:=Nat) (fun i=>⟨[(0,bk s),(3,eI ((ga (s.take i)).1:Nat)),(4,eI ((ga (s.take i)).2:Nat)),(5,eI i)],[]⟩) (fun i=>i≤s.length) (fun i=>s.length-i) 0 (Ent.to ⟨Z,Z,Z,Z,ao⟩ Z) ?_ (fun i hi=>?_)))))))))))))
 exact bZ _
 refine af (ab (aa Z (ah (bG (p:=s) O Z Z Z Z Z Z Z Z Z) Z (js Z (jf [9,0,3,4,5] Z (jn (al Z (fun z9=>?_) (fun z9=>?_))))))))
 refine ae (af (ak (ab (bc Z ?_))))
 have hi0:i<s.length:=by have:=bK z9;omega
 have hck:=ik hi0
 have hlt:=gS (s:=s) (i:=i) (by omega)
 have hu8:=(s.getD i 0).toNat_lt
 refine ah (dz (p:=s) (b:=s.getD i 0) O Z Z Z Z Z Z Z (by omega) (iN hi0)) Z (ah ((Val.conv (b:=true) (dt:=.int .u8) O Z Z Z (by kernel_rfl) (by kernel_rfl)).cast (v':=eI (((s.getD i 0).toNat:Nat):Int)) (by rw[eA .i64 _ (by show(-9223372036854775808:Int)≤_;omega) (by show _≤(9223372036854775807:Int);omega)])) Z (ah ((aP O Z Z (by omega) (by omega)).cast (v':=eI (((ga (s.take i)).1+(s.getD i 0).toNat:Nat):Int)) (congrArg eI (by omega))) Z (ah ((cz O Z Z Z Z (by decide) (by rw[bD];omega) (by rw[bD];omega)).cast (v':=eI ((((ga (s.take i)).1+(s.getD i 0).toNat)%65521:Nat):Int)) (congrArg eI (bD _))) Z (js Z (jf [3,9,0,4,5] Z (jn (ag (aa Z (ah ((aP O Z Z (by omega) (by omega)).cast (v':=eI (((ga (s.take i)).2+((ga (s.take i)).1+(s.getD i 0).toNat)%65521:Nat):Int)) (congrArg eI (by omega))) Z (ah ((cz O Z Z Z Z (by decide) (by rw[bD];omega) (by rw[bD];omega)).cast (v':=eI ((((ga (s.take i)).2+((ga (s.take i)).1+(s.getD i 0).toNat)%65521)%65521:Nat):Int)) (congrArg eI (bD _))) Z (js Z (jf [4,3,9,0,5] Z (jn (ag (js Z ?_)))))))))))))))
 first|refine ji Z ?_|refine aQ Z Z ?_
 refine js Z (jf [5,4,3,9,0] Z (jn ?_))
 refine⟨i+1,Ent.to ⟨Z,?_,?_,Z,ao⟩ Z,by omega,by omega⟩
 exact congrArg (fun n:Nat=>some (eI (n:Int))) (by rw[hck])
 exact congrArg (fun n:Nat=>some (eI (n:Int))) (by rw[hck])
 refine aL (ab (aa Z ?_))
 obtain rfl:i=s.length:=by have:=ce z9;omega
 have hlt:=gS (s:=s) (cw _)
 rw[List.take_length]at hlt ⊢
 refine ah (aP O Z Z (by omega) (by omega)) Z (ah ((aP O Z Z (by omega) (by omega)).cast (v':=eI (gM s:Nat)) (congrArg eI (by unfold gM;omega))) Z (js Z (jf [2,9,0,3,4,5] Z (jr ?_))))
 refine am Z ?_
 rfl
theorem pi{s:Str}(hs:s.length≤L):MQ h1 h2 30 [bk s] [] (Plain (eI (gM s:Nat))):=by
 refine ac ?_ Z
 refine jB 5 h1 h2 Tryz.func30 Z fun O hF=>?_
 refine ab (js Z (aX (js Z (jf [3,2] Z (aB Z (rh (s:=s) h1 h2 hs) 5000 Z (js Z (jf [2] Z (jr ?_))))))))
 refine am Z ?_
 rfl
theorem ro{s:Str}(hs:s.length≤L):MQ h1 h2 46 [bk s] [] (Plain (eI (gM s:Nat))):=by
 refine ac ?_ Z
 refine jB 27 h1 h2 Tryz.func46 Z fun O hF=>?_
 refine ab (js Z (aX (aa Z (jn (af (ab (js Z (jn (ak (aq (X:=Nat) (fun i=>⟨[(0,bk s),(3,eI ((ga (s.take i)).1:Nat)),(4,eI ((ga (s.take i)).2:Nat)),(5,eI i)],[]⟩) (fun i=>i≤s.length) (fun i=>s.length-i) 0 (Ent.to ⟨Z,Z,Z,Z,ao⟩ Z) ?_ (fun i hi=>?_)))))))))))
 exact bZ _
 refine af (ab (aa Z (ah (bG (p:=s) O Z Z Z Z Z Z Z Z Z) Z (js Z (jf [9,0,3,4,5] Z (jn (al Z (fun z9=>?_) (fun z9=>?_))))))))
 refine ae (af (ak (ab (bc Z ?_))))
 have hi0:i<s.length:=by have:=bK z9;omega
 have hck:=ik hi0
 have hlt:=gS (s:=s) (i:=i) (by omega)
 have hu8:=(s.getD i 0).toNat_lt
 refine ah (dz (p:=s) (b:=s.getD i 0) O Z Z Z Z Z Z Z (by omega) (iN hi0)) Z (ah ((Val.conv (b:=true) (dt:=.int .u8) O Z Z Z (by kernel_rfl) (by kernel_rfl)).cast (v':=eI (((s.getD i 0).toNat:Nat):Int)) (by rw[eA .i64 _ (by show(-9223372036854775808:Int)≤_;omega) (by show _≤(9223372036854775807:Int);omega)])) Z (ah ((aP O Z Z (by omega) (by omega)).cast (v':=eI (((ga (s.take i)).1+(s.getD i 0).toNat:Nat):Int)) (congrArg eI (by omega))) Z (ah ((cz O Z Z Z Z (by decide) (by rw[bD];omega) (by rw[bD];omega)).cast (v':=eI ((((ga (s.take i)).1+(s.getD i 0).toNat)%65521:Nat):Int)) (congrArg eI (bD _))) Z (js Z (jf [3,9,0,4,5] Z (jn (ag (aa Z (ah ((aP O Z Z (by omega) (by omega)).cast (v':=eI (((ga (s.take i)).2+((ga (s.take i)).1+(s.getD i 0).toNat)%65521:Nat):Int)) (congrArg eI (by omega))) Z (ah ((cz O Z Z Z Z (by decide) (by rw[bD];omega) (by rw[bD];omega)).cast (v':=eI ((((ga (s.take i)).2+((ga (s.take i)).1+(s.getD i 0).toNat)%65521)%65521:Nat):Int)) (congrArg eI (bD _))) Z (js Z (jf [4,3,9,0,5] Z (jn (ag (js Z ?_)))))))))))))))
 first|refine ji Z ?_|refine aQ Z Z ?_
 refine js Z (jf [5,4,3,9,0] Z (jn ?_))
 refine⟨i+1,Ent.to ⟨Z,?_,?_,Z,ao⟩ Z,by omega,by omega⟩
 exact congrArg (fun n:Nat=>some (eI (n:Int))) (by rw[hck])
 exact congrArg (fun n:Nat=>some (eI (n:Int))) (by rw[hck])
 refine aL (ab (aa Z ?_))
 obtain rfl:i=s.length:=by have:=ce z9;omega
 have hlt:=gS (s:=s) (cw _)
 rw[List.take_length]at hlt ⊢
 refine ah (aP O Z Z (by omega) (by omega)) Z (ah ((aP O Z Z (by omega) (by omega)).cast (v':=eI (gM s:Nat)) (congrArg eI (by unfold gM;omega))) Z (js Z (jf [2,9,0,3,4,5] Z (jr ?_))))
 refine am Z ?_
 rfl
end Go.Al
/- What functions of Go's library answer, as contracts of the abstract logic. -/
namespace Go.Al
variable{L:Nat}(h1:4096≤L)(h2:L≤1073741824)
theorem k6{w:World}{k:Nat}{os:Array Obj}:Frame w (Go.Sort.grow (w.drewN k) os) []:=by
 refine⟨Z,Z,Z,?_,fun b hb _=>?_⟩
 show w.heap.size≤(w.heap++os).size
 rw[Array.size_append];omega
 show(w.heap++os)[b]? = w.heap[b]?
 exact Array.getElem?_append_left hb
theorem kT{P:Program}{L f:Nat}{args:List A}{v:A}(hc:ei P f)
    (h: ∀(w:World) (ok:Nat→Prop) (m:Nat→Loc) (vs:List Value),GOk P w ok→RAs L w ok m args vs→Calls P f vs.toArray w (jN fun x w'=>Frame w w' []∧∀ok' m',(∀b,w.heap.size≤b→ok' b)→RA L w' ok' m' v x)):MC P L f args [] (Plain v):=by
 refine⟨hc,fun w m F ok vs h0 h1 h2 h3 h4 h5=>?_⟩
 cases h1
 refine Calls.mono (h w ok m vs h0 h5) fun e w' he=>?_
 cases e with
 | returned x=>
  obtain⟨hf,hx⟩:=he
  exact⟨v,[],m,[],⟨Z,Z⟩,.nil,List.nodup_nil,(by simp),hx _ _ (fun b hb=>⟨by simp,.inr (.inl hb)⟩),hf,fun _ _ _=>rfl,h4⟩
 | _=>exact he
theorem RA.str_inv{L w ok m}{s:ByteArray}{x:Value}(h:RA L w ok m (.c (.d (.str s))) x):x= .string s∧s.size≤L:=by
 cases h with|c h=>cases h with|d h=>cases h with|str h=>exact⟨rfl,h⟩
theorem RA.int_inv'{L w ok m}{k:IntKind}{n:Int}{x:Value}(h:RA L w ok m (.c (.d (.int k n))) x):x= .int k n:=by
 cases h with|c h=>cases h with|d h=>cases h with|int h1 h2=>rfl
theorem GOk.tab{P:Program}{w:World}{ok:Nat→Prop}(h:GOk P w ok){g:Nat}(hg:P.globalNamed "internal/strconv.uint64pow10" = some g):Lib.TabIs P w "internal/strconv.uint64pow10" .u64 Lib.pow10Tab:=by
 obtain⟨_,cs,h1,h2⟩:=h "internal/strconv.uint64pow10" g (by simp[GN]) hg
 rw[GF.tab h2 Z]at h1
 exact h1
variable{n:Int}
theorem rI(hn0: -9223372036854775808≤n)(hn1:n≤9223372036854775807):MQ h1 h2 115 [eI n,eI 10] [] (Plain (bk (Lib.itoa n))):=by
 refine kT ⟨_,_,Tryz.func115,by kernel_rfl,Z⟩ fun w ok m vs h0 h5=>?_
 cases h5 with
 | cons a1 a2=>cases a2 with
  | cons a3 a4=>
   cases a4
   rw[RA.int_inv' a1,RA.int_inv' a3]
   refine Calls.mono (Tryz.strconv_FormatInt_10 n hn0 hn1 w (h0.tab (g:=0) (by kernel_rfl))) fun e w' ⟨he,k,os,hw⟩=>?_
   subst he hw
   refine⟨k6,fun ok' m' _=>.c (.d (.str ?_))⟩
   show(bS (Lib.itoa n)).size≤L
   rw[be]
   have hd: ∀m:Nat,m≤9223372036854775808→(Lib.decDigits m).length≤20:=fun m hm=>lL (by omega)
   unfold Lib.itoa
   split
   ·
    have:=hd n.natAbs (by omega);rw[dV];omega
   ·
    have:=hd n.toNat (by omega);omega
theorem m8(s:Str):(bS s).data.toList=s:=by simp[bS]
abbrev jM(ss:List Str):D:=.slc 1 (ss.map fun p=>[sD p])
theorem jS(hn0: -9223372036854775808≤n)(hn1:n≤9223372036854775807):MQ h1 h2 87 [eI n] [] (Plain (bk (Lib.itoa n))):=by
 refine ac ?_ Z
 refine jB 5 h1 h2 Tryz.func87 Z fun O hF=>?_
 refine ab (js Z (aX (js Z (jf [3,2] Z (aB Z (rI (n:=n) h1 h2 hn0 hn1) 5000 Z (js Z (jf [2] Z (jr ?_))))))))
 refine am Z ?_
 rfl
theorem po{o:Str}(ho:o.length≤1000):MQ h1 h2 109 [eI n,.c (.pt 0 0 0)] [(0,.box [.d (sD o)])] (kD (.tup []) [(0,.box [.d (sD (o++cT o n))])]):=by
 refine jH 11 [0] h1 h2 Tryz.func109 Z fun O hF=>?_
 refine ab (aa Z (jf [4,1] Z (jn (al Z (fun z4=>?_) (fun z4=>?_)))))
 refine ag (js Z (ah (aw (p:=o) (q:=[45]) O Z Z Z Z Z Z (by show o.length+1≤L;omega) (by show L≤_;omega)) Z (jf [6,1] Z (jo Z (aW ?_)))))
 refine jn ?_
 show _∧_
 refine⟨.inr Z,_,cp,_,Z,Z,?_⟩
 rw[show cT o n=[45] by unfold cT;rw[if_pos (bK z4)]]
 refine ab (js Z (ah (gJ (p:=o) (q:=[]) O Z Z Z Z Z Z) Z (jf [8,1] Z (jn (al Z (fun z8=>?_) (fun z8=>?_))))))
 refine ag (js Z (ah (aw (p:=o) (q:=[43]) O Z Z Z Z Z Z (by show o.length+1≤L;omega) (by show L≤_;omega)) Z (jf [10,1] Z (jo Z (aW ?_)))))
 refine jn ?_
 show _∧_
 refine⟨.inr Z,_,cp,_,Z,Z,?_⟩
 rw[show cT o n=[43] by unfold cT;rw[if_neg (ce z4),if_neg (by simpa using z8)]]
 refine ae ?_
 show _∧_
 refine⟨.inr Z,_,cp,_,Z,Z,?_⟩
 rw[show cT o n=[] by unfold cT;rw[if_neg (ce z4),if_pos (by simpa using z8)],List.append_nil]
end Go.Al
/- A slice of texts, read in a world. -/
namespace Go.Al
variable{L:Nat}(h1:4096≤L)(h2:L≤1073741824)
open Go.Proofs Go.RowKit
theorem gV{L:Nat}{w:World}{ok:Nat→Prop}{m:Nat→Loc}{ls:List Str}{v:Value}(h:RA L w ok m (.c (.d (jM ls))) v) :
    (ls=[]∧∃base cap,v= .slice base 0 cap)∨(∃b off cap,v= .slice (some ⟨b,off,none⟩) ls.length cap∧b<w.heap.size∧ls.length≤cap∧∀(j:Nat) s,ls[j]? = some s→w.cell? ⟨b,off+j,none⟩=some (.string (bS s))∧s.length≤L):=by
 cases h with
 | c h => cases h with
  | d h =>
    generalize hx:jM ls=x at h
    unfold jM at hx
    cases h with
    | slc0=>
      injection hx with h1 h2
      exact .inl ⟨List.map_eq_nil_iff.1 h2,_,_,Z⟩
    | slc h1 h2 h3 h4 h5 h6=>
      injection hx with e1 e2
      subst e1;subst e2
      rw[cS]at h1 h2 ⊢
      refine .inr ⟨_,_,_,Z,h5,h2,fun j s hj=>?_⟩
      have hf:(ls.map fun p=>[sD p]).flatten[j*1+0]? = some (sD s):=eh (sz:=1) h3 (e:=[sD s]) (by rw[List.getElem?_map,hj];rfl) Z
      rw[Nat.mul_one,Nat.add_zero]at hf
      obtain⟨u,hu,hr⟩:=h6.get rfl hf
      cases hr with
      | str hs=>exact⟨hu,by rw[be]at hs;exact hs⟩
    | _=>cases hx
theorem Frame.below{w w':World}(h:Frame w w' []):Below w.heap.size w w':=⟨h.os,h.tape,h.output,h.size,fun k hk=>h.block k hk (by simp)⟩
theorem Frame.of_below{w w':World}(h:Below w.heap.size w w'):Frame w w' []:=⟨h.os,h.tape,h.output,h.size,fun k hk _=>h.block k hk⟩
theorem GOk.below{P:Program}{w w':World}{ok:Nat→Prop}(h:GOk P w ok)(hb:Below w.heap.size w w'):GOk P w' ok:=h.mono fun b h1 h2=>⟨h2,hb.block b h1⟩
theorem MC.calls{P:Program}{L f:Nat}{args:List A}{v:A}(h:MC P L f args [] (Plain v)){w:World}{ok:Nat→Prop}{vs:List Value}(hg:GOk P w ok)(ha:RAs L w ok (fun _=>.nil) args vs) :
    Calls P f vs.toArray w (jN fun x w'=>Below w.heap.size w w'∧∃ok' m',RA L w' ok' m' v x):=by
 refine Calls.mono (h.2 w (fun _=>.nil) [] ok vs hg .nil List.nodup_nil (fun b hb=>by cases hb) (fun _ _ _ _ h=>by cases h) ha) fun e w' he=>?_
 cases e with
 | returned x=>
  obtain⟨res,H',m',F',⟨rfl,rfl⟩,_,_,_,hres,hf,_,_⟩:=he
  exact⟨hf.below,_,_,hres⟩
 | _=>exact he.elim
theorem gc(s:Str):Lib.strCells (bS s)=Lib.byteCells s:=by
 unfold Lib.strCells Lib.byteCells
 rw[m8]
theorem rn{s:Str}:MQ h1 h2 56 [bk s] [] (Plain (eB (i5 s))):=by
 refine ac ?_ Z
 refine jB 28 h1 h2 Tryz.func56 Z fun O hF=>?_
 have hsl:s.length≤L:=by have h:=hF;simp only[As.fact,A.fact,M.fact,D.fact,be]at h;exact h.1
 refine ab (js Z (jn (af (ab (js Z (jn (ak (aq (X:=Nat) (fun i=>⟨[(0,bk s),(3,eI i)],[]⟩) (fun i=>i≤s.length∧∀j,j<i→lW (s.getD j 0)=true) (fun i=>s.length-i) 0 (Ent.to ⟨Z,Z,ao⟩ Z) ?_ (fun i hi=>?_)))))))))
 exact⟨bZ _,fun j hj=>absurd hj (Nat.not_lt_zero j)⟩
 refine af (ab (aa Z (ah (bG (p:=s) O Z Z Z Z Z Z Z Z Z) Z (js Z (jf [7,0,3] Z (jn (al Z (fun z7=>?_) (fun z7=>?_))))))))
 refine ae (af (ak (ab (aa Z ?_))))
 have hi0:i<s.length:=by have:=bK z7;omega
 refine ah (dz (p:=s) (b:=s.getD i 0) O Z Z Z Z Z Z Z (by omega) (iN hi0)) Z (aa Z (jf [14,7,0,3] Z (aA 4 Z Z Z (fun hx=>ax hx Z (ax hx Z (c5 hx (dz (p:=s) (b:=s.getD i 0) O Z Z Z Z Z Z Z (by omega) (iN hi0)) Z (ax hx Z (AN.nil))))) Z Z ?_)))
 first|refine ah (ay O Z Z Z Z Z) Z ?_|refine ah (Val.pickB O Z Z Z Z Z) Z ?_|refine ah (ar O Z Z Z Z Z) Z ?_
 refine jf [19,7,0,3] Z (jn (al Z (fun z19=>?_) (fun z19=>?_)))
 refine ab (js Z (jr ?_))
 refine am Z ?_
 have h9:lW (s.getD i 0)=false:=by have:=z19;rw[lr]at this;simpa using this
 rw[ng (by omega) h9]
 refine ae (ag (js Z ?_))
 first|refine ji Z ?_|refine aQ Z Z ?_
 refine js Z (jf [3,19,7,0] Z (jn ?_))
 have h9:lW (s.getD i 0)=true:=by have:=z19;rw[lr]at this;simpa using this
 refine⟨i+1,Ent.to ⟨Z,Z,ao⟩ Z,⟨by omega,fun j hj=>?_⟩,by omega⟩
 by_cases e:j=i
 subst e;exact h9
 exact hi.2 j (by omega)
 refine aL (ab (js Z ?_))
 obtain rfl:i=s.length:=by have:=ce z7;omega
 refine ah (bG (p:=s) O Z Z Z Z Z Z Z Z Z) Z (aa Z (jf [23,7,0,3] Z (aA 3 Z Z Z (fun hx=>ax hx Z (c5 hx (bG (p:=s) O Z Z Z Z Z Z Z Z Z) Z (ax hx Z (AN.nil)))) Z Z ?_)))
 first|refine ah (ar O Z Z Z Z Z) Z ?_|refine ah (ay O Z Z Z Z Z) Z ?_|refine ah (Val.pickB O Z Z Z Z Z) Z ?_
 refine js Z (jf [2,7,0,3] Z (jr ?_))
 refine am Z ?_
 rw[nf hi.2]
 exact congrArg eB (by cases decide ((1:Int)≤s.length)<;>rfl)
theorem rz{s:Str}:MQ h1 h2 23 [bk s] [] (Plain (eB (i5 s))):=by
 refine ac ?_ Z
 refine jB 5 h1 h2 Tryz.func23 Z fun O hF=>?_
 refine ab (js Z (aX (js Z (jf [3,2] Z (aB Z (rn (s:=s) h1 h2) 5000 Z (js Z (jf [2] Z (jr ?_))))))))
 refine am Z ?_
 rfl
theorem ry{s:Str}:MQ h1 h2 35 [bk s] [] (Plain (eB (i5 s))):=by
 refine ac ?_ Z
 refine jB 25 h1 h2 Tryz.func35 Z fun O hF=>?_
 have hsl:s.length≤L:=by have h:=hF;simp only[As.fact,A.fact,M.fact,D.fact,be]at h;exact h.1
 refine ab (js Z (jn (af (ab (js Z (ah (bG (p:=s) O Z Z Z Z Z Z Z Z Z) Z (jf [5,2,0] Z (aB Z (mV (n:=(s.length:Int)) h1 h2) 7000 Z (jf [6,2,0] Z (aB Z (i7 (x:=(s.length:Int)) (lo:=1) (hi:=10) h1 h2) 8000 Z (js Z (jf [8,2,0] Z (jn (al Z (fun z8=>?_) (fun z8=>?_)))))))))))))))
 refine ab (js Z (jr ?_))
 refine am Z ?_
 have h9:cC 1 10 (s.length:Int)=false:=by simpa using z8
 unfold cC at h9
 rw[show i5 s=false by unfold i5;rw[h9];rfl]
 refine ae (af (ab (js Z (jn (ak (aq (X:=Nat) (fun i=>⟨[(0,bk s),(3,eI i)],[]⟩) (fun i=>i≤s.length∧∀j,j<i→lW (s.getD j 0)=true) (fun i=>s.length-i) 0 (Ent.to ⟨Z,Z,ao⟩ Z) ?_ (fun i hi=>?_)))))))
 exact⟨bZ _,fun j hj=>absurd hj (Nat.not_lt_zero j)⟩
 refine af (ab (aa Z (ah (bG (p:=s) O Z Z Z Z Z Z Z Z Z) Z (js Z (jf [12,0,3] Z (jn (al Z (fun z12=>?_) (fun z12=>?_))))))))
 refine ae (af (ak (ab (aa Z ?_))))
 have hi0:i<s.length:=by have:=bK z12;omega
 refine ah (dz (p:=s) (b:=s.getD i 0) O Z Z Z Z Z Z Z (by omega) (iN hi0)) Z (aa Z (jf [19,12,0,3] Z (aA 4 Z Z Z (fun hx=>ax hx Z (ax hx Z (c5 hx (dz (p:=s) (b:=s.getD i 0) O Z Z Z Z Z Z Z (by omega) (iN hi0)) Z (ax hx Z (AN.nil))))) Z Z ?_)))
 first|refine ah (ay O Z Z Z Z Z) Z ?_|refine ah (Val.pickB O Z Z Z Z Z) Z ?_|refine ah (ar O Z Z Z Z Z) Z ?_
 refine jf [24,12,0,3] Z (jn (al Z (fun z24=>?_) (fun z24=>?_)))
 refine ab (js Z (jr ?_))
 refine am Z ?_
 have h9:lW (s.getD i 0)=false:=by have:=z24;rw[lr]at this;simpa using this
 rw[ng (by omega) h9]
 refine ae (ag (js Z ?_))
 first|refine ji Z ?_|refine aQ Z Z ?_
 refine js Z (jf [3,24,12,0] Z (jn ?_))
 have h9:lW (s.getD i 0)=true:=by have:=z24;rw[lr]at this;simpa using this
 refine⟨i+1,Ent.to ⟨Z,Z,ao⟩ Z,⟨by omega,fun j hj=>?_⟩,by omega⟩
 by_cases e:j=i
 subst e;exact h9
 exact hi.2 j (by omega)
 refine aL (ab (js Z (jr ?_)))
 refine am Z ?_
 obtain rfl:i=s.length:=by have:=ce z12;omega
 have h9:cC 1 10 (s.length:Int)=true:=by simpa using z8
 unfold cC at h9
 rw[nf hi.2,h9]
theorem nE{p:Str}{ts:List Tm}{i:Nat}(h:i<ts.length):bb 10 (bo p (ts.take (i+1)))=bb 10 (bo p (ts.take i))++(p++[32]++tS (ts.getD i default)++[10]):=by
 rw[List.take_succ_eq_append_getElem h,au h]
 unfold bo
 rw[List.map_append,List.map_cons,List.map_nil,bF]
 simp[bb]
theorem pT{p:Str}{ts:List Tm}{i:Nat}(hp:p.length≤4)(h:bh ts 6=true):(bb 10 (bo p (ts.take i))).length≤306:=by
 refine dm hp ?_
 unfold bh at h ⊢
 simp only[bd,decide_eq_true_eq,List.all_eq_true]at h ⊢
 exact⟨fun t ht=>h.1 t (List.mem_of_mem_take ht),by rw[List.length_take];omega⟩
theorem m6{p:Str}{ts:List Tm}(hp:p.length≤4)(ht:bh ts 6=true):MQ h1 h2 63 [bk p,dY ts] [] (Plain (bk (bb 10 (bo p ts)))):=by
 refine ac ?_ Z
 refine jB 24 h1 h2 Tryz.func63 Z fun O hF=>?_
 obtain⟨htm,htl⟩:=cJ (n:=6) ht
 have hl:ts.length≤L:=by omega
 refine ab (js Z (aX (js Z (jn (af (ab (js Z (jn (ak (aq (X:=Nat) (fun i=>⟨[(0,bk p),(1,dY ts),(5,bk (bb 10 (bo p (ts.take i)))),(6,eI i)],[]⟩) (fun i=>i≤ts.length) (fun i=>ts.length-i) 0 (Ent.to ⟨Z,Z,Z,Z,ao⟩ Z) ?_ (fun i hi=>?_)))))))))))
 exact bZ _
 refine af (ab (aa Z ?_))
 first|refine bA Z ?_|refine js Z ?_|refine aQ Z Z ?_
 refine js Z (jf [10,0,1,5,6] Z (jn (al Z (fun z10=>?_) (fun z10=>?_))))
 refine ae (af (ak (ag ?_)))
 have hi0:i<ts.length:=by have:=bK z10;omega
 have hti:(ts.getD i default).term=true:=by rw[au hi0];exact htm _ (List.getElem_mem hi0)
 have hok:(ts.getD i default).ok=true:=by unfold Tm.term at hti;simp only[bd]at hti;exact hti.1
 have htl4:=jh hti
 have hO:=pT (i:=i) hp ht
 refine aa Z (ah (aw (p:=p) (q:=[32]) O Z Z Z Z Z Z (by show p.length+1≤L;omega) (by show L≤_;omega)) Z (aa Z (ah (aF O Z Z Z Z Z Z Z Z (cQ hi0)) Z (jf [18,15,13,10,0,1,5,6] Z (br O Z Z Z Z (pm (t:=(ts.getD i default)) h1 h2 hok) (.cons (.c (.sub Z)) .nil) Z Z Z Z Z (B0:=20000) Z (ah (aw (p:=(p++[32])) (q:=(tS (ts.getD i default))) O Z Z Z Z Z Z (by rw[bn];show p.length+1+_≤L;omega) (by show L≤_;omega)) Z (ah (aw (p:=(p++[32]++tS (ts.getD i default))) (q:=[10]) O Z Z Z Z Z Z (by rw[bn,bn];show p.length+1+_+1≤L;omega) (by show L≤_;omega)) Z (ah (aw (p:=(bb 10 (bo p (ts.take i)))) (q:=(p++[32]++tS (ts.getD i default)++[10])) O Z Z Z Z Z Z (by rw[bn,bn,bn];show _+(p.length+1+_+1)≤L;omega) (by show L≤_;omega)) Z (js Z (jf [5,10,0,1,6] Z (jn (ag (js Z ?_)))))))))))))
 first|refine ji Z ?_|refine aQ Z Z ?_
 refine js Z (jf [6,5,10,0,1] Z (jn ?_))
 refine⟨i+1,Ent.to ⟨Z,Z,?_,Z,ao⟩ Z,by omega,by omega⟩
 exact congrArg (fun s=>some (bk s)) (nE hi0).symm
 refine aL (ab (aa Z (jr ?_)))
 refine am Z ?_
 obtain rfl:i=ts.length:=by have:=ce z10;omega
 rw[List.take_length]
theorem rK{a:An}{k:Int}:MQ h1 h2 64 [ptr a.data,eI k] [] (Plain (eI (e7 (fun p:Pt=>decide (p.k=k)) a.pts))):=by
 refine ac ?_ Z
 refine jB 26 h1 h2 Tryz.func64 Z fun O hF=>?_
 have hlp:a.pts.length≤L:=by simpa[As.fact,A.fact,M.fact,D.fact,Ds.fact]using hF.1.2.2.2.1.1
 refine ab (js Z (jn (af (ab (js Z (jn (ak (aq (X:=Nat) (fun i=>⟨[(0,ptr a.data),(1,eI k),(5,eI i)],[]⟩) (fun i=>i≤a.pts.length∧∀j (h:j<a.pts.length),j<i→(fun p:Pt=>decide (p.k=k)) a.pts[j]=false) (fun i=>a.pts.length-i) 0 (Ent.env ⟨Z,Z,Z,ao⟩) ?_ (fun i hi=>?_)))))))))
 exact⟨bZ _,fun j h hj=>absurd hj (Nat.not_lt_zero j)⟩
 refine af (ab (aJ Z (js Z ?_)))
 first|refine bA Z ?_|refine js Z ?_|refine aQ Z Z ?_
 refine js Z (jf [12,0,1,5] Z (jn (al Z (fun z12=>?_) (fun z12=>?_))))
 refine ae (af (ak (ab ?_)))
 have hil:i<a.pts.length:=by have:=bK z12;omega
 refine aJ Z (js Z ?_)
 first|refine n0 Z Z ?_|refine eZ Z Z ?_|refine aQ Z Z ?_
 refine aJ Z (jf [24,12,0,1,5] Z (jn (al Z (fun z24=>?_) (fun z24=>?_))))
 refine ab (aa Z (jr ?_))
 refine am Z ?_
 rw[show e7 (fun p:Pt=>decide (p.k=k)) a.pts=i from fY hil hi.2 (by rw[←au hil];exact z24)]
 refine ae (ag (js Z ?_))
 first|refine ji Z ?_|refine aQ Z Z ?_
 refine js Z (jf [5,24,12,0,1] Z (jn ?_))
 refine⟨i+1,Ent.env ⟨Z,Z,Z,ao⟩,⟨by omega,fun j h hj=>?_⟩,by omega⟩
 by_cases e:j=i
 subst e;rw[←au h];exact z24
 exact hi.2 j h (by omega)
 refine aL (ab (js Z (jr ?_)))
 refine am Z ?_
 have h9:=ce z12
 rw[show e7 (fun p:Pt=>decide (p.k=k)) a.pts= -1 from fX fun j hj=>hi.2 j hj (by omega)]
theorem lI{α:Type}{p:α→Bool}{l:List α}:e7 p l=match l.findIdx? p with
 | none=> -1
 | some i=>(i:Int):=by
 cases h:l.findIdx? p with
 | none=>
  rw[List.findIdx?_eq_none_iff]at h
  exact fX fun j hj=>h _ (List.getElem_mem hj)
 | some i=>
  obtain⟨h1,h2⟩:=List.findIdx?_eq_some_iff_findIdx_eq.1 h
  obtain⟨h3,h4⟩:=(List.findIdx_eq h1).1 h2
  exact fY h1 (fun j hj hji=>by have:=h4 j hji;simpa using this) h3
theorem kN{a:An}{i:Nat}(h:e7 (fun p:Pt=>decide (p.k=(i:Int))) a.pts<0):mQ a i=[iH (a.code.getD i default)]:=by
 rw[lI]at h
 unfold mQ
 cases hx:a.pts.findIdx? (fun p=>decide (p.k=(i:Int)))with
 | none=>rfl
 | some k=>
  rw[hx]at h
  have h2:(k:Int)<0:=h
  omega
theorem gT{a:An}{i k:Nat}(h:e7 (fun p:Pt=>decide (p.k=(i:Int))) a.pts=(k:Int)):k<a.pts.length∧mQ a i=bQ::bo kz (a.pts.getD k default).fs++[iH (a.code.getD i default)]:=by
 rw[lI]at h
 unfold mQ
 cases hx:a.pts.findIdx? (fun p=>decide (p.k=(i:Int)))with
 | none=>
  rw[hx]at h
  have h2:(-1:Int)=(k:Int):=h
  omega
 | some j=>
  rw[hx]at h
  obtain rfl:j=k:=by have h':(j:Int)=k:=h;omega
  exact⟨(List.findIdx?_eq_some_iff_findIdx_eq.1 hx).1,Z⟩
theorem fF{α:Type}{p:α→Bool}{l:List α}(h:0≤e7 p l): ∃k:Nat,e7 p l=k:=⟨_,(Int.toNat_of_nonneg h).symm⟩
def qe(a:An):Str:=bb 10 (bo b0 a.pre)++bb 10 (bo bz a.post)
def mJ(a:An)(i:Nat):Str:=qe a++bb 10 (cn a i)
theorem ot{a:An}:mJ a a.code.length=cx a:=by
 unfold mJ qe cx eb
 rw[bF,bF]
theorem nr{a:An}{i:Nat}:mJ a (i+1)=mJ a i++bb 10 (mQ a i):=by
 unfold mJ
 rw[cn,bF,dd]
theorem oG{a:An}(h:cU a=true):(qe a).length≤612:=by
 obtain⟨_,_,_,h3,h4,_,_⟩:=dO h
 have q1:=dm (w:=b0) (by decide) h3
 have q2:=dm (w:=bz) (by decide) h4
 unfold qe
 rw[bn];omega
theorem oq{a:An}(h:cU a=true){i:Nat}(hi:i≤a.code.length):(mJ a i).length≤28000:=by
 have h1:=oG h
 have h2:=il h hi
 obtain⟨_,h3,_⟩:=dO h
 unfold mJ
 rw[bn];omega
theorem pj{a:An}(hv:cU a=true)(hL:1048576<L):MQ h1 h2 27 [ptr a.data] [] (Plain (bk (cx a))):=by
 refine ac ?_ Z
 refine jB 55 h1 h2 Tryz.func27 Z fun O hF=>?_
 obtain⟨hin,hcl,hcl1,htp,hto,hpl,hpf⟩:=dO hv
 have hl:a.code.length≤L:=by omega
 have hlp:a.pts.length≤L:=by omega
 have q1:=dm (w:=b0) (by decide) htp
 have q2:=dm (w:=bz) (by decide) hto
 refine ab (js Z (jn (af (kA [_,_,_,_,_,_,_,_,_,_,_,_] [bp,aT [0],aT [0,1],aT [0,1,2],pe (rg 0 4) 0,pn [] 0 1,pn [5] 0 1,pn [5,6] 0 1,pn [5,6,7] 0 1,pe (rg 0 9) 1,pn (rg 0 10) 2 2,pn (rg 0 11) 2 2] [4,9] [_,_,_] (r7 Z (ai (aD O (B0:=11000) Z Z Z Z (m6 (p:=b0) (ts:=a.pre) h1 h2 (by decide) htp) (.cons (.c .d) (.cons (.c .d) .nil)) Z Z Z Z Z) (ai (kc Z (V Z)) (ai (kc Z (V Z)) (ai (kc Z (V Z)) (ai (kc Z (V Z)) (ai (aD O (B0:=16000) Z Z Z Z (m6 (p:=bz) (ts:=a.post) h1 h2 (by decide) hto) (.cons (.c .d) (.cons (.c .d) .nil)) Z Z Z Z Z) (ai (aw (p:=(bb 10 (bo b0 a.pre))) (q:=(bb 10 (bo bz a.post))) O Z Z Z Z Z Z (by show _+_≤L;omega) (by show L≤_;omega)) (kc Z trivial))))))))) ?_))))
 refine jw [3,2,0] Z (nZ ?_)
 refine af (ab (js Z (jn (ak (aq (X:=Nat) (fun i=>⟨[(0,ptr a.data),(3,bk (mJ a i)),(4,eI i)],[]⟩) (fun i=>i≤a.code.length) (fun i=>a.code.length-i) 0 (Ent.to ⟨Z,congrArg (fun s=>some (bk s)) (by unfold mJ qe;simp[cn,bb]),Z,ao⟩ Z) ?_ (fun i hi=>?_))))))
 exact bZ _
 refine af (ab (aJ Z (js Z ?_)))
 first|refine bA Z ?_|refine js Z ?_|refine aQ Z Z ?_
 refine js Z (jf [23,0,3,4] Z (jn (al Z (fun z23=>?_) (fun z23=>?_))))
 refine ae (af (ak (ab ?_)))
 have hi0:i<a.code.length:=by have:=bK z23;omega
 have hAl:=oq hv (i:=i) (by omega)
 have hil:=jq (hin i hi0)
 refine aa Z (aB Z (rK (a:=a) (k:=(i:Int)) h1 h2) 29000 Z (js Z (jf [5,23,0,3,4] Z (jn (af (ab (aa Z (jn ?_))))))))
 obtain⟨M,hM0,hM1,hMl,hmid⟩: ∃M:Str,((e7 (fun p:Pt=>decide (p.k=(i:Int))) a.pts)<0→M=[])∧(∀k:Nat,(e7 (fun p:Pt=>decide (p.k=(i:Int))) a.pts)=k→M=(bQ++[10]++bb 10 (bo kz (a.pts.getD k default).fs)))∧M.length≤320∧M++(iH (a.code.getD i default)++[10])=bb 10 (mQ a i):=by
  have hcl3:=lM hv hi0
  by_cases h:(e7 (fun p:Pt=>decide (p.k=(i:Int))) a.pts)<0
  exact⟨[],fun _=>rfl,fun k hk=>by omega,by simp,by rw[kN h];simp[bb]⟩
  obtain⟨k,hk⟩:=fF (show 0≤(e7 (fun p:Pt=>decide (p.k=(i:Int))) a.pts) by omega)
  obtain⟨hk1,hk2⟩:=gT hk
  have e:(bQ++[10]++bb 10 (bo kz (a.pts.getD k default).fs))++(iH (a.code.getD i default)++[10])=bb 10 (mQ a i):=by rw[hk2];simp[bb,bF]
  refine⟨_,fun h9=>by omega,fun j hj=>by rw[show j=k by omega],?_,e⟩
  have:=congrArg List.length e
  have hg:=dm (w:=kz) (by decide) (hpf k hk1)
  rw[bn,bn];show 5+1+_≤320;omega
 refine bJ ⟨[(0,ptr a.data),(3,bk (mJ a i++M)),(4,eI i)],[]⟩ ?_ ?_
 refine al Z (fun z30=>?_) (fun z30=>?_)
 refine ag ?_
 obtain⟨k,hk⟩:=fF (show 0≤(e7 (fun p:Pt=>decide (p.k=(i:Int))) a.pts) by simpa using z30)
 obtain⟨hk1,_⟩:=gT hk
 have hgl:=dm (w:=kz) (by decide) (hpf k hk1)
 rw[hk]
 refine aJ Z (aa Z (ah (aF O Z Z Z Z Z Z Z Z (cQ hk1)) Z (aa Z (jf [39,31,30,29,5,23,0,3,4] Z (aB Z (m6 (p:=kz) (ts:=(a.pts.getD k default).fs) h1 h2 (by decide) (hpf k hk1)) 41000 Z (ah (aw (p:=(bQ++[10])) (q:=(bb 10 (bo kz (a.pts.getD k default).fs))) O Z Z Z Z Z Z (by show 6+_≤L;omega) (by show L≤_;omega)) Z (ah (aw (p:=(mJ a i)) (q:=(bQ++[10]++bb 10 (bo kz (a.pts.getD k default).fs))) O Z Z Z Z Z Z (by rw[bn,bn];show _+(6+_)≤L;omega) (by show L≤_;omega)) Z (js Z (jf [3,30,29,5,23,0,4] Z (jn ?_))))))))))
 exact⟨Z,Ent.to ⟨Z,congrArg (fun s=>some (bk s)) (by rw[hM1 k hk]),Z,ao⟩ Z⟩
 refine ae ?_
 exact⟨Z,Ent.to ⟨Z,congrArg (fun s=>some (bk s)) (by rw[hM0 (by simpa using z30),List.append_nil]),Z,ao⟩ Z⟩
 refine ag (aJ Z (aa Z (ah (aF O Z Z Z Z Z Z Z Z (cQ hi0)) Z (js Z (jf [50,43,0,3,4] Z (aB Z (rj (x:=a.code.getD i default) h1 h2 (hin i hi0)) 52000 Z (ah (aw (p:=(iH (a.code.getD i default))) (q:=[10]) O Z Z Z Z Z Z (by show _+1≤L;omega) (by show L≤_;omega)) Z (ah (aw (p:=(mJ a i++M)) (q:=(iH (a.code.getD i default)++[10])) O Z Z Z Z Z Z (by rw[bn,bn];show _+_+(_+1)≤L;omega) (by show L≤_;omega)) Z (js Z (jf [3,0,4] Z (jn (ag (js Z ?_)))))))))))))
 first|refine ji Z ?_|refine aQ Z Z ?_
 refine js Z (jf [4,3,0] Z (jn ?_))
 refine⟨i+1,Ent.to ⟨Z,?_,Z,ao⟩ Z,by omega,by omega⟩
 exact congrArg (fun s=>some (bk s)) (by rw[nr,←hmid];simp[bb])
 refine aL (ab (aa Z (jr ?_)))
 refine am Z ?_
 obtain rfl:i=a.code.length:=by have:=ce z23;omega
 rw[ot]
theorem nS{n:Nat}(h:n<256):IntKind.u8.wrap ((n:Nat):Int)=n:=eC (by omega) (by omega)
theorem ph{n:Nat}(hn:n≤1000000000000000):MQ h1 h2 44 [eI (n:Nat)] [] (Plain (bk (bO (2*n)))):=by
 refine ac ?_ Z
 refine jB 29 h1 h2 Tryz.func44 Z fun O hF=>?_
 have hpl:=bP (m:=2*n) (by omega)
 refine ab (js Z (aX (js Z (ah (aP O Z Z (by omega) (by omega)) Z (js Z (jf [3,2,0] Z (jn (af (ab (aa Z (jn (al Z (fun z8=>?_) (fun z8=>?_)))))))))))))
 exact absurd (bK z8) (by omega)
 refine ae (ab (js Z (jn (af (ak (aq (X:=Str×Nat) (fun z=>⟨[(3,eI (z.2:Nat)),(4,.c (.rs 900 0 z.1.length))],[(900,.row false 1 (n4 z.1))]⟩) (fun z=>z.1++bO z.2=bO (2*n)∧z.2≤2*n) (fun z=>z.2) ([],2*n) ((ew 4 900 1 false Z Z).trans (Ent.to (e':=[(3,_),(4,_)]) ⟨congrArg (fun z=>some (eI z)) (by omega),Z,ao⟩ Z)) ?_ (fun z hi=>?_)))))))
 exact⟨Z,cw _⟩
 refine af (ab (aa Z (jn (al Z (fun z13=>?_) (fun z13=>?_)))))
 refine ae (af (ak (ag (aa Z ?_))))
 have hz:128≤z.2:=by have:=bK z13;omega
 have hzl:z.1.length≤10:=by have h:=congrArg List.length hi.1;rw[bn]at h;omega
 refine ah ((cz O Z Z Z Z (by decide) (by rw[dv];omega) (by rw[dv];omega)).cast (v':=eI ((z.2%128:Nat):Int)) (congrArg eI (dv z.2))) Z (ah ((Val.conv (b:=true) (dt:=.int .i64) O Z Z Z (by kernel_rfl) (by kernel_rfl)).cast (v':=.c (.d (.int .u8 ((z.2%128:Nat):Int)))) (by rw[nS (by omega)])) Z (ah ((kj (k:=.u8) (n:=((z.2%128:Nat):Int)+128) O Z Z (by show(0:Int)≤_;omega) (by show _≤(255:Int);omega)).cast (v':=.c (.d (.int .u8 ((fc z.2).toNat:Int)))) (by rw[jV])) Z (jf [20,16,13,12,3,4] Z (bC (bt O Z Z Z Z Z Z Z Z Z Z Z) Z (aW ?_)))))
 refine jf [21,16,13,12,3,4] Z (bC (eT (own:=false) (xs:=n4 z.1) (ys:=[[.int .u8 (((fc z.2)).toNat:Int)]]) (zs:=n4 (z.1++[(fc z.2)])) (n:=(z.1++[(fc z.2)]).length) O Z (.row Z (cS _).symm) (.whole Z Z (.inr ⟨Z,Z⟩)) (by simp) Z (by simp;omega) (by simp;omega) (by simp) (by simp)) Z (aW ?_))
 refine aW ?_
 refine js Z (jf [4,13,12,3] Z (jn (ag (js Z (ah ((f9 O Z Z Z Z (by decide) (by rw[dw];omega) (by rw[dw];omega)).cast (v':=eI ((z.2/128:Nat):Int)) (congrArg eI (dw z.2))) Z (js Z (jf [3,4,13,12] Z (jn ?_))))))))
 refine⟨(z.1++[(fc z.2)],z.2/128),((aE [22] (e':=[(3,_),(4,_)]) Z Z ⟨Z,Z,ao⟩ Z).trans (bv 22 900 Z Z)).trans (Ent.to ⟨Z,Z,ao⟩ Z),⟨?_,by show z.2/128≤2*n;omega⟩,by show z.2/128<z.2;omega⟩
 show(z.1++[(fc z.2)])++bO (z.2/128)=bO (2*n)
 rw[←hi.1,iX hz];simp
 refine aL (ab (aa Z ?_))
 have hz:z.2<128:=by have:=ce z13;omega
 have hzl:z.1.length≤10:=by have h:=congrArg List.length hi.1;rw[bn]at h;omega
 have hlast:=hi.1
 rw[gD hz]at hlast
 refine ah ((Val.conv (b:=true) (dt:=.int .i64) O Z Z Z (by kernel_rfl) (by kernel_rfl)).cast (v':=.c (.d (.int .u8 ((UInt8.ofNat z.2).toNat:Int)))) (by rw[eC (by omega) (by omega),UInt8.toNat_ofNat'];exact congrArg (fun n:Int=>A.c (.d (.int .u8 n))) (by omega))) Z (jf [25,23,13,12,3,4] Z (bC (bt O Z Z Z Z Z Z Z Z Z Z Z) Z (aW ?_)))
 refine jf [26,23,13,12,3,4] Z (bC (eT (own:=false) (xs:=n4 z.1) (ys:=[[.int .u8 (((UInt8.ofNat z.2)).toNat:Int)]]) (zs:=n4 (z.1++[(UInt8.ofNat z.2)])) (n:=(z.1++[(UInt8.ofNat z.2)]).length) O Z (.row Z (cS _).symm) (.whole Z Z (.inr ⟨Z,Z⟩)) (by simp) Z (by simp;omega) (by simp;omega) (by simp) (by simp)) Z (aW ?_))
 refine aW ?_
 refine ah (dS (p:=z.1++[UInt8.ofNat z.2]) O Z Z Z (.whole Z (by simp) (.inl (fN _))) Z Z (by kernel_rfl) (by kernel_rfl)) Z (js Z (jf [2,13,12,3,4] Z (jr ?_)))
 refine am Z ?_
 rw[←hlast]
theorem rq{s:Str}(hs:s.length≤40000)(hL:1048576<L):MQ h1 h2 42 [bk s] [] (Plain (.tup [bk (d9 s),eB true])):=by
 refine jB 13 h1 h2 Tryz.func42 Z fun O hF=>?_
 refine ab (aa Z (jn (af (ab (js Z (ah (bG (p:=s) O Z Z Z Z Z Z Z Z Z) Z (js Z (jf [6,3,2,0] Z (jn (al Z (fun z6=>?_) (fun z6=>?_)))))))))))
 exact absurd (bK z6) (by omega)
 refine ae (ab (js Z (ah (bG (p:=s) O Z Z Z Z Z Z Z Z Z) Z (jf [8,3,2,0] Z (aB Z (mV (n:=(s.length:Int)) h1 h2) 10000 Z (jf [9,3,2,0] Z (aB Z (ph (n:=s.length) h1 h2 (by omega)) 11000 Z (js Z ?_))))))))
 have hpl:=bP (m:=2*s.length) (by omega)
 refine ah (aw (p:=bO (2*s.length)) (q:=s) O Z Z Z Z Z Z (by show _+s.length≤L;omega) (by show L≤_;omega)) Z (aa Z (jf [3,2,0] Z (jr ?_)))
 refine⟨.inl Z,_,(aE [] (e':=[(2,_),(3,_)]) Z Z ⟨Z,Z,ao⟩ Z),_,Z,?_⟩
 exact⟨Z,Z⟩
variable{xs:List Int}
theorem qZ{v:Int}:MQ h1 h2 132 [cr xs,eI v] [] (Plain (eI (e7 (fun x=>decide (x=v)) xs))):=by
 refine ac ?_ Z
 refine jB 19 h1 h2 Tryz.func132 Z fun O hF=>?_
 have hl:xs.length≤L:=by simpa[As.fact,A.fact,M.fact,D.fact,Ds.fact]using hF.1.1
 refine ab (js Z (jn (af (ab (js Z ?_)))))
 first|refine bA Z ?_|refine js Z ?_|refine aQ Z Z ?_
 refine js Z (jn (ak (aq (X:=Nat) (fun i=>⟨[(0,cr xs),(1,eI v),(6,cr xs),(7,eI xs.length),(8,eI i)],[]⟩) (fun i=>i≤xs.length∧∀j (h:j<xs.length),j<i→(fun x=>decide (x=v)) xs[j]=false) (fun i=>xs.length-i) 0 (Ent.to ⟨Z,Z,Z,Z,Z,ao⟩ Z) ?_ (fun i hi=>?_))))
 exact⟨bZ _,fun j h hj=>absurd hj (Nat.not_lt_zero j)⟩
 refine ab (js Z (jn (af (al Z (fun z9=>?_) (fun z9=>?_)))))
 refine ae (af (ak (ab ?_)))
 have hil:i<xs.length:=by have:=bK z9;omega
 refine aa Z (aX (bc Z (ah (aF O Z Z Z Z Z Z Z Z (cQ hil)) Z (aa Z (jf [16,5,10,9,0,1,6,7,8] Z (jn (al Z (fun z16=>?_) (fun z16=>?_))))))))
 refine ab (aa Z (jr ?_))
 refine am Z ?_
 rw[au hil]at z16
 rw[fY hil hi.2 (decide_eq_true (bK z16).symm)]
 refine ae (ag ?_)
 first|refine ji Z ?_|refine aQ Z Z ?_
 refine js Z (jn ?_)
 refine⟨i+1,Ent.to ⟨Z,Z,Z,Z,Z,ao⟩ Z,⟨by omega,fun j h hj=>?_⟩,by omega⟩
 by_cases e:j=i
 subst e;rw[au h]at z16;exact decide_eq_false fun e=>ce z16 e.symm
 exact hi.2 j h (by omega)
 refine aL (ab (js Z (jr ?_)))
 refine am Z ?_
 have h9:=ce z9
 rw[fX (fun j hj=>hi.2 j hj (by omega))]
theorem q6{v:Int}:MQ h1 h2 129 [cr xs,eI v] [] (Plain (eB (xs.contains v))):=by
 refine ac ?_ Z
 refine jB 9 h1 h2 Tryz.func129 Z fun O hF=>?_
 refine ab (js Z (aX (aa Z (jf [6,5,4] Z (aB Z (qZ (xs:=xs) (v:=v) h1 h2) 8000 Z (aa Z (jf [4] Z (jr ?_))))))))
 refine am Z ?_
 refine congrArg eB (Eq.trans (kJ (p:=fun x=>decide (x=v)) (l:=xs)) ?_)
 rw[List.contains_eq_any_beq]
 exact List.any_congr Z fun x=>decide_eq_decide.2 ⟨fun e=>e.symm,fun e=>e.symm⟩
theorem q7{x:Int}:MQ h1 h2 113 [eI x] [] (Plain (eB (me x))):=by
 refine ac ?_ Z
 refine jB 6 h1 h2 Tryz.func113 Z fun O hF=>?_
 refine ab (js Z (aX (bC (bt O Z Z Z Z Z Z Z Z Z Z Z) Z (aW ?_))))
 refine bf (aE [3] (e':=[(0,_),(3,_)]) Z Z ⟨Z,Z,ao⟩ Z) (bf (Ent.freeze 3 (e':=[(0,_),(3,_)]) Z (.cons Z (.keep Z) (.cons Z (.c (.row Z Z)) .nil)) (.skip .nil)) ?_)
 refine aW ?_
 refine js Z (jf [4,3] Z (aB Z (q6 (xs:=[0,1,2,4,5,6,9]) (v:=x) h1 h2) 6000 Z (js Z (jf [2] Z (jr ?_)))))
 refine am Z ?_
 rfl
theorem pc:MQ h1 h2 114 [] [] (Plain (.c (.d (jM sL)))):=by
 refine MC.data (jB 2 h1 h2 Tryz.func114 Z fun O hF=>?_)
 refine ab (js Z (aX (bC (bt O Z Z Z Z Z Z Z Z Z Z Z) Z (js Z (jr ?_)))))
 refine am Z ?_
 exact .v (.c (.whole Z Z))
theorem pU{k:Nat}{a:Int}(hk:k<12)(ha: -1000000000≤a∧a≤1000000000):MQ h1 h2 84 [.agg [.d (.int .i64 (k:Nat)),.d (.int .i64 a)]] [] (Plain (bk (iH (⟨(k:Int),a⟩:In)))):=by
 refine ac ?_ Z
 refine jB 21 h1 h2 Tryz.func84 Z fun O hF=>?_
 have hol:=jm (o:=(k:Int)) (by omega) (by omega)
 have hal:=gF ha
 have hkw:sL.getD k default=jK (k:Int):=rfl
 refine ab (jx Z (aW ?_))
 refine bf (Ent.freeze 1 (e':=[(1,_),(0,_)]) Z (.cons Z (.c (.box (cs:=[.int .i64 (k:Nat),.int .i64 a]) Z (bj Z))) (fe [0] Z)) (.skip .nil)) ?_
 refine aW ?_
 refine js Z (jn (af (ab (aa Z (jf [4,2,1,0] Z (aB Z (q7 (x:=(k:Int)) h1 h2) 6000 Z (jn (al Z (fun z5=>?_) (fun z5=>?_)))))))))
 refine af (jw [4,1,0] Z (kA [_,_,_,_,_,_,_,_,_,_,_] [pe [] 0,pn [] 0 2,pn [1] 0 2,pn [0,1,2] 1 2,pn (rg 0 4) 1 2,pn (rg 0 5) 1 2,pn [] 0 1,pn [6] 0 1,pe [0,6,7] 1,pn (rg 0 9) 2 2,pn (rg 0 10) 2 2] [0,8] [_,_,_] (ai (fv O (B0:=7000) Z Z Z Z (pc h1 h2) (aj Z) Z Z Z Z Z) (ai (kc Z (kc Z (V Z))) (ai (kc Z (kc Z (V Z))) (ai (ai (aF O Z Z Z Z Z Z Z Z (show(sL.map fun p=>[sD p])[((k:Nat):Int).toNat]? = some [sD (sL.getD k default)]from cQ (show k<sL.length from hk))) (aF O Z Z Z Z Z Z Z Z (show(sL.map fun p=>[sD p])[((k:Nat):Int).toNat]? = some [sD (sL.getD k default)]from cQ (show k<sL.length from hk)))) (ai (kc Z (V Z)) (ai (ai (aw (p:=sL.getD k default) (q:=[32]) O Z Z Z Z Z Z (by rw[hkw];show(jK (k:Int)).length+1≤L;omega) (by show L≤_;omega)) (aw (p:=sL.getD k default) (q:=[32]) O Z Z Z Z Z Z (by rw[hkw];show(jK (k:Int)).length+1≤L;omega) (by show L≤_;omega))) (ai (kc Z (V Z)) (ai (kc Z (V Z)) (ai (aD O (B0:=15000) Z Z Z Z (jS (n:=a) h1 h2 (by omega) (by omega)) (aj Z) Z Z Z Z Z) (ai (aw (p:=(sL.getD k default++[32])) (q:=Lib.itoa a) O Z Z Z Z Z Z (by rw[bn,hkw];show _+1+_≤L;omega) (by show L≤_;omega)) (kc Z trivial))))))))))) ?_))
 refine jw [2,4,1,0] Z (nZ ?_)
 refine px ?_
 refine am Z ?_
 rw[show iH (⟨(k:Int),a⟩:In)=sL.getD k default++[32]++Lib.itoa a from if_pos z5]
 refine ae (af (jw [4,1,0] Z (kA [_,_,_,_,_,_] [pe [] 0,pn [] 0 1,pn [1] 0 1,pn [0,1,2] 1 1,pn (rg 0 4) 1 1,pn (rg 0 5) 1 1] [0] [_,_] (ai (fv O (B0:=17000) Z Z Z Z (pc h1 h2) (aj Z) Z Z Z Z Z) (ai (kc Z (V Z)) (ai (kc Z (V Z)) (ai (aF O Z Z Z Z Z Z Z Z (show(sL.map fun p=>[sD p])[((k:Nat):Int).toNat]? = some [sD (sL.getD k default)]from cQ (show k<sL.length from hk))) (kc Z (kc Z trivial)))))) ?_)))
 refine jw [2,4,1,0] Z (nZ ?_)
 refine px ?_
 refine am Z ?_
 rw[show iH (⟨(k:Int),a⟩:In)=sL.getD k default from if_neg (by simp[z5])]
theorem rc{L:Nat}(h1:4096≤L)(h2:L≤1073741824){x:In}(h:aK x=true):MC Tryz.prog L 84 [.agg (x.cells.map .d)] [] (Plain (bk (iH x))):=by
 obtain⟨⟨ho0,ho1⟩,ha,_⟩:=gZ h
 obtain⟨op,a⟩:=x
 obtain⟨k,rfl⟩: ∃k:Nat,op=k:=⟨op.toNat,by simp only at ho0;omega⟩
 exact pU h1 h2 (by simp only at ho1;omega) ha
theorem iv(c:UInt8): ∀ss:List Str,Lib.join ss [c]=aI c ss
 | []=>rfl
 | [p]=>by simp[Lib.join,List.intercalate,aI]
 | p::q::r=>by
  have ih:=iv c (q::r)
  unfold Lib.join at ih ⊢
  rw[aI,←ih]
  simp[List.intercalate]
theorem pd{ss:List Str}{c:UInt8}(hl:(aI c ss).length≤L):MQ h1 h2 88 [.c (.d (jM ss)),bk [c]] [] (Plain (bk (aI c ss))):=by
 refine kT ⟨_,_,Tryz.func88,by kernel_rfl,Z⟩ fun w ok m vs h0 h5=>?_
 cases h5 with
 | cons a1 a2=>cases a2 with
  | cons a3 a4=>
   cases a4
   obtain⟨rfl,_⟩:=RA.str_inv a3
   rcases gV a1 with⟨rfl,base,cap,rfl⟩|⟨b,off,cap,rfl,hb,hcap,hc⟩
   ·
    refine Calls.mono (Tryz.strings_Join_none base cap (bS [c]) w) fun e w' ⟨he,hw⟩=>?_
    subst he hw
    exact⟨⟨Z,Z,Z,cw _,fun _ _ _=>rfl⟩,fun ok' m' _=>.c (.d (.str (bZ _)))⟩
   ·
    have hm:(ss.map bS).map (·.data.toList)=ss:=by
     rw[List.map_map]
     conv=>rhs;rw[←List.map_id ss]
     exact List.map_congr_left fun x _=>m8 x
    have hj:Lib.join ((ss.map bS).map (·.data.toList)) (bS [c]).data.toList=aI c ss:=by rw[hm,m8,iv]
    have hn:ss.length≤1073741825:=by
     have:=gX (c:=c) (ss:=ss);omega
    have z2: ∀(j:Nat) x,(ss.map bS)[j]? = some x→w.cell? ⟨b,off+j,none⟩=some (.string x):=by
     intro j x hx
     rw[List.getElem?_map]at hx
     cases hs:ss[j]? with
     | none=>rw[hs]at hx;cases hx
     | some s=>rw[hs]at hx;cases hx;exact(hc j s hs).1
    have h:=Tryz.strings_Join b off cap (ss.map bS) (bS [c]) w z2 hb (by rw[cS];omega) (by rw[cS];exact hcap) (by rw[hj];omega)
    rw[hj,cS]at h
    refine Calls.mono h fun e w' ⟨he,hw⟩=>?_
    subst he
    exact⟨.of_below hw,fun ok' m' _=>.c (.d (.str (by show(bS _).size≤L;rw[be];exact hl)))⟩
theorem ln{α:Type}[Inhabited α]{f:α→Str}{xs:List α}{i:Nat}(h:i<xs.length):(xs.take (i+1)).map f=(xs.take i).map f++[f (xs.getD i default)]:=by
 rw[List.take_succ_eq_append_getElem h,List.map_append,List.map_singleton,au h]
theorem ra{ms:List Int}(hm: ∀m∈ms,-1000000000≤m∧m≤1000000000)(hl:(aI 44 (ms.map Lib.itoa)).length≤L)(hn:ms.length<L):MQ h1 h2 86 [cr ms] [] (Plain (bk (aI 44 (ms.map Lib.itoa)))):=by
 refine ac ?_ Z
 refine jB 20 h1 h2 Tryz.func86 Z fun O hF=>?_
 refine ab (js Z (aX (js Z (jn (af (ab (js Z ?_)))))))
 first|refine bA Z ?_|refine js Z ?_|refine aQ Z Z ?_
 refine js Z (jn (ak (aq (X:=Nat) (fun i=>⟨[(3,.c (.rs 900 0 ((ms.take i).map Lib.itoa).length)),(6,cr ms),(7,eI ms.length),(8,eI i)],[(900,.row false 1 (((ms.take i).map Lib.itoa).map (fun p=>[sD p])))]⟩) (fun i=>i≤ms.length) (fun i=>ms.length-i) 0 ((ew 3 900 1 false Z Z).trans (Ent.to (e':=[(3,_),(6,_),(7,_),(8,_)]) ⟨Z,Z,Z,Z,ao⟩ Z)) ?_ (fun i hi=>?_))))
 exact bZ _
 refine ab (js Z (jn (af (al Z (fun z9=>?_) (fun z9=>?_)))))
 refine ae (af (ak (ab ?_)))
 have hi0:i<ms.length:=by have:=bK z9;omega
 have hmi:=hm (ms.getD i default) (by rw[au hi0];exact List.getElem_mem hi0)
 refine ah (aF O Z Z Z Z Z Z Z Z (cQ hi0)) Z (aa Z (jf [5,9,3,6,7,8] Z (jn (ag (aa Z (jf [13,12,9,3,6,7,8] Z (aB Z (jS (n:=ms.getD i default) h1 h2 (by omega) (by omega)) 15000 Z (jf [14,12,9,3,6,7,8] Z (bC (bt O Z Z Z Z Z Z Z Z Z Z Z) Z (aW ?_))))))))))
 refine jf [15,12,9,3,6,7,8] Z (bC (eT (own:=false) (xs:=((ms.take i).map Lib.itoa).map (fun p=>[sD p])) (ys:=[[sD (Lib.itoa (ms.getD i default))]]) (zs:=(((ms.take i).map Lib.itoa)++[(Lib.itoa (ms.getD i default))]).map (fun p=>[sD p])) (n:=(((ms.take i).map Lib.itoa)++[(Lib.itoa (ms.getD i default))]).length) O Z (.row Z (cS _).symm) (.whole Z Z (.inr ⟨Z,Z⟩)) (by simp) Z (by simp;omega) (by simp;omega) (by simp) (by simp)) Z (aW ?_))
 refine aW ?_
 refine js Z (jf [3,9,6,7,8] Z (jn (ag ?_)))
 first|refine ji Z ?_|refine aQ Z Z ?_
 refine js Z (jn ?_)
 refine⟨i+1,((aE [16] (e':=[(3,_),(6,_),(7,_),(8,_)]) Z Z ⟨Z,Z,Z,Z,ao⟩ Z).trans (bv 16 900 Z Z)).trans (Ent.to ⟨by rw[ln hi0];rfl,Z,Z,Z,ao⟩ (by rw[ln hi0];rfl)),by omega,by omega⟩
 refine aL (ab ?_)
 obtain rfl:i=ms.length:=by have:=ce z9;omega
 rw[List.take_length]
 refine js Z (br O Z Z Z Z (pd (ss:=ms.map Lib.itoa) (c:=44) h1 h2 hl) (.cons (.c (.whole Z (cS _).symm)) (.cons (.c .d) .nil)) Z Z Z Z Z (B0:=20000) Z (js Z (jf [2,9,3,6,7,8] Z (jr ?_))))
 refine am Z ?_
 rfl
theorem ov{o:Str}{i:Nat}{c:Int}(h:c=0):tC o i c=o:=by unfold tC;rw[if_pos h]
theorem pL{o:Str}{i:Nat}{c:Int}(h: ¬c=0):tC o i c=(o++cT o c++(if c.natAbs=1 then[]else Lib.decDigits c.natAbs))++[lV i]:=by unfold tC;rw[if_neg h]
theorem pq{t:Tm}(ht:t.ok=true):MQ h1 h2 82 [mX t] [] (Plain (bk (tS t))):=by
 refine ac ?_ Z
 refine jB 52 h1 h2 Tryz.func82 Z fun O hF=>?_
 obtain⟨z6,hx6,hl10⟩:=ja ht
 have hl:t.xs.length≤L:=by omega
 refine ab (jx Z (aW ?_))
 refine js Z (aX (jl Z (aW ?_)))
 refine jo Z (aW ?_)
 refine aX (aa Z (jn (af (ab (aa Z ?_)))))
 first|refine bA Z ?_|refine js Z ?_|refine aQ Z Z ?_
 refine js Z (jn (ak (aq (X:=Nat×Str) (fun z=>⟨[(1,.c (.pt 1 0 0)),(3,.c (.pt 3 0 0)),(4,.c (.fn 109 [.pt 3 0 0])),(9,cr t.xs),(10,eI t.xs.length),(11,eI (z.1:Nat))],[(1,.box [.d (.int .i64 t.c),.d (fU t.xs)]),(3,.box [.d (sD z.2)])]⟩) (fun z=>z.1≤t.xs.length∧z.2=tX 0 (t.xs.take z.1) []∧z.2.length≤9*z.1) (fun z=>t.xs.length-z.1) (0,[]) (Ent.to ⟨Z,Z,Z,Z,Z,Z,ao⟩ Z) ?_ (fun z hi=>?_))))
 exact⟨bZ _,by show[]=tX 0 (t.xs.take 0) [];simp[tX],cw _⟩
 refine ab (js Z (jn (af (al Z (fun z12=>?_) (fun z12=>?_)))))
 refine ae (af (ak (ab (js Z ?_))))
 first|refine n0 Z Z ?_|refine eZ Z Z ?_|refine aQ Z Z ?_
 refine bc Z (jf [6,5,12,1,3,4,9,10,11] Z (jn (af (ab ?_))))
 have hz1:z.1<t.xs.length:=by have:=bK z12;omega
 obtain⟨n,hn⟩: ∃n,n=(t.xs.getD z.1 default):=⟨_,rfl⟩
 rw[←hn]
 have hna:n.natAbs≤1000000:=by rw[hn,au hz1];exact hx6 _ (List.getElem_mem hz1)
 have hstep:tX 0 (t.xs.take (z.1+1)) []=tC z.2 z.1 n:=by rw[List.take_succ_eq_append_getElem hz1,jg,List.length_take,Nat.min_eq_left (by omega),Nat.zero_add,hi.2.1,hn,au hz1]
 have hzl:z.2.length≤90:=by have:=hi.2.2;omega
 refine aa Z (jn (al Z (fun z17=>?_) (fun z17=>?_)))
 refine aL (ag ?_)
 first|refine ji Z ?_|refine aQ Z Z ?_
 refine js Z (jn ?_)
 refine⟨(z.1+1,z.2),Ent.to ⟨Z,Z,Z,Z,Z,Z,ao⟩ Z,⟨by show z.1+1≤_;omega,?_,by show z.2.length≤9*(z.1+1);omega⟩,by show t.xs.length-(z.1+1)<t.xs.length-z.1;omega⟩
 show z.2=_
 rw[hstep,ov (bK z17)]
 refine ae (ab (aa Z (el O [3] (bin:=[.box [.d (sD z.2)]]) Z Z Z Z (po (n:=n) (o:=z.2) h1 h2 (by omega)) Z Z Z Z Z Z (B0:=21000) Z Z (aW ?_))))
 obtain⟨o2,ho2⟩: ∃o,o=z.2++cT z.2 n:=⟨_,rfl⟩
 rw[←ho2]
 have h2l:o2.length≤z.2.length+1:=by have:=gW (o:=z.2) (n:=n);rw[ho2,bn];omega
 refine jf [17,16,6,5,12,1,3,4,9,10,11] Z (jn (af (ab (js Z (aB Z (pF (x:=n) h1 h2 (by omega)) 23000 Z (js Z (jf [23,17,16,6,5,12,1,3,4,9,10,11] Z (jn ?_))))))))
 obtain⟨o3,ho3⟩: ∃o,o=o2++(if n.natAbs=1 then[]else Lib.decDigits n.natAbs):=⟨_,rfl⟩
 have hdl:(Lib.decDigits n.natAbs).length≤7:=dN hna
 have h3l:o3.length≤o2.length+7:=by rw[ho3,bn];split<;>simp<;>omega
 refine bJ ⟨[(1,.c (.pt 1 0 0)),(3,.c (.pt 3 0 0)),(4,.c (.fn 109 [.pt 3 0 0])),(9,cr t.xs),(10,eI t.xs.length),(11,eI (z.1:Nat)),(5,eI (z.1:Nat)),(6,eI n)],[(1,.box [.d (.int .i64 t.c),.d (fU t.xs)]),(3,.box [.d (sD o3)])]⟩ ?_ ?_
 refine al Z (fun z23=>?_) (fun z23=>?_)
 refine kA [_,_,_,_,_,_] [pn [] 0 2,bp,pe [1] 0,pe [1,2] 1,pn (rg 0 4) 2 2,pe (rg 0 5) 2] [2,3,5] [_,_,_,_] (ai (kc Z (kc Z (V Z))) (kc Z (ai (aD O (B0:=27000) Z Z Z Z (pF (x:=n) h1 h2 (by omega)) (aj Z) Z Z Z Z Z) (ai (aD O (B0:=28000) Z Z Z Z (jS (n:=(n.natAbs:Int)) h1 h2 (by omega) (by omega)) (aj Z) Z Z Z Z Z) (ai (aw (p:=o2) (q:=Lib.itoa (n.natAbs:Int)) O Z Z Z Z Z Z (by rw[dy];have:=dN hna;show o2.length+(Lib.decDigits n.natAbs).length≤L;omega) (by show L≤_;omega)) (ai (eS Z Z Z) trivial)))))) ?_
 refine tz ?_
 exact⟨Z,Ent.to ⟨Z,Z,Z,Z,Z,Z,Z,Z,ao⟩ (by rw[ho3,if_neg (by have:=z23;simp at this;omega),dy])⟩
 refine ae ?_
 exact⟨Z,cp.trans (Ent.to ⟨Z,Z,Z,Z,Z,Z,Z,Z,ao⟩ (by rw[ho3,if_pos (by have:=z23;simp at this;omega),List.append_nil];rfl))⟩
 refine ag (aa Z ?_)
 first|refine ji Z ?_|refine aQ Z Z ?_
 refine ah ((Val.conv (b:=true) (dt:=.int .i64) O Z Z Z (by kernel_rfl) (by kernel_rfl)).cast (v':=.c (.d (.int .i32 (97+z.1:Int)))) (by rw[eA .i32 _ (by show(-2147483648:Int)≤_;omega) (by show _≤(2147483647:Int);omega)])) Z (ah ((mz (dt:=.int .i32) O Z Z Z (by kernel_rfl) (by kernel_rfl) (by omega) (by omega)).cast (v':=bk [lV z.1]) (by rw[show(97+(z.1:Int)).toNat=97+z.1 by omega];rfl)) Z (ah (aw (p:=o3) (q:=[lV z.1]) O Z Z Z Z Z Z (by show o3.length+1≤L;omega) (by show L≤_;omega)) Z (jf [34,1,3,4,9,10,11,6] Z (jo Z (aW ?_)))))
 refine jn (ag ?_)
 first|refine ji Z ?_|refine aQ Z Z ?_
 refine js Z (jn ?_)
 refine⟨(z.1+1,o3++[lV z.1]),Ent.to ⟨Z,Z,Z,Z,Z,Z,ao⟩ Z,⟨by show z.1+1≤_;omega,?_,by show(o3++[lV z.1]).length≤9*(z.1+1);rw[bn,n5];omega⟩,by show t.xs.length-(z.1+1)<t.xs.length-z.1;omega⟩
 show o3++[lV z.1]=_
 rw[hstep,pL (ce z17),ho3,ho2]
 refine aL (af (ab ?_))
 obtain hz1:z.1=t.xs.length:=by have:=ce z12;omega
 have hzl:z.2.length≤90:=by have:=hi.2.2;omega
 have ho:=hi.2.1
 rw[hz1,List.take_length]at ho
 refine bc Z (jf [38,12,1,3,4,9,10,11] Z (jn ?_))
 obtain⟨o5,ho5⟩: ∃o,o=tK z.2 t.c:=⟨_,rfl⟩
 refine bJ ⟨[(1,.c (.pt 1 0 0)),(3,.c (.pt 3 0 0))],[(1,.box [.d (.int .i64 t.c),.d (fU t.xs)]),(3,.box [.d (sD o5)])]⟩ ?_ ?_
 refine al Z (fun z38=>?_) (fun z38=>?_)
 refine ab (bc Z (jf [41,39,38,12,1,3,4,9,10,11] Z (el O [3] (bin:=[.box [.d (sD z.2)]]) Z Z Z Z (po (n:=t.c) (o:=z.2) h1 h2 (by omega)) Z Z Z Z Z Z (B0:=43000) Z Z (aW ?_))))
 refine jf [38,12,1,3,4,9,10,11] Z (jn (kA [_,_,_,_,_,_,_] [pn [] 0 2,bp,aT [1],pe [1,2] 0,pe [1,2,3] 1,pn (rg 0 5) 2 2,pe (rg 0 6) 2] [3,4,6] [_,_,_,_] (ai (kc Z (kc Z (V Z))) (kc Z (kc Z (ai (aD O (B0:=47000) Z Z Z Z (pF (x:=t.c) h1 h2 (by omega)) (aj Z) Z Z Z Z Z) (ai (aD O (B0:=48000) Z Z Z Z (jS (n:=(t.c.natAbs:Int)) h1 h2 (by omega) (by omega)) (aj Z) Z Z Z Z Z) (ai (aw (p:=(z.2++cT z.2 t.c)) (q:=Lib.itoa (t.c.natAbs:Int)) O Z Z Z Z Z Z (by rw[dy];have:=dN z6;have h7:=gW (o:=z.2) (n:=t.c);show(z.2++cT z.2 t.c).length+(Lib.decDigits t.c.natAbs).length≤L;rw[bn];omega) (by show L≤_;omega)) (ai (eS Z Z Z) trivial))))))) ?_))
 refine tz ?_
 exact⟨Z,Ent.to ⟨Z,Z,ao⟩ (by rw[ho5,dy];unfold tK;rw[if_neg (by simpa using z38)])⟩
 refine ae ?_
 exact⟨Z,cp.trans (Ent.to ⟨Z,Z,ao⟩ (by rw[ho5];unfold tK;rw[if_pos (by simpa using z38)]))⟩
 refine af (ab (js Z (ah (Val.seq (p:=o5) (q:=[]) O Z Z Z Z Z Z) Z (jn (al Z (fun z50=>?_) (fun z50=>?_))))))
 refine ab (js Z (jr ?_))
 refine am Z ?_
 rw[show tS t=tZ o5 by rw[ho5,ho];rfl]
 unfold tZ
 rw[if_pos (bK z50)];rfl
 refine ae (ab (aa Z (jr ?_)))
 refine am Z ?_
 rw[show tS t=tZ o5 by rw[ho5,ho];rfl]
 unfold tZ
 rw[if_neg (ce z50)]
variable{p:List Nd}
theorem rt(hb:gA p=true)(hL:1048576<L):MQ h1 h2 41 [dI p] [] (Plain (bk (eQ p))):=by
 refine ac ?_ Z
 refine jB 42 h1 h2 Tryz.func41 Z fun O hF=>?_
 obtain⟨hp1,hp60,hnd⟩:=kK hb
 have hl:p.length≤L:=by omega
 refine ab (js Z (aX (js Z (jn (af (ab (js Z ?_)))))))
 first|refine bA Z ?_|refine js Z ?_|refine aQ Z Z ?_
 refine js Z (jn (ak (aq (X:=Nat) (fun i=>⟨[(3,.c (.rs 900 0 ((p.take i).map aO).length)),(6,dI p),(7,eI p.length),(8,eI i)],[(900,.row false 1 (((p.take i).map aO).map (fun p=>[sD p])))]⟩) (fun i=>i≤p.length) (fun i=>p.length-i) 0 ((ew 3 900 1 false Z Z).trans (Ent.to (e':=[(3,_),(6,_),(7,_),(8,_)]) ⟨Z,Z,Z,Z,ao⟩ Z)) ?_ (fun i hi=>?_))))
 exact bZ _
 refine ab (js Z (jn (af (al Z (fun z9=>?_) (fun z9=>?_)))))
 refine ae (af (ak (ab ?_)))
 have hi0:i<p.length:=by have:=bK z9;omega
 have hxb:dG (p.getD i default)=true:=by rw[au hi0];exact hnd _ (List.getElem_mem hi0)
 obtain⟨hxR,hx20,hxco⟩:=m4 hxb
 have hxl:=j0 hxb
 refine ah (aF O Z Z Z Z Z Z Z Z (cQ hi0)) Z (js Z (jf [11,9,3,6,7,8] Z (jl Z (aW ?_))))
 refine jo Z (aW ?_)
 refine bf (aE [900,5] (e':=[(5,_),(3,_),(6,_),(7,_),(8,_)]) Z Z ⟨Z,Z,Z,Z,Z,ao⟩ Z) (bf (Ent.freeze 5 (e':=[(5,_),(3,_),(6,_),(7,_),(8,_)]) Z (.cons Z (.c (.box (cs:=(p.getD i default).cells) Z (bj Z))) (fe [3,6,7,8] Z)) (py Z (.skip .nil))) ?_)
 refine aW ?_
 refine aX (aa Z (jn (bJ ⟨[(3,.c (.rs 900 0 (((p.take i).map aO)++[(aO (p.getD i default))]).length)),(6,dI p),(7,eI p.length),(8,eI i)],[(900,.row false 1 ((((p.take i).map aO)++[(aO (p.getD i default))]).map (fun p=>[sD p])))]⟩ ?_ ?_)))
 refine ak (ab (aa Z (jn (al Z (fun z21=>?_) (fun z21=>?_)))))
 refine ag ?_
 have hk1:(p.getD i default).kind=1:=bK z21
 have hn1:aO (p.getD i default)=99::aI 44 ((p.getD i default).mul.map Lib.itoa):=if_pos hk1
 have hxl1:=hxl
 rw[hn1,dV]at hxl1
 refine bc Z (jf [25,23,21,22,13,12,5,3,6,7,8] Z (aB Z (ra (ms:=(p.getD i default).mul) h1 h2 hxR.mul (by omega) (by omega)) 27000 Z (ah ((aw (p:=[99]) (q:=(aI 44 ((p.getD i default).mul.map Lib.itoa))) O Z Z Z Z Z Z (by show 1+_≤L;omega) (by show L≤_;omega)).cast (v':=bk (aO (p.getD i default))) (congrArg bk hn1.symm)) Z (jf [27,23,21,22,13,12,5,3,6,7,8] Z (bC (bt O Z Z Z Z Z Z Z Z Z Z Z) Z (aW ?_))))))
 refine jf [28,23,21,22,13,12,5,3,6,7,8] Z (bC (eT (own:=false) (xs:=((p.take i).map aO).map (fun p=>[sD p])) (ys:=[[sD (aO (p.getD i default))]]) (zs:=(((p.take i).map aO)++[(aO (p.getD i default))]).map (fun p=>[sD p])) (n:=(((p.take i).map aO)++[(aO (p.getD i default))]).length) O Z (.row Z (cS _).symm) (.whole Z Z (.inr ⟨Z,Z⟩)) (by simp) Z (by simp;omega) (by simp;omega) (by simp) (by simp)) Z (aW ?_))
 refine aW ?_
 refine js Z (jf [3,21,22,13,12,5,6,7,8] Z (jn ?_))
 exact⟨Z,((aE [29] (e':=[(3,_),(6,_),(7,_),(8,_)]) Z Z ⟨Z,Z,Z,Z,ao⟩ Z).trans (bv 29 900 Z Z)).trans (Ent.to ⟨Z,Z,Z,Z,ao⟩ Z)⟩
 refine ab (aa Z (jn (al Z (fun z30=>?_) (fun z30=>?_))))
 refine ag ?_
 have hk2:(p.getD i default).kind=2:=bK z30
 have hn2:aO (p.getD i default)=115::tS (p.getD i default).term:=by unfold aO;rw[hk2,if_neg (by decide),if_pos Z]
 have hxl2:=hxl
 rw[hn2,dV]at hxl2
 refine bc Z (jf [34,32,30,31,21,22,13,12,5,3,6,7,8] Z (aB Z (pq (t:=(p.getD i default).term) h1 h2 hxR.term) 36000 Z (ah ((aw (p:=[115]) (q:=(tS (p.getD i default).term)) O Z Z Z Z Z Z (by show 1+_≤L;omega) (by show L≤_;omega)).cast (v':=bk (aO (p.getD i default))) (congrArg bk hn2.symm)) Z (jf [36,32,30,31,21,22,13,12,5,3,6,7,8] Z (bC (bt O Z Z Z Z Z Z Z Z Z Z Z) Z (aW ?_))))))
 refine jf [37,32,30,31,21,22,13,12,5,3,6,7,8] Z (bC (eT (own:=false) (xs:=((p.take i).map aO).map (fun p=>[sD p])) (ys:=[[sD (aO (p.getD i default))]]) (zs:=(((p.take i).map aO)++[(aO (p.getD i default))]).map (fun p=>[sD p])) (n:=(((p.take i).map aO)++[(aO (p.getD i default))]).length) O Z (.row Z (cS _).symm) (.whole Z Z (.inr ⟨Z,Z⟩)) (by simp) Z (by simp;omega) (by simp;omega) (by simp) (by simp)) Z (aW ?_))
 refine aW ?_
 refine js Z (jf [3,30,31,21,22,13,12,5,6,7,8] Z (jn ?_))
 exact⟨Z,((aE [38] (e':=[(3,_),(6,_),(7,_),(8,_)]) Z Z ⟨Z,Z,Z,Z,ao⟩ Z).trans (bv 38 900 Z Z)).trans (Ent.to ⟨Z,Z,Z,Z,ao⟩ Z)⟩
 refine ag ?_
 have hk3:(p.getD i default).kind=3:=hxR.kind.elim (fun h=>absurd h (ce z21)) fun h=>h.elim (fun h=>absurd h (ce z30)) id
 have hn3:aO (p.getD i default)=116::Lib.itoa (p.getD i default).fact:=by unfold aO;rw[hk3,if_neg (by decide),if_neg (by decide),if_pos Z]
 have hxl3:=hxl
 rw[hn3,dV]at hxl3
 have hxf:=hxR.fact
 refine bc Z (jf [16,14,30,31,21,22,13,12,5,3,6,7,8] Z (aB Z (jS (n:=(p.getD i default).fact) h1 h2 (by omega) (by omega)) 18000 Z (ah ((aw (p:=[116]) (q:=(Lib.itoa (p.getD i default).fact)) O Z Z Z Z Z Z (by show 1+_≤L;omega) (by show L≤_;omega)).cast (v':=bk (aO (p.getD i default))) (congrArg bk hn3.symm)) Z (jf [18,14,30,31,21,22,13,12,5,3,6,7,8] Z (bC (bt O Z Z Z Z Z Z Z Z Z Z Z) Z (aW ?_))))))
 refine jf [19,14,30,31,21,22,13,12,5,3,6,7,8] Z (bC (eT (own:=false) (xs:=((p.take i).map aO).map (fun p=>[sD p])) (ys:=[[sD (aO (p.getD i default))]]) (zs:=(((p.take i).map aO)++[(aO (p.getD i default))]).map (fun p=>[sD p])) (n:=(((p.take i).map aO)++[(aO (p.getD i default))]).length) O Z (.row Z (cS _).symm) (.whole Z Z (.inr ⟨Z,Z⟩)) (by simp) Z (by simp;omega) (by simp;omega) (by simp) (by simp)) Z (aW ?_))
 refine aW ?_
 refine js Z (jf [3,30,31,21,22,13,12,5,6,7,8] Z (jn ?_))
 exact⟨Z,((aE [20] (e':=[(3,_),(6,_),(7,_),(8,_)]) Z Z ⟨Z,Z,Z,Z,ao⟩ Z).trans (bv 20 900 Z Z)).trans (Ent.to ⟨Z,Z,Z,Z,ao⟩ Z)⟩
 refine ag ?_
 first|refine ji Z ?_|refine aQ Z Z ?_
 refine js Z (jn ?_)
 refine⟨i+1,Ent.to ⟨by rw[ln hi0];rfl,Z,Z,Z,ao⟩ (by rw[ln hi0]),by omega,by omega⟩
 refine aL (ab ?_)
 obtain rfl:i=p.length:=by have:=ce z9;omega
 rw[List.take_length]
 refine js Z (br O Z Z Z Z (pd (ss:=p.map aO) (c:=47) h1 h2 (by have:=fE hb;unfold eQ at this;omega)) (.cons (.c (.whole Z (cS _).symm)) (.cons (.c .d) .nil)) Z Z Z Z Z (B0:=42000) Z (js Z (jf [2,9,3,6,7,8] Z (jr ?_))))
 refine am Z ?_
 rfl
end Go.Al
