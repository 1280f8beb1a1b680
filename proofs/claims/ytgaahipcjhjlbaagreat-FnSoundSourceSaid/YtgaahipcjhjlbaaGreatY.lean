/- What is drawn from bytes: terms, facts, in plain Lean and walked. A program and a state are drawn. Proofs are sound; what is proved of a program is true of its runs. The law of sound programs, walked. -/
import Derived.Test.YtgaahipcjhjlbaaGreatC
import Derived.Test.YtgaahipcjhjlbaaGreatD
import Derived.Test.YtgaahipcjhjlbaaGreatM
import Derived.Test.YtgaahipcjhjlbaaGreatF
set_option linter.unusedVariables false
set_option linter.unusedSimpArgs false
set_option maxRecDepth 10000
set_option maxHeartbeats 4000000
open Go.Proofs
namespace Go.Al
variable{L:Nat}(h1:4096≤L)(h2:L≤1073741824)
structure Src where
  code:List Int
  at_:Nat
  seed:Int
abbrev bys(xs:List Int):D:=.slc 1 (xs.map fun n=>[.int .u8 n])
abbrev bI(s:Src):B:=.box [.d (bys s.code),.d (.int .i64 (s.at_:Nat)),.d (.int .u64 s.seed)]
def Src.b(s:Src):Int:=if s.at_<s.code.length then IntKind.i64.wrap (s.code.getD s.at_ default)else 0
def Src.step(s:Src):Src:=⟨s.code,s.at_+1,IntKind.u64.wrap (IntKind.u64.wrap (IntKind.u64.wrap (s.seed*6364136223846793005)+IntKind.u64.wrap s.b)+1442695040888963407)⟩
def Src.val(s:Src):Int:=if s.at_+1≤s.code.length then s.b else zm s.step.seed
structure Src.Ok(s:Src):Prop where
  code: ∀n∈s.code,0≤n∧n≤255
theorem Src.Ok.step{s:Src}(h:s.Ok):s.step.Ok:=⟨h.code⟩
theorem BE{s:Src}(h:s.Ok):0≤s.b∧s.b≤255:=by
 unfold Src.b
 split
 rename_i hlt
 have:=h.code _ (by rw[aw hlt];exact List.getElem_mem hlt:s.code.getD s.at_ default∈s.code)
 rw[mM .i64 _ (by show(-9223372036854775808:Int)≤_;omega) (by show _≤(9223372036854775807:Int);omega)]
 exact this
 omega
theorem dZ{s:Src}(h:s.Ok):0≤s.val∧s.val≤255:=by
 unfold Src.val
 split
 exact BE h
 exact CG _
theorem E3{s:Src}(ha:s.at_≤1000000000)(hi:s.at_<s.code.length):MQ h1 h2 45 [.c (.pt 0 0 0)] [(0,bI s)] (aO (eI s.val) [(0,bI s.step)]):=by
 refine MC.shift 500 Z (MC.keep [500] (bs:=[bI s.step]) Z Z (jH 62 [500] h1 h2 Tryz.func45 Z fun O hF=>?_))
 refine bJ ?_
 have hb:s.b=IntKind.i64.wrap (s.code.getD s.at_ default):=if_pos hi
 have hv:s.val=s.b:=if_pos hi
 refine ac (js Z (aN (js Z (jn (ae (ae (fJ [_,_,_,_,_,_,_,_,_,_] [p0,pz [0],pz [0,1],pz [0,1,2],p0,pz [4],pz [4,5],pz [4,5,6],pz (rg 4 4),pz (rg 0 9)] [] [_] (k4 Z (k4 Z (ai (bP O Z Z Z Z Z Z Z Z) (kc Z trivial)))) ?_)))))))
 refine jw [13,3,2,0] Z (bJ ?_)
 refine zc Z (fun z13=>?_) (fun z13=>?_)
 refine jw [2,0] Z (fJ [_,_,_,_,_,_,_,_,_,_,_,_] [p0,pz [0],pz [0,1],pz [0,1,2],p0,pz [4],pz [4,5],pz [4,5,6],pz (rg 0 8),pz (rg 0 9),pz (rg 0 10),pz (rg 0 11)] [] [_] (k4 Z (k4 Z (ai (aQ O Z Z Z Z Z Z Z Z (dx hi)) (kc Z (ai (Val.conv O (k':=.i64) (dt:=.int .u8) (b:=true) Z Z Z (by kernel_rfl) (by kernel_rfl)) (kc Z trivial)))))) ?_)
 refine jw [3,2,0] Z (bJ ?_)
 refine ac ?_
 rw[←hb]
 refine jd Z (st ((vF Z).cast (v':=eI ((s.at_+1:Nat):Int)) (congrArg eI (by omega))) Z (jb Z (jo Z (am ?_))))
 refine aN (jd Z (jc Z (st (Val.conv O (k':=.u64) (dt:=.int .i64) (b:=true) Z Z Z (by kernel_rfl) (by kernel_rfl)) Z (jd Z (jo Z (am ?_))))))
 refine jn (ae (ae (fJ [_,_,_,_,_,_,_,_,_,_] [p0,pz [0],pz [0,1],pz [0,1,2],p0,pz [4],pz [4,5],pz [4,5,6],pz (rg 4 4),pz (rg 0 9)] [] [_] (k4 Z (k4 Z (ai (bP O Z Z Z Z Z Z Z Z) (kc Z trivial)))) ?_)))
 refine jw [53,3,2,0] Z (bJ ?_)
 refine zc Z (fun z53=>?_) (fun z53=>?_)
 refine ac (jb Z (jr ?_))
 refine⟨.inl Z,_,bK,_,Z,by rw[hv];rfl,Z⟩
 exact absurd (b9 z53) (by omega)
 exact absurd (b9 z13) (by omega)
theorem E4{s:Src}(ha:s.at_≤1000000000)(hi: ¬s.at_<s.code.length):MQ h1 h2 45 [.c (.pt 0 0 0)] [(0,bI s)] (aO (eI s.val) [(0,bI s.step)]):=by
 refine MC.shift 500 Z (MC.keep [500] (bs:=[bI s.step]) Z Z (jH 62 [500] h1 h2 Tryz.func45 Z fun O hF=>?_))
 refine bJ ?_
 have hb:s.b=0:=if_neg hi
 have hv:s.val=zm s.step.seed:=if_neg (by omega)
 refine ac (js Z (aN (js Z (jn (ae (ae (fJ [_,_,_,_,_,_,_,_,_,_] [p0,pz [0],pz [0,1],pz [0,1,2],p0,pz [4],pz [4,5],pz [4,5,6],pz (rg 4 4),pz (rg 0 9)] [] [_] (k4 Z (k4 Z (ai (bP O Z Z Z Z Z Z Z Z) (kc Z trivial)))) ?_)))))))
 refine jw [13,3,2,0] Z (bJ ?_)
 refine zc Z (fun z13=>?_) (fun z13=>?_)
 exact absurd (bt z13) (by omega)
 refine af (ac (jd Z (st ((vF Z).cast (v':=eI ((s.at_+1:Nat):Int)) (congrArg eI (by omega))) Z (jb Z (jo Z (am ?_))))))
 refine aN (jd Z (jc Z ?_))
 rw[←hb]
 refine st (Val.conv O (k':=.u64) (dt:=.int .i64) (b:=true) Z Z Z (by kernel_rfl) (by kernel_rfl)) Z (jd Z (jo Z (am ?_)))
 refine jn (ae (ae (fJ [_,_,_,_,_,_,_,_,_,_] [p0,pz [0],pz [0,1],pz [0,1,2],p0,pz [4],pz [4,5],pz [4,5,6],pz (rg 4 4),pz (rg 0 9)] [] [_] (k4 Z (k4 Z (ai (bP O Z Z Z Z Z Z Z Z) (kc Z trivial)))) ?_)))
 refine jw [53,3,2,0] Z (bJ ?_)
 refine zc Z (fun z53=>?_) (fun z53=>?_)
 exact absurd (bt z53) (by omega)
 refine af (ac (jd Z (st (Val.shr O Z Z Z Z Z (by decide)) Z (st (BC O Z Z Z Z Z) Z (st (Val.conv O (k':=.i64) (dt:=.int .u64) (b:=true) Z Z Z (by kernel_rfl) (by kernel_rfl)) Z (js Z (jr ?_)))))))
 refine⟨.inl Z,_,bK,_,Z,by rw[hv];rfl,Z⟩
theorem zL{L:Nat}(h1:4096≤L)(h2:L≤1073741824){s:Src}(ha:s.at_≤1000000000):MC Tryz.prog L 45 [.c (.pt 0 0 0)] [(0,bI s)] (aO (eI s.val) [(0,bI s.step)]):=by
 by_cases hi:s.at_<s.code.length
 exact E3 h1 h2 ha hi
 exact E4 h1 h2 ha hi
def Src.pick(n:Int)(s:Src):Int×Src:=if n≤1 then(0,s)else if 200<n then((s.val*256+s.step.val).tmod n,s.step.step)else(s.val.tmod n,s.step)
theorem Cx{n:Int}{s:Src}(h:n≤1):s.pick n=(0,s):=if_pos h
theorem A5{n:Int}{s:Src}(h: ¬n≤1)(h2: ¬200<n):s.pick n=(s.val.tmod n,s.step):=by unfold Src.pick;rw[if_neg h,if_neg h2]
theorem A6{n:Int}{s:Src}(h: ¬n≤1)(h2:200<n):s.pick n=((s.val*256+s.step.val).tmod n,s.step.step):=by unfold Src.pick;rw[if_neg h,if_pos h2]
theorem Src.Ok.pick{s:Src}(h:s.Ok){n:Int}:(s.pick n).2.Ok:=by
 unfold Src.pick;split
 exact h
 split
 exact h.step.step
 exact h.step
theorem bQ{s:Src}{n:Int}:(s.pick n).2.at_≤s.at_+2:=by
 unfold Src.pick;split
 exact Nat.le_add_right _ _
 split
 exact cQ _
 show s.at_+1≤s.at_+2;omega
theorem ln{a n:Int}(ha:0≤a)(hn:0<n):0≤a.tmod n∧a.tmod n<n:=by
 rw[Int.tmod_eq_emod_of_nonneg ha]
 exact⟨Int.emod_nonneg _ (by omega),Int.emod_lt_of_pos _ hn⟩
theorem cy{s:Src}(h:s.Ok){n:Int}(hn:1≤n):0≤(s.pick n).1∧(s.pick n).1<n:=by
 have h1:=dZ h
 have h2:=dZ h.step
 unfold Src.pick;split
 exact⟨by show(0:Int)≤0;omega,by show(0:Int)<n;omega⟩
 split
 exact ln (by omega) (by omega)
 exact ln h1.1 (by omega)
variable{n:Int}
theorem E7{s:Src}(hs:s.Ok)(ha:s.at_≤999999990)(hn0: -1000000000≤n)(hn1:n≤1000000000)(h:n≤1):MQ h1 h2 25 [.c (.pt 0 0 0),eI n] [(0,bI s)] (aO (eI (s.pick n).1) [(0,bI (s.pick n).2)]):=by
 refine MC.shift 500 Z (MC.keep [500] (bs:=[bI (s.pick n).2]) Z Z (jH 20 [500] h1 h2 Tryz.func25 Z fun O hF=>?_))
 rw[Cx h]
 have hv:=dZ hs
 have hv2:=dZ hs.step
 refine bJ ?_
 refine ac (js Z (jn (ae (ac (jb Z (jn (zc Z (fun z7=>?_) (fun z7=>?_))))))))
 refine ac (js Z (jr ?_))
 refine⟨.inl Z,_,bK,_,Z,Z,Z⟩
 exact absurd (b9 z7) (by omega)
theorem E6{s:Src}(hs:s.Ok)(ha:s.at_≤999999990)(hn0: -1000000000≤n)(hn1:n≤1000000000)(h: ¬n≤1)(h3: ¬200<n):MQ h1 h2 25 [.c (.pt 0 0 0),eI n] [(0,bI s)] (aO (eI (s.pick n).1) [(0,bI (s.pick n).2)]):=by
 refine MC.shift 500 Z (MC.keep [500] (bs:=[bI (s.pick n).2]) Z Z (jH 20 [500] h1 h2 Tryz.func25 Z fun O hF=>?_))
 rw[A5 h h3]
 have hv:=dZ hs
 have hv2:=dZ hs.step
 refine bJ ?_
 refine ac (js Z (jn (ae (ac (jb Z (jn (zc Z (fun z7=>?_) (fun z7=>?_))))))))
 exact absurd (bt z7) (by omega)
 refine af (ac (js Z (ao O [500] (bin:=[bI s]) Z Z Z Z (zL (s:=s) h1 h2 (by omega)) Z Z Z Z Z Z (B0:=10000) Z Z (am ?_))))
 refine js Z (jn (ae (ac (jb Z (jn (zc Z (fun z11=>?_) (fun z11=>?_)))))))
 exact absurd (bt z11) (by omega)
 refine af (ac (jb Z (st (jP O Z Z Z Z (by omega) (by have:=ln (n:=n) hv.1 (by omega);omega) (by have:=ln (n:=n) hv.1 (by omega);omega)) Z (js Z (jr ?_)))))
 refine⟨.inl Z,_,bK,_,Z,Z,Z⟩
theorem E5{s:Src}(hs:s.Ok)(ha:s.at_≤999999990)(hn0: -1000000000≤n)(hn1:n≤1000000000)(h: ¬n≤1)(h3:200<n):MQ h1 h2 25 [.c (.pt 0 0 0),eI n] [(0,bI s)] (aO (eI (s.pick n).1) [(0,bI (s.pick n).2)]):=by
 refine MC.shift 500 Z (MC.keep [500] (bs:=[bI (s.pick n).2]) Z Z (jH 20 [500] h1 h2 Tryz.func25 Z fun O hF=>?_))
 rw[A6 h h3]
 have hv:=dZ hs
 have hv2:=dZ hs.step
 refine bJ ?_
 refine ac (js Z (jn (ae (ac (jb Z (jn (zc Z (fun z7=>?_) (fun z7=>?_))))))))
 exact absurd (bt z7) (by omega)
 refine af (ac (js Z (ao O [500] (bin:=[bI s]) Z Z Z Z (zL (s:=s) h1 h2 (by omega)) Z Z Z Z Z Z (B0:=10000) Z Z (am ?_))))
 refine js Z (jn (ae (ac (jb Z (jn (zc Z (fun z11=>?_) (fun z11=>?_)))))))
 refine ag (js Z (st (aS O Z Z (by omega) (by omega)) Z (js Z (ao O [500] (bin:=[bI s.step]) Z Z Z Z (zL (s:=s.step) h1 h2 (by show s.at_+1≤_;omega)) Z Z Z Z Z Z (B0:=16000) Z Z (am ?_)))))
 refine st (aS O Z Z (by omega) (by omega)) Z (js Z (aN (jb Z (st (jP O Z Z Z Z (by omega) (by have:=ln (n:=n) (a:=s.val*256+s.step.val) (by omega) (by omega);omega) (by have:=ln (n:=n) (a:=s.val*256+s.step.val) (by omega) (by omega);omega)) Z (js Z (jr ?_))))))
 refine⟨.inl Z,_,bK,_,Z,Z,Z⟩
 exact absurd (b9 z11) (by omega)
theorem fz{L:Nat}(h1:4096≤L)(h2:L≤1073741824){s:Src}{n:Int}(hs:s.Ok)(ha:s.at_≤999999990)(hn0: -1000000000≤n)(hn1:n≤1000000000):MC Tryz.prog L 25 [.c (.pt 0 0 0),eI n] [(0,bI s)] (aO (eI (s.pick n).1) [(0,bI (s.pick n).2)]):=by
 by_cases h:n≤1
 exact E7 h1 h2 hs ha hn0 hn1 h
 by_cases h3:200<n
 exact E5 h1 h2 hs ha hn0 hn1 h h3
 exact E6 h1 h2 hs ha hn0 hn1 h h3
theorem xc{s:Src}(hs:s.Ok)(ha:s.at_≤999999990)(hn0: -1000000000≤n)(hn1:n≤1000000000)  : MQ h1 h2 31 [.c (.pt 0 0 0),eI n] [(0,bI s)] (aO (eB (decide ((s.pick n).1=0))) [(0,bI (s.pick n).2)]):=by
 refine MC.shift 500 Z (MC.keep [500] (bs:=[bI (s.pick n).2]) Z Z (jH 9 [500] h1 h2 Tryz.func31 Z fun O hF=>?_))
 refine bJ ?_
 refine ac (js Z (aN (jb Z (ao O [500] (bin:=[bI s]) Z Z Z Z (fz (s:=s) (n:=n) h1 h2 hs ha hn0 hn1) Z Z Z Z Z Z (B0:=8000) Z Z (am ?_)))))
 refine jb Z (jr ?_)
 refine⟨.inl Z,_,bK,_,Z,Z,Z⟩
variable{xs:List Int}
theorem zM{s:Src}(hs:s.Ok)(ha:s.at_≤999999990)(hx0:1≤xs.length)(hx1:xs.length≤1000):MQ h1 h2 39 [.c (.pt 0 0 0),bO xs] [(0,bI s)] (aO (eI (xs.getD (s.pick xs.length).1.toNat default)) [(0,bI (s.pick xs.length).2)]):=by
 refine MC.shift 500 Z (MC.keep [500] (bs:=[bI (s.pick xs.length).2]) Z Z (jH 12 [500] h1 h2 Tryz.func39 Z fun O hF=>?_))
 have hp:=cy hs (n:=xs.length) (by omega)
 refine bJ ?_
 refine ac (js Z (aN (jc Z ?_)))
 first|refine cW Z ?_|refine js Z ?_|refine db Z Z ?_
 refine ao O [500] (bin:=[bI s]) Z Z Z Z (fz (s:=s) (n:=xs.length) h1 h2 hs ha (by omega) (by omega)) Z Z Z Z Z Z (B0:=10000) Z Z (am ?_)
 refine st (bw O Z Z Z Z Z Z Z Z hp.1 (mP hp.1 hp.2)) Z (jb Z (jr ?_))
 refine⟨.inl Z,_,bK,_,Z,Z,Z⟩
theorem DE:MQ h1 h2 19 [.c (.d (bys xs))] [] (aO (.c (.pt 0 0 0)) [(0,bI ⟨xs,0,0⟩)]):=by
 refine MC.shift 500 Z (MC.keep [500] (bs:=[bI ⟨xs,0,0⟩]) Z Z (jB 6 h1 h2 Tryz.func19 Z fun O hF=>?_))
 refine ac (js Z (aN (jb Z (jx Z (am ?_)))))
 refine js Z (jr ?_)
 refine⟨.inl Z,_,aa 5 500 Z Z,_,Z,Z,Z⟩
def tW:Nat→Src→List Int→List Int×Src
  | 0,s,xs=>(xs,s)
  | k+1,s,xs=>tW k (s.pick 5).2 (xs++[(s.pick 5).1-2])
theorem Aq: ∀{k:Nat} {s:Src} {xs:List Int},(tW k s xs).2.at_≤s.at_+2*k
 | 0,s,xs=>cQ _
 | k+1,s,xs=>by
  have h1:=Aq (k:=k) (s:=(s.pick 5).2) (xs:=xs++[(s.pick 5).1-2])
  have h2:=bQ (s:=s) (n:=5)
  rw[tW];omega
theorem vY: ∀{k:Nat} {s:Src} {xs:List Int},s.Ok→(tW k s xs).2.Ok
 | 0,s,xs,h=>h
 | k+1,s,xs,h=>by rw[tW];exact vY h.pick
def yb(t:Tm)(s:Src):Tm×Src:=if(s.pick 30).1=0 then(⟨[1000000,-1000000].getD (((s.pick 30).2.pick 2).1.toNat) default,t.xs⟩,((s.pick 30).2.pick 2).2)else(t,(s.pick 30).2)
def zn(l:List Int×Src):Tm×Src:=yb (lY ((l.2.pick 9).1-4) l.1).1 (l.2.pick 9).2
def mC(s:Src):Tm×Src:=zn (tW (s.pick 5).1.toNat (s.pick 5).2 [])
theorem DD{s:Src}(hs:s.Ok)(ha:s.at_≤999999900):MQ h1 h2 21 [.c (.pt 0 0 0)] [(0,bI s)] (aO (cR (mC s).1) [(0,bI (mC s).2)]):=by
 refine MC.shift 500 Z (MC.keep [500] (bs:=[bI (mC s).2]) Z Z (jH 35 [500] h1 h2 Tryz.func21 Z fun O hF=>?_))
 refine bJ ?_
 obtain⟨R,hR⟩: ∃R,R=mC s:=⟨_,rfl⟩
 rw[←hR]
 have hp0:=cy hs (n:=5) (by omega)
 have hat0:=bQ (s:=s) (n:=5)
 refine ac (jl Z (am ?_))
 refine aN (hp (bz O Z Z Z) Z (am ?_))
 refine js Z (jn (ae (ac (js Z (ao O [500] (bin:=[bI s]) Z Z Z Z (fz (s:=s) (n:=5) h1 h2 hs (by omega) (by omega) (by omega)) Z Z Z Z Z Z (B0:=10000) Z Z (am ?_))))))
 refine js Z (jn (ak (ap (X:=Nat×Src×List Int) (fun x=>⟨[(0,.c (.pt 500 0 0)),(2,.c (.pt 2 0 0)),(3,.c (.rs 900 0 x.2.2.length)),(4,eI (x.1:Nat))],[(2,.box [.d (.int .i64 0),.d .nils]),(500,bI x.2.1),(900,aE x.2.2)]⟩) (fun x=>x.2.1.Ok∧mC s=zn (tW x.1 x.2.1 x.2.2)∧x.2.2.length+x.1≤4∧x.2.1.at_+2*x.1≤s.at_+10) (fun x=>x.1) ((s.pick 5).1.toNat,(s.pick 5).2,[]) (((ah [2,500,7] (e':=[(0,_),(2,_),(3,_),(4,_)]) Z Z ⟨Z,Z,Z,Z,tv⟩ Z).trans (aa 7 900 Z Z)).trans (Ent.to ⟨Z,Z,Z,by rw[Int.toNat_of_nonneg hp0.1];rfl,tv⟩ Z)) ?_ (fun x hi=>?_))))
 exact⟨hs.pick,Z,by simp only[List.length_nil];omega,by simp only;omega⟩
 refine ae (ac (jb Z (jn (zc Z (fun z11=>?_) (fun z11=>?_)))))
 refine af (ae (ak (ag (jb Z ?_))))
 have hp:=cy hi.1 (n:=5) (by omega)
 have hat:=bQ (s:=x.2.1) (n:=5)
 have hk:=bt z11
 refine ao O [500] (bin:=[bI x.2.1]) Z Z Z Z (fz (s:=x.2.1) (n:=5) h1 h2 hi.1 (by omega) (by omega) (by omega)) Z Z Z Z Z Z (B0:=17000) Z Z (am ?_)
 refine st (aS O Z Z (by omega) (by omega)) Z (hp (bz O Z Z Z) Z (am ?_))
 refine hp (cu (zs:=(x.2.2++[(x.2.1.pick 5).1-2]).map fun n=>[.int .i64 n]) (n:=(x.2.2++[(x.2.1.pick 5).1-2]).length) O Z Z Z Z Z Z Z Z Z Z Z Z Z Z Z Z (.row Z (bA _).symm) Z Z (by decide) Z (by simp;omega) (by simp;omega) (by simp) (by simp)) Z (am ?_)
 refine am ?_
 refine js Z (jn (ag (js Z ?_)))
 first|refine ji Z ?_|refine db Z Z ?_
 refine js Z (jn ?_)
 obtain⟨k,hk1⟩: ∃k,x.1=k+1:=⟨x.1-1,by omega⟩
 refine⟨(k,(x.2.1.pick 5).2,x.2.2++[(x.2.1.pick 5).1-2]),((ah [2,500,19] (e':=[(0,_),(2,_),(3,_),(4,_)]) Z Z ⟨Z,Z,Z,Z,tv⟩ Z).trans (aa 19 900 Z Z)).trans (Ent.to ⟨Z,Z,Z,?_,tv⟩ Z),⟨hi.1.pick,by rw[hi.2.1,hk1,tW],by simp only[cp,du];omega,by simp only;omega⟩,by simp only;omega⟩
 exact congrArg (fun z=>some (eI z)) (by simp only;omega)
 refine aR (ac ?_)
 have hk:=b9 z11
 obtain⟨k,s1,xs1⟩:=x
 simp only at hi hk
 obtain rfl:k=0:=by omega
 obtain⟨hi1,hi2,hi3,hi4⟩:=hi
 rw[show mC s=zn (xs1,s1)from hi2]at hR
 have hp1:=cy hi1 (n:=9) (by omega)
 have hat1:=bQ (s:=s1) (n:=9)
 have hat2:=bQ (s:=(s1.pick 9).2) (n:=30)
 refine an (Ent.freeze 900 (e':=[(3,_),(0,_),(2,_)]) Z (.cons Z (.c (.row Z (bA _).symm)) (fe [0,2] Z)) (cb Z (cb Z (.skip .nil)))) ?_
 refine js Z (ao O [500] (bin:=[bI s1]) Z Z Z Z (fz (s:=s1) (n:=9) h1 h2 hi1 (by omega) (by omega) (by omega)) Z Z Z Z Z Z (B0:=23000) Z Z (am ?_))
 refine st (aS O Z Z (by omega) (by omega)) Z (js Z (aj O Z Z Z Z (pO (c:=(s1.pick 9).1-4) (xs:=xs1) h1 h2) (ab Z) Z Z Z Z (B0:=26000) Z Z (jc Z (jl Z (am ?_)))))
 refine jo Z (am ?_)
 refine js Z (jn (ae (ac (js Z (ao O [500] (bin:=[bI (s1.pick 9).2]) Z Z Z Z (xc (s:=(s1.pick 9).2) (n:=30) h1 h2 hi1.pick (by omega) (by omega) (by omega)) Z Z Z Z Z Z (B0:=30000) Z Z (am ?_))))))
 refine jn (zc Z (fun z29=>?_) (fun z29=>?_))
 refine ag (js Z (hp (bz O Z Z Z) Z (am ?_)))
 refine an (ah [2,5,500,31] (e':=[(30,_),(5,_),(0,_),(31,_),(2,_)]) Z Z ⟨Z,Z,Z,Z,Z,tv⟩ Z) (an (Ent.freeze 31 (e':=[(30,_),(5,_),(0,_),(31,_),(2,_)]) Z (.cons Z (.keep Z) (.cons Z (.keep Z) (.cons Z (.keep Z) (.cons Z (.c (.row Z Z)) (fe [2] Z))))) (cb Z (cb Z (cb Z (.skip .nil))))) ?_)
 refine ao O [500] (bin:=[bI ((s1.pick 9).2.pick 30).2]) Z Z Z Z (zM (s:=((s1.pick 9).2.pick 30).2) (xs:=[1000000,-1000000]) h1 h2 hi1.pick.pick (by omega) (by decide) (by decide)) Z Z Z Z Z Z (B0:=33000) Z Z (am ?_)
 refine js Z (jo Z (am ?_))
 refine aN (js Z (jo Z (am ?_)))
 refine jr ?_
 have ho:((s1.pick 9).2.pick 30).1=0:=bt z29
 rw[show R=_ from hR.trans (if_pos ho)]
 refine⟨.inl Z,_,bK,_,Z,Z,Z⟩
 refine af (ac (js Z (jo Z (am ?_))))
 refine jr ?_
 have ho: ¬((s1.pick 9).2.pick 30).1=0:=b9 z29
 rw[show R=_ from hR.trans (if_neg ho)]
 refine⟨.inl Z,_,bK,_,Z,Z,Z⟩
theorem CB{t:Tm}{s:Src}:(yb t s).2.at_≤s.at_+4:=by
 have h1:=bQ (s:=s) (n:=30)
 have h2:=bQ (s:=(s.pick 30).2) (n:=2)
 unfold yb;split
 show(((s.pick 30).2.pick 2).2).at_≤_;omega
 show((s.pick 30).2).at_≤_;omega
theorem CA{t:Tm}{s:Src}(h:s.Ok):(yb t s).2.Ok:=by
 unfold yb;split
 exact h.pick.pick
 exact h.pick
theorem sV{s:Src}(h:s.Ok):(mC s).2.at_≤s.at_+16:=by
 have h0:=cy h (n:=5) (by omega)
 have h1:=bQ (s:=s) (n:=5)
 have h2:=Aq (k:=(s.pick 5).1.toNat) (s:=(s.pick 5).2) (xs:=[])
 have h3:=bQ (s:=(tW (s.pick 5).1.toNat (s.pick 5).2 []).2) (n:=9)
 have h4:=CB (t:=(lY (((tW (s.pick 5).1.toNat (s.pick 5).2 []).2.pick 9).1-4) (tW (s.pick 5).1.toNat (s.pick 5).2 []).1).1) (s:=((tW (s.pick 5).1.toNat (s.pick 5).2 []).2.pick 9).2)
 unfold mC zn
 omega
theorem mo{s:Src}(h:s.Ok):(mC s).2.Ok:=CA (vY h.pick).pick
def y9:Nat→Src→List Tm→List Tm×Src
  | 0,s,ts=>(ts,s)
  | k+1,s,ts=>y9 k (mC s).2 (ts++[(mC s).1])
def iZ(s:Src):List Tm×Src:=y9 (s.pick 3).1.toNat (s.pick 3).2 []
theorem Au: ∀{k:Nat} {s:Src} {ts:List Tm},s.Ok→(y9 k s ts).2.at_≤s.at_+16*k
 | 0,s,ts,_=>cQ _
 | k+1,s,ts,h=>by
  have h1:=Au (k:=k) (ts:=ts++[(mC s).1]) (mo h)
  have h2:=sV h
  rw[y9];omega
theorem Ar: ∀{k:Nat} {s:Src} {ts:List Tm},s.Ok→(y9 k s ts).2.Ok
 | 0,s,ts,h=>h
 | k+1,s,ts,h=>by rw[y9];exact Ar (mo h)
theorem tu{s:Src}(h:s.Ok):(iZ s).2.at_≤s.at_+50:=by
 have h0:=cy h (n:=3) (by omega)
 have h1:=bQ (s:=s) (n:=3)
 have h2:=Au (k:=(s.pick 3).1.toNat) (ts:=[]) (h.pick (n:=3))
 unfold iZ;omega
theorem pE{s:Src}(h:s.Ok):(iZ s).2.Ok:=Ar h.pick
theorem DC{s:Src}(hs:s.Ok)(ha:s.at_≤999999800):MQ h1 h2 41 [.c (.pt 0 0 0)] [(0,bI s)] (aO (.c (.d (fd (iZ s).1))) [(0,bI (iZ s).2)]):=by
 refine MC.shift 500 Z (MC.keep [500] (bs:=[bI (iZ s).2]) Z Z (jH 18 [500] h1 h2 Tryz.func41 Z fun O hF=>?_))
 refine bJ ?_
 obtain⟨R,hR⟩: ∃R,R=iZ s:=⟨_,rfl⟩
 rw[←hR]
 have hp0:=cy hs (n:=3) (by omega)
 have hat0:=bQ (s:=s) (n:=3)
 refine ac (js Z (aN (hp (bz O Z Z Z) Z (am ?_))))
 refine js Z (jn (ae (ac (js Z (ao O [500] (bin:=[bI s]) Z Z Z Z (fz (s:=s) (n:=3) h1 h2 hs (by omega) (by omega) (by omega)) Z Z Z Z Z Z (B0:=8000) Z Z (am ?_))))))
 refine js Z (jn (ak (ap (X:=Nat×Src×List Tm) (fun x=>⟨[(0,.c (.pt 500 0 0)),(3,.c (.rs 900 0 x.2.2.length)),(4,eI (x.1:Nat))],[(500,bI x.2.1),(900,aD x.2.2)]⟩) (fun x=>x.2.1.Ok∧iZ s=y9 x.1 x.2.1 x.2.2∧x.2.2.length+x.1≤2∧x.2.1.at_+16*x.1≤s.at_+40) (fun x=>x.1) ((s.pick 3).1.toNat,(s.pick 3).2,[]) ((c9 5 Z).trans (((ah [500,5] (e':=[(0,_),(3,_),(4,_)]) Z Z ⟨Z,Z,Z,tv⟩ Z).trans (aa 5 900 Z Z)).trans (Ent.to ⟨Z,Z,by rw[Int.toNat_of_nonneg hp0.1];rfl,tv⟩ Z))) ?_ (fun x hi=>?_))))
 exact⟨hs.pick,Z,by simp only[List.length_nil];omega,by simp only;omega⟩
 refine ae (ac (jb Z (jn (zc Z (fun z9=>?_) (fun z9=>?_)))))
 refine af (ae (ak (ag (jb Z ?_))))
 have hat:=sV hi.1
 have hk:=bt z9
 refine ao O [500] (bin:=[bI x.2.1]) Z Z Z Z (DD (s:=x.2.1) h1 h2 hi.1 (by omega)) Z Z Z Z Z Z (B0:=15000) Z Z (am ?_)
 refine hp (aZ O Z Z Z Z Z Z Z Z Z Z Z) Z (am ?_)
 refine hp (ko (own:=false) (xs:=x.2.2.map Tm.cells) (ys:=[Tm.cells (mC x.2.1).1]) (zs:=(x.2.2++[(mC x.2.1).1]).map Tm.cells) (n:=(x.2.2++[(mC x.2.1).1]).length) O Z (.row Z (bA _).symm) (.whole Z Z (.inr ⟨Z,Z⟩)) (by simp) Z (by simp;omega) (by simp;omega) (by simp) (by simp)) Z (am ?_)
 refine am ?_
 refine js Z (jn (ag (js Z ?_)))
 first|refine ji Z ?_|refine db Z Z ?_
 refine js Z (jn ?_)
 obtain⟨k,hk1⟩: ∃k,x.1=k+1:=⟨x.1-1,by omega⟩
 refine⟨(k,(mC x.2.1).2,x.2.2++[(mC x.2.1).1]),((ah [500,16] (e':=[(0,_),(3,_),(4,_)]) Z Z ⟨Z,Z,Z,tv⟩ Z).trans (aa 16 900 Z Z)).trans (Ent.to ⟨Z,Z,?_,tv⟩ Z),⟨mo hi.1,by rw[hi.2.1,hk1,y9],by simp only[cp,du];omega,by simp only;omega⟩,by simp only;omega⟩
 exact congrArg (fun z=>some (eI z)) (by simp only;omega)
 refine aR (ac ?_)
 have hk:=b9 z9
 obtain⟨k,s1,ts1⟩:=x
 simp only at hi hk
 obtain rfl:k=0:=by omega
 rw[show R=(ts1,s1)from hR.trans hi.2.1]
 refine an (Ent.freeze 900 (e':=[(3,_),(0,_)]) Z (.cons Z (.c (.row Z (bA _).symm)) (fe [0] Z)) (cb Z (.skip .nil))) ?_
 refine jb Z (jr ?_)
 refine⟨.inl Z,_,bK,_,Z,Z,Z⟩
theorem BB{p:Pm}{t:Tr}{i:Nat}(hb:(f8 p t i).bad=true): ∀{n:Nat},i≤n→(f8 p t n).bad=true:=fun{n} hn=>by
 induction n with
 | zero=>
  obtain rfl:i=0:=by omega
  exact hb
 | succ n ih=>
  rcases Nat.lt_or_ge n i with h1|h1
  obtain rfl:i=n+1:=by omega
  exact hb
  have:=ih h1
  rw[f8,kD,n2 this];exact this
theorem tE{p:Pm}{t:Tr}{n:Nat}(hb:(f8 p t n).bad=false){i:Nat}(hi:i≤n):(f8 p t i).bad=false:=by
 cases h:(f8 p t i).bad with
 | false=>rfl
 | true=>rw[BB h hi]at hb;cases hb
theorem x3{p:Pm}{t:Tr}{n:Nat}(hb:(f8 p t (n+1)).bad=false):(kD bD p t n g0).bad=false∧(f8 p t (n+1)).paths=(f8 p t n).paths++(kD bD p t n g0).paths∧(f8 p t (n+1)).conds=(f8 p t n).conds++(kD bD p t n g0).conds:=by
 have hn:=tE hb (Nat.le_succ n)
 have hl:=(zV (p:=p) (t:=t) n).2 hn
 rw[f8]at hb ⊢
 have s0:Sim (f8 p t n).paths (f8 p t n).conds (f8 p t n) g0:=⟨fun _=>⟨rfl,by simp[g0],by simp[g0],hl⟩,fun h=>absurd (hn.symm.trans h) (by decide)⟩
 have s:=rR (la:=bD) (E:=tS p.body p.post) (b:=p.body) (t:=t) (pre:=p.pre) (n:=n) s0
 obtain⟨a1,a2,a3,a4⟩:=s.ok hb
 exact⟨a1,a2,a3⟩
theorem yA{la:dv}{s:Sm}{w:Pw}{g:Gs}(h:w.vars.length=4):(bN la s w g).1.vars.length=4:=by
 unfold bN
 split
 simp[Pw.set,h]
 split
 split
 simp[Pw.set,h]
 simp[nR,h]
 split
 exact h
 split
 exact h
 split
 exact h
 exact h
theorem AC{p:Pm}{t:Tr}: ∀{n m:Nat},n≤m→(f8 p t m).bad=false→(f8 p t n).paths <+: (f8 p t m).paths∧(f8 p t n).conds <+: (f8 p t m).conds
 | n,0,hn,hb=>by obtain rfl:n=0:=(by omega);exact⟨List.prefix_refl _,List.prefix_refl _⟩
 | n,m+1,hn,hb=>by
  rcases Nat.lt_or_ge n (m+1)with h1|h1
  obtain⟨_,a2,a3⟩:=x3 hb
  have ih:=AC (n:=n) (m:=m) (by omega) (tE hb (Nat.le_succ m))
  rw[a2,a3]
  exact⟨ih.1.trans (List.prefix_append _ _),ih.2.trans (List.prefix_append _ _)⟩
  obtain rfl:n=m+1:=by omega
  exact⟨List.prefix_refl _,List.prefix_refl _⟩
theorem tb{c:Int}{xs:List Int}(h:xs.length≤4):((lY c xs).1).term=true:=by
 unfold lY
 split
 rename_i h1
 have:=gl xs
 unfold Tm.term
 rw[h1,Bool.true_and]
 exact decide_eq_true (by show((bv xs).length:Int)≤4;omega)
 rfl
theorem xO: ∀{k:Nat} {s:Src} {xs:List Int},(tW k s xs).1.length=xs.length+k
 | 0,s,xs=>rfl
 | k+1,s,xs=>by rw[tW,xO,cp,du];omega
theorem vG{t:Tm}(h:t.term=true){c:Int}(hc: -1000000≤c∧c≤1000000):(⟨c,t.xs⟩:Tm).term=true:=by
 have hn:num c=true:=by unfold num;rw[decide_eq_true hc.1,decide_eq_true hc.2];rfl
 unfold Tm.term Tm.ok at h ⊢
 cases h1:num t.c with
 | false=>rw[h1]at h;simp at h
 | true=>rw[h1]at h;rw[hn];exact h
theorem ni{s:Src}(h:s.Ok):(mC s).1.term=true:=by
 have h0:=cy h (n:=5) (by omega)
 have hl:=xO (k:=(s.pick 5).1.toNat) (s:=(s.pick 5).2) (xs:=[])
 have ht:((lY (((tW (s.pick 5).1.toNat (s.pick 5).2 []).2.pick 9).1-4) (tW (s.pick 5).1.toNat (s.pick 5).2 []).1).1).term=true:=tb (by rw[hl,List.length_nil];omega)
 unfold mC zn yb
 split
 rename_i ho
 have ho2:=cy (s:=(((tW (s.pick 5).1.toNat (s.pick 5).2 []).2.pick 9).2.pick 30).2) (n:=2) (vY h.pick).pick.pick (by omega)
 refine vG ht ?_
 generalize ((((tW (s.pick 5).1.toNat (s.pick 5).2 []).2.pick 9).2.pick 30).2.pick 2).1=z at ho2
 rcases(show z=0∨z=1 by omega)with rfl|rfl<;>decide
 exact ht
theorem sf: ∀{k:Nat} {s:Src} {ts:List Tm},s.Ok→(∀t∈ts,t.term=true)→(∀t∈(y9 k s ts).1,t.term=true)∧(y9 k s ts).1.length=ts.length+k
 | 0,s,ts,h,ht=>⟨ht,rfl⟩
 | k + 1,s,ts,h,ht=>by
  have:=sf (k:=k) (ts:=ts++[(mC s).1]) (mo h) (fun t hm=>by
   rcases List.mem_append.1 hm with h1|h1
   · exact ht t h1
   · rw[List.mem_singleton.1 h1];exact ni h)
  rw[y9]
  refine⟨this.1,?_⟩
  rw[this.2,cp,du];omega
theorem jy{ts:List Tm}(h: ∀t∈ts,t.term=true)(hl:ts.length≤6):terms ts 6=true:=by
 unfold terms
 rw[List.all_eq_true.2 h,Bool.true_and]
 exact decide_eq_true (by omega)
theorem qW{s:Src}(h:s.Ok):terms (iZ s).1 6=true:=by
 have h0:=cy h (n:=3) (by omega)
 have:=sf (k:=(s.pick 3).1.toNat) (ts:=[]) (h.pick (n:=3)) (fun t ht=>by cases ht)
 exact jy this.1 (by show(y9 _ _ _).1.length≤6;rw[this.2,List.length_nil];omega)
abbrev z0:Tm:=⟨0,[]⟩
abbrev iY:Sm:=⟨1,0,0,z0,z0,[]⟩
abbrev iX(v:Int)(t:Tm):Sm:=⟨2,v,0,t,z0,[]⟩
abbrev D3(v:Int)(i:Tm):Sm:=⟨3,v,0,z0,i,[]⟩
abbrev BQ(i t:Tm):Sm:=⟨4,0,0,t,i,[]⟩
abbrev zz(e:Int):Sm:=⟨5,0,e,z0,z0,[]⟩
abbrev pm(t:Tm):Sm:=⟨6,0,0,t,z0,[]⟩
abbrev I4(t:Tm):Sm:=⟨7,0,0,t,z0,[]⟩
abbrev kH(t:Tm)(fs:List Tm):Sm:=⟨8,0,0,t,z0,fs⟩
theorem rI:bi iY=true:=by decide
theorem rG{v:Int}{t:Tm}(hv:0≤v∧v≤3)(h:t.term=true):bi (iX v t)=true:=by
 simp[bi,rv,x6,y7,tY,tZ,pL,h,hv,terms,Tm.zero,show(z0:Tm).term=true by decide]
theorem DX{v:Int}{t:Tm}(hv:0≤v∧v≤3)(h:t.term=true):bi (D3 v t)=true:=by
 simp[bi,rv,x6,y7,tY,tZ,pL,h,hv,terms,Tm.zero,show(z0:Tm).term=true by decide]
theorem DW{i t:Tm}(hi:i.term=true)(h:t.term=true):bi (BQ i t)=true:=by
 simp[bi,rv,x6,y7,tY,tZ,pL,h,hi,terms,Tm.zero]
theorem AB{e:Int}(h:0≤e∧e≤3):bi (zz e)=true:=by
 simp[bi,rv,x6,y7,tY,tZ,pL,h,terms,Tm.zero,show(z0:Tm).term=true by decide]
theorem qF{t:Tm}(h:t.term=true):bi (pm t)=true:=by
 simp[bi,rv,x6,y7,tY,tZ,pL,h,terms,Tm.zero,show(z0:Tm).term=true by decide]
theorem Hd{t:Tm}(h:t.term=true):bi (I4 t)=true:=by
 simp[bi,rv,x6,y7,tY,tZ,pL,h,terms,Tm.zero,show(z0:Tm).term=true by decide]
theorem C0{t:Tm}{fs:List Tm}(h:t.term=true)(hf:terms fs 6=true):bi (kH t fs)=true:=by
 simp[bi,rv,x6,y7,tY,tZ,pL,h,hf,Tm.zero,show(z0:Tm).term=true by decide]
theorem po{p:Pm}(h1:terms p.pre 6=true)(h2: ∀s∈p.body,bi s=true)(h3:1≤p.body.length∧p.body.length≤30)(h4:sL p.body 0=p.body.length)(h5:terms p.post 6=true):gQ p=true:=by
 unfold gQ ku
 rw[h1,h5,List.all_eq_true.2 h2,decide_eq_true (show(1:Int)≤p.body.length by omega),decide_eq_true (show(p.body.length:Int)≤30 by omega),decide_eq_true h4]
 rfl
def ry(low tm:Tm)(s:Src):Sm×Src:=
  if(s.pick 4).1=0 then(D3 (1+((s.pick 4).2.pick 3).1) low,((s.pick 4).2.pick 3).2)
  else if(s.pick 4).1=1 then(zz ((s.pick 4).2.pick 4).1,((s.pick 4).2.pick 4).2)
  else if(s.pick 4).1=2 then(pm low,(s.pick 4).2)else(BQ low tm,(s.pick 4).2)
def mI(post:List Tm)(s:Src):List Tm×Src:=if(s.pick 4).1=0 then iZ (s.pick 4).2 else(post,(s.pick 4).2)
def yf(r:Int)(pre:List Tm)(m:Sm×Src):Pm×Src:=
  ⟨⟨pre,[iY,iX 0 ⟨(m.2.pick 2).1,[]⟩,kH ⟨r-1,[-1]⟩ [⟨0,[1]⟩,⟨r,[-1]⟩],iY,m.1,iX 0 ⟨1,[1]⟩],(mI [⟨-r,[1]⟩] (m.2.pick 2).2).1⟩,(mI [⟨-r,[1]⟩] (m.2.pick 2).2).2⟩
def D9(r:Int)(f:List Tm×Src):Pm×Src:=yf r f.1 (ry ⟨0,[1]⟩ (mC f.2).1 (mC f.2).2)
def x8(s:Src):Pm×Src:=D9 (3+(s.pick 6).1) (iZ (s.pick 6).2)
theorem zJ{low tm:Tm}{s:Src}(h:s.Ok)(hl:low.term=true)(ht:tm.term=true):bi (ry low tm s).1=true∧(ry low tm s).1.kind∈[3,4,5,6]∧(ry low tm s).2.Ok:=by
 have h1:=cy (h.pick (n:=4)) (n:=3) (by omega)
 have h2:=cy (h.pick (n:=4)) (n:=4) (by omega)
 unfold ry
 split
 exact⟨DX (by omega) hl,by simp,h.pick.pick⟩
 split
 exact⟨AB (by omega),by simp,h.pick.pick⟩
 split
 exact⟨qF hl,by simp,h.pick⟩
 exact⟨DW hl ht,by simp,h.pick⟩
theorem CQ{post:List Tm}{s:Src}(h:s.Ok)(hp:terms post 6=true):terms (mI post s).1 6=true∧(mI post s).2.Ok:=by
 unfold mI;split
 exact⟨qW h.pick,pE h.pick⟩
 exact⟨hp,h.pick⟩
theorem zE{r k:Int}(h: -1000000≤r∧r≤1000000)(hk:k=1∨k= -1):(⟨r,[k]⟩:Tm).term=true:=by
 refine vG (t:=⟨0,[k]⟩) ?_ h
 rcases hk with rfl|rfl<;>decide
theorem HM{r:Int}(h: -1000000≤r∧r≤1000000):(⟨r,[]⟩:Tm).term=true:=vG (t:=⟨0,[]⟩) (by decide) h
theorem Ao{s:Src}(h:s.Ok):gQ (x8 s).1=true∧(x8 s).2.Ok:=by
 have h0:=cy h (n:=6) (by omega)
 have hf:=qW (h.pick (n:=6))
 have hfo:=pE (h.pick (n:=6))
 have hm:=zJ (low:=⟨0,[1]⟩) (mo hfo) (by decide) (ni hfo)
 unfold x8 D9
 generalize ry ⟨0,[1]⟩ (mC (iZ (s.pick 6).2).2).1 (mC (iZ (s.pick 6).2).2).2=m at hm
 generalize (iZ (s.pick 6).2).1=pre at hf
 generalize (s.pick 6).1=a at h0
 have h2:=cy hm.2.2 (n:=2) (by omega)
 have he:=CQ (post:=[⟨-(3+a),[1]⟩]) (hm.2.2.pick (n:=2)) (jy (fun t ht=>by rw[List.mem_singleton.1 ht];exact zE (by omega) (.inl Z)) (by simp))
 refine⟨?_,he.2⟩
 refine po hf (fun x hx=>?_) ⟨by show 1≤6;decide,by show 6≤30;decide⟩ ?_ he.1
 simp only[yf,List.mem_cons,List.not_mem_nil,or_false]at hx
 rcases hx with rfl|rfl|rfl|rfl|rfl|rfl
 exact rI
 exact rG (by decide) (HM (by omega))
 exact C0 (zE (by omega) (.inr Z)) (jy (fun t ht=>by
  simp only[List.mem_cons,List.not_mem_nil,or_false]at ht
  rcases ht with rfl|rfl
  · decide
  · exact zE (by omega) (.inr Z)) (by simp))
 exact rI
 exact hm.1
 exact rG (by decide) (by decide)
 obtain⟨⟨k,v,e,t,i,fs⟩,s'⟩:=m
 have hk:=hm.2.1
 simp only[List.mem_cons,List.not_mem_nil,or_false]at hk
 rcases hk with rfl|rfl|rfl|rfl<;>rfl
def l3(c:Int)(v:Nat)(n:Int):Tm:=(lY c (List.replicate v 0++[n])).1
theorem fQ{c n:Int}{v:Nat}(h:v≤3):(l3 c v n).term=true:=tb (by rw[cp,List.length_replicate,du];omega)
def pR(off:Int)(p:Pm)(s:Src):Pm×Src:=
  if(s.pick 5).1=0 then(⟨[],[iY,iX 2 (l3 0 1 2),I4 (l3 (-1) 2 1),pm (l3 (-1-off) 1 1),pm (l3 0 1 (-1))],[]⟩,(s.pick 5).2)
  else if(s.pick 5).1=1 then(⟨[],[I4 (l3 (-(((s.pick 5).2.pick 9).1-4)) 1 1),iX 0 (l3 (-(((s.pick 5).2.pick 9).1-4)) 1 1),iX 0 (l3 (((s.pick 5).2.pick 9).1-4-off) 1 (-1))],[l3 0 0 1]⟩,((s.pick 5).2.pick 9).2)
  else if(s.pick 5).1=2 then(⟨[l3 0 1 1,l3 (7+off) 1 (-1)],[iY,D3 2 (l3 0 1 1),iY,BQ (l3 0 1 1) (l3 1 2 1),iY,zz ((s.pick 5).2.pick 4).1,iX 3 (l3 (((s.pick 5).2.pick 4).2.pick 3).1 2 1)],[(lY 0 [0,0,-1,1]).1]⟩,(((s.pick 5).2.pick 4).2.pick 3).2)
  else(p,(s.pick 5).2)
def Ca(xs:List Int):Pm:=(pR (if((x8 ⟨xs,0,0⟩).2.pick 4).1=0 then 1 else 0) (x8 ⟨xs,0,0⟩).1 ((x8 ⟨xs,0,0⟩).2.pick 4).2).1
theorem C2{off:Int}{p:Pm}{s:Src}(h:s.Ok)(hp:gQ p=true):gQ (pR off p s).1=true:=by
 have h4:=cy (h.pick (n:=5)) (n:=4) (by omega)
 unfold pR
 split
 refine po Z (fun x hx=>?_) ⟨by show 1≤5;decide,by show 5≤30;decide⟩ Z Z
 simp only[List.mem_cons,List.not_mem_nil,or_false]at hx
 rcases hx with rfl|rfl|rfl|rfl|rfl
 exact rI
 exact rG (by decide) (fQ (by decide))
 exact Hd (fQ (by decide))
 exact qF (fQ (by decide))
 exact qF (fQ (by decide))
 split
 refine po Z (fun x hx=>?_) ⟨by show 1≤3;decide,by show 3≤30;decide⟩ Z (jy (fun t ht=>by rw[List.mem_singleton.1 ht];exact fQ (by decide)) (by simp))
 simp only[List.mem_cons,List.not_mem_nil,or_false]at hx
 rcases hx with rfl|rfl|rfl
 exact Hd (fQ (by decide))
 exact rG (by decide) (fQ (by decide))
 exact rG (by decide) (fQ (by decide))
 split
 refine po (jy (fun t ht=>?_) (by simp)) (fun x hx=>?_) ⟨by show 1≤7;decide,by show 7≤30;decide⟩ Z (jy (fun t ht=>by rw[List.mem_singleton.1 ht];exact tb (by decide)) (by simp))
 simp only[List.mem_cons,List.not_mem_nil,or_false]at ht
 rcases ht with rfl|rfl<;>exact fQ (by decide)
 simp only[List.mem_cons,List.not_mem_nil,or_false]at hx
 rcases hx with rfl|rfl|rfl|rfl|rfl|rfl|rfl
 exact rI
 exact DX (by decide) (fQ (by decide))
 exact rI
 exact DW (fQ (by decide)) (fQ (by decide))
 exact rI
 exact AB (by omega)
 exact rG (by decide) (fQ (by decide))
 exact hp
theorem C1{xs:List Int}(h: ∀n∈xs,0≤n∧n≤255):gQ (Ca xs)=true:=by
 have h0:(⟨xs,0,0⟩:Src).Ok:=⟨h⟩
 have h1:=Ao h0
 exact C2 h1.2.pick h1.1
theorem AP{k:Nat}:(List.replicate (k+1) [D.int .i64 0])[0+k]? = some [D.int .i64 0]:=by simp
theorem AO{k:Nat}{n:Int}:(List.replicate (k+1) [D.int .i64 0]).set (0+k) [D.int .i64 n]=((List.replicate k 0++[n]:List Int)).map fun n=>[D.int .i64 n]:=by
 rw[List.replicate_succ',Nat.zero_add,List.set_append_right _ _ (by simp)];simp
theorem iK{c:Int}{k:Nat}(hk:k<10):MQ h1 h2 22 [eI c,eI k,eI n] [] (Plain (cR (l3 c k n))):=by
 refine MC.data (jB 24 h1 h2 Tryz.func22 Z fun O hF=>?_)
 refine ac (jl Z (am ?_))
 refine aN (js Z ?_)
 first|refine ji Z ?_|refine db Z Z ?_
 refine hp (f6 O Z Z Z Z Z Z Z Z Z (by first|omega|(simp at *;omega)) (by first|omega|(simp at *;omega)) (by first|omega|(simp at *;omega)) (by first|omega|(dsimp only;omega)|(simp only[bo]at *;omega)) (by first|omega|(simp at *;omega)) Z Z Z) Z (am ?_)
 refine js Z (aN (jc Z ?_))
 first|refine jh Z Z ?_|refine nC Z Z ?_|refine db Z Z ?_
 refine hp (bL (ex:=[.int .i64 0]) (xs':=((List.replicate k 0++[n]:List Int)).map (fun n:Int=>[D.int .i64 n])) O Z Z Z Z Z Z Z Z Z Z Z Z Z Z AP AO) Z (am ?_)
 refine aN (an (ah [6,12] (e':=[(0,_),(6,_),(7,_)]) Z Z ⟨Z,Z,Z,tv⟩ Z) (an (Ent.freeze 12 (e':=[(0,_),(6,_),(7,_)]) Z (.cons Z (.keep Z) (.cons Z (.keep Z) (.cons Z (.c (.row Z (by simp))) .nil))) (cb Z (.skip .nil))) ?_))
 refine jb Z (aj O Z Z Z Z (pO (c:=c) (xs:=List.replicate k 0++[n]) h1 h2) (ab Z) Z Z Z Z (B0:=21000) Z Z (jc Z (jl Z (am ?_))))
 refine jo Z (am ?_)
 refine js Z (aN (js Z (jo Z (am ?_))))
 refine jr ?_
 refine eR Z ?_
 exact .v (.agg (ax Z))
abbrev w3(ss:List Sm):B:=.row false 8 (ss.map Sm.cells)
abbrev iD:Tm:=⟨0,[1]⟩
theorem Ap{low tm:Tm}{s:Src}:(ry low tm s).2.at_≤s.at_+4:=by
 have h1:=bQ (s:=s) (n:=4)
 have h2:=bQ (s:=(s.pick 4).2) (n:=3)
 have h3:=bQ (s:=(s.pick 4).2) (n:=4)
 unfold ry;split
 show(((s.pick 4).2.pick 3).2).at_≤_;omega
 split
 show(((s.pick 4).2.pick 4).2).at_≤_;omega
 split
 show((s.pick 4).2).at_≤_;omega
 show((s.pick 4).2).at_≤_;omega
theorem Id{s:Src}(hs:s.Ok)(ha:s.at_≤999999500):MQ h1 h2 30 [.c (.pt 0 0 0)] [(0,bI s)] (aO (ky (x8 s).1) [(0,bI (x8 s).2)]):=by
 refine MC.shift 500 Z (MC.keep [500] (bs:=[bI (x8 s).2]) Z Z (jH 88 [500] h1 h2 Tryz.func30 Z fun O hF=>?_))
 refine bJ ?_
 obtain⟨R,hR⟩: ∃R,R=x8 s:=⟨_,rfl⟩
 rw[←hR]
 have hp0:=cy hs (n:=6) (by omega)
 have hat0:=bQ (s:=s) (n:=6)
 refine ac (jl Z (am ?_))
 refine aN (hp (aZ O Z Z Z Z Z Z Z Z Z Z Z) Z (am ?_))
 refine an (ah [2,500,9] (e':=[(9,_),(0,_),(2,_)]) Z Z ⟨Z,Z,Z,tv⟩ Z) (an (Ent.freeze 9 (e':=[(9,_),(0,_),(2,_)]) Z (.cons Z (.c (.row Z Z)) (fe [0,2] Z)) (cb Z (cb Z (.skip .nil)))) ?_)
 refine am ?_
 refine am ?_
 refine js Z (jl Z (am ?_))
 refine jo Z (am ?_)
 refine aN (js Z (ao O [500] (bin:=[bI s]) Z Z Z Z (fz (s:=s) (n:=6) h1 h2 hs (by omega) (by omega) (by omega)) Z Z Z Z Z Z (B0:=13000) Z Z (am ?_)))
 refine st (aS O Z Z (by omega) (by omega)) Z ?_
 obtain⟨r,hr⟩: ∃r,r=3+(s.pick 6).1:=⟨_,rfl⟩
 rw[←hr]
 refine hp (aZ O Z Z Z Z Z Z Z Z Z Z Z) Z (am ?_)
 refine an (ah [2,3,500,14] (e':=[(14,_),(13,_),(0,_),(2,_),(3,_)]) Z Z ⟨Z,Z,Z,Z,Z,tv⟩ Z) (an (Ent.freeze 14 (e':=[(14,_),(13,_),(0,_),(2,_),(3,_)]) Z (.cons Z (.c (.row Z Z)) (fe [13,0,2,3] Z)) (cb Z (cb Z (cb Z (.skip .nil))))) ?_)
 refine am ?_
 refine am ?_
 refine js Z (jl Z (am ?_))
 refine jo Z (am ?_)
 refine aN (jb Z (st (aS O Z Z (by omega) (by omega)) Z (hp (aZ O Z Z Z Z Z Z Z Z Z Z Z) Z (am ?_))))
 refine an (ah [2,3,4,500,19] (e':=[(19,_),(18,_),(0,_),(2,_),(3,_),(4,_)]) Z Z ⟨Z,Z,Z,Z,Z,Z,tv⟩ Z) (an (Ent.freeze 19 (e':=[(19,_),(18,_),(0,_),(2,_),(3,_),(4,_)]) Z (.cons Z (.c (.row Z Z)) (fe [18,0,2,3,4] Z)) (cb Z (cb Z (cb Z (cb Z (.skip .nil)))))) ?_)
 refine am ?_
 refine am ?_
 refine js Z (jl Z (am ?_))
 refine jo Z (am ?_)
 refine aN (hp (aZ O Z Z Z Z Z Z Z Z Z Z Z) Z (am ?_))
 refine an (ah [2,3,4,5,500,21] (e':=[(21,_),(0,_),(2,_),(3,_),(4,_),(5,_)]) Z Z ⟨Z,Z,Z,Z,Z,Z,tv⟩ Z) (an (Ent.freeze 21 (e':=[(21,_),(0,_),(2,_),(3,_),(4,_),(5,_)]) Z (.cons Z (.c (.row Z Z)) (fe [0,2,3,4,5] Z)) (cb Z (cb Z (cb Z (cb Z (cb Z (.skip .nil))))))) ?_)
 refine am ?_
 refine am ?_
 refine js Z (jl Z (am ?_))
 refine jo Z (am ?_)
 refine aN (js Z (ao O [500] (bin:=[bI (s.pick 6).2]) Z Z Z Z (DC (s:=(s.pick 6).2) h1 h2 hs.pick (by omega)) Z Z Z Z Z Z (B0:=25000) Z Z (am ?_)))
 have hf1:=pE (hs.pick (n:=6))
 have hf2:=tu (hs.pick (n:=6))
 obtain⟨f,hf⟩: ∃f,f=iZ (s.pick 6).2:=⟨_,rfl⟩
 rw[←hf]at hf1 hf2 ⊢
 refine js Z (jl Z (am ?_))
 refine jo Z (am ?_)
 refine jn (ae (fJ [_,_,_,_,_,_,_,_,_] [pn [] 0 1,pn [] 0 1,p0,pe [2] 0,pn [1,2,3] 1 1,pn [] 0 1,pn [5] 0 1,pe (rg 0 7) 1,pn (rg 0 8) 2 2] [3,7] [_,_,_] (ai (kc Z (V Z)) (ai (kc Z (V Z)) (kc Z (ai (b0 O [500] (bin:=[bI f.2]) Z Z Z Z (DD (s:=f.2) h1 h2 hf1 (by omega)) Z Z Z Z Z (B0:=30000) Z Z Z Z Z Z) (kc Z (ai (kc Z (V Z)) (ai (kc Z (V Z)) (ai (kY O Z Z Z Z Z Z Z Z Z Z Z Z Z) (kc Z trivial))))))))) ?_))
 refine jw [8,7,25,6,22,0,2,3,4,5] Z (bJ ?_)
 refine ae (ac ?_)
 have hq1:=mo hf1
 have hq2:=sV hf1
 obtain⟨q,hq⟩: ∃q,q=mC f.2:=⟨_,rfl⟩
 rw[←hq]at hq1 hq2 ⊢
 refine an ((ah [2,4,5,6,7,33,500] (e':=[(0,_),(2,_),(4,_),(5,_),(6,_),(7,_),(8,_)]) Z Z ⟨Z,Z,Z,Z,Z,Z,Z,tv⟩ Z)) (an (Ent.rowLe 33 Z (.cons (cr (cr (cr (cr (.cons (.nil (sz:=1)) (cr (.cons (.nil (sz:=1)) (.cons (.nil (sz:=2)) .nil)))))))) (.cons (cr (cr (cr (cr (cr (cr (cr (.cons (.nil (sz:=2)) .nil)))))))) (.cons (cr (cr (cr (cr (cr (cr (.cons (.nil (sz:=1)) (.cons (.nil (sz:=2)) .nil)))))))) .nil)))) (an (Ent.to (e':=[(0,.c (.pt 500 0 0)),(2,.c (.pt 2 0 0)),(4,.c (.pt 4 0 0)),(5,.c (.pt 5 0 0)),(6,.c (.pt 6 0 0)),(7,.c (.pt 7 0 0)),(8,.c (.rs 33 0 3))]) (H':=[(2,.box [.d .nils,.d .nils,.d .nils]),(4,.box [.d (.int .i64 r),.d (cK [-1])]),(5,.box [.d (.int .i64 (r-1)),.d (cK [-1])]),(6,.box [.d (.int .i64 0),.d (cK [1])]),(7,.box [.d (fd f.1),.d .nils,.d .nils]),(33,w3 [iY,BQ iD q.1,iX 0 ⟨1,[1]⟩]),(500,bI q.2)]) ⟨Z,Z,Z,Z,Z,Z,Z,tv⟩ Z) (js Z ?_)))
 have hq3:=bQ (s:=q.2) (n:=4)
 refine ao O [500] (bin:=[bI q.2]) Z Z Z Z (fz (s:=q.2) (n:=4) h1 h2 hq1 (by omega) (by omega) (by omega)) Z Z Z Z Z Z (B0:=36000) Z Z (am ?_)
 refine jn (mS ⟨[(0,.c (.pt 500 0 0)),(2,.c (.pt 2 0 0)),(4,.c (.pt 4 0 0)),(5,.c (.pt 5 0 0)),(6,.c (.pt 6 0 0)),(7,.c (.pt 7 0 0)),(8,.c (.rs 33 0 3))],[(2,.box [.d .nils,.d .nils,.d .nils]),(4,.box [.d (.int .i64 r),.d (cK [-1])]),(5,.box [.d (.int .i64 (r-1)),.d (cK [-1])]),(6,.box [.d (.int .i64 0),.d (cK [1])]),(7,.box [.d (fd f.1),.d .nils,.d .nils]),(33,w3 [iY,(ry iD q.1 q.2).1,iX 0 ⟨1,[1]⟩]),(500,bI (ry iD q.1 q.2).2)]⟩ ?_ ?_)
 refine ak (ac (jb Z (jn (zc Z (fun z36=>?_) (fun z36=>?_)))))
 refine jw [37,35,34,0,2,4,5,6,7,8] Z ?_
 have hp3:=cy (hq1.pick (n:=4)) (n:=3) (by omega)
 refine fJ [_,_,_,_,_,_,_,_] [pn [] 0 1,p0,pe [1] 0,pn [1,2] 1 1,pn [] 0 1,pn (rg 1 4) 1 1,pn (rg 0 6) 1 1,pe (rg 0 7) 1] [2,7] [_,_,_] (ai (kc Z (V Z)) (kc Z (ai (b0 O [500] (bin:=[bI (q.2.pick 4).2]) Z Z Z Z (fz (s:=(q.2.pick 4).2) (n:=3) h1 h2 hq1.pick (by omega) (by omega) (by omega)) Z Z Z Z Z (B0:=41000) Z Z Z Z Z Z) (ai (aS O Z Z (by omega) (by omega)) (ai (kc Z (V Z)) (kc Z (ai (dV (c:=(0:Int)≤1∧(1:Int)<((3:Nat):Int)) (v:=.c (.pt 33 1 0)) O Z Z (by decide)) (ai (cE O Z Z Z Z Z Z Z Z Z Z Z Z Z Z Z Z Z Z) trivial)))))))) ?_
 rw[show ry iD q.1 q.2=_ from if_pos (bt z36)]
 exact⟨Z,(ah [2,4,5,6,7,33,500] (e':=[(0,_),(2,_),(4,_),(5,_),(6,_),(7,_),(8,_)]) Z Z ⟨Z,Z,Z,Z,Z,Z,Z,tv⟩ Z).trans ((Ent.rowLe 33 Z (.cons (cr (cr (cr (cr (cr (cr (cr (.cons .refl .nil)))))))) (.cons (cr (cr (cr (cr (.cons (.nil (sz:=1)) (cr (cr (.cons (.nil (sz:=2)) .nil)))))))) (.cons (cr (cr (cr (cr (cr (cr (cr (.cons .refl .nil)))))))) .nil)))).trans (Ent.to ⟨Z,Z,Z,Z,Z,Z,Z,tv⟩ Z))⟩
 refine ac (jb Z (jn (zc Z (fun z45=>?_) (fun z45=>?_))))
 refine ag (jb Z (ao O [500] (bin:=[bI (q.2.pick 4).2]) Z Z Z Z (fz (s:=(q.2.pick 4).2) (n:=4) h1 h2 hq1.pick (by omega) (by omega) (by omega)) Z Z Z Z Z Z (B0:=50000) Z Z (am ?_)))
 refine js Z (st (dV (c:=(0:Int)≤1∧(1:Int)<((3:Nat):Int)) (v:=.c (.pt 33 1 0)) O Z Z (by decide)) Z (hp (bL O Z Z Z Z Z Z Z Z Z Z Z Z Z Z Z Z) Z (am ?_)))
 refine jn ?_
 rw[show ry iD q.1 q.2=_ from(if_neg (b9 z36)).trans (if_pos (bt z45))]
 exact⟨Z,(ah [2,4,5,6,7,33,500] (e':=[(0,_),(2,_),(4,_),(5,_),(6,_),(7,_),(8,_)]) Z Z ⟨Z,Z,Z,Z,Z,Z,Z,tv⟩ Z).trans ((Ent.rowLe 33 Z (.cons (cr (cr (cr (cr (cr (cr (cr (.cons .refl .nil)))))))) (.cons (cr (cr (cr (cr (.cons (.nil (sz:=1)) (cr (.cons (.nil (sz:=1)) (.cons (.nil (sz:=2)) .nil)))))))) (.cons (cr (cr (cr (cr (cr (cr (cr (.cons .refl .nil)))))))) .nil)))).trans (Ent.to ⟨Z,Z,Z,Z,Z,Z,Z,tv⟩ Z))⟩
 refine ac (jb Z (jn (zc Z (fun z52=>?_) (fun z52=>?_))))
 refine ag (jc Z (st (dV (c:=(0:Int)≤1∧(1:Int)<((3:Nat):Int)) (v:=.c (.pt 33 1 0)) O Z Z (by decide)) Z (hp (bL O Z Z Z Z Z Z Z Z Z Z Z Z Z Z Z Z) Z (am ?_))))
 refine jn ?_
 rw[show ry iD q.1 q.2=_ from(if_neg (b9 z36)).trans ((if_neg (b9 z45)).trans (if_pos (bt z52)))]
 exact⟨Z,(ah [2,4,5,6,7,33,500] (e':=[(0,_),(2,_),(4,_),(5,_),(6,_),(7,_),(8,_)]) Z Z ⟨Z,Z,Z,Z,Z,Z,Z,tv⟩ Z).trans ((Ent.rowLe 33 Z (.cons (cr (cr (cr (cr (cr (cr (cr (.cons .refl .nil)))))))) (.cons (cr (cr (cr (cr (cr (cr (.cons (.nil (sz:=1)) (.cons (.nil (sz:=2)) .nil)))))))) (.cons (cr (cr (cr (cr (cr (cr (cr (.cons .refl .nil)))))))) .nil)))).trans (Ent.to ⟨Z,Z,Z,Z,Z,Z,Z,tv⟩ Z))⟩
 refine af ?_
 rw[show ry iD q.1 q.2=_ from(if_neg (b9 z36)).trans ((if_neg (b9 z45)).trans (if_neg (b9 z52)))]
 exact⟨Z,(ah [2,4,5,6,7,33,500] (e':=[(0,_),(2,_),(4,_),(5,_),(6,_),(7,_),(8,_)]) Z Z ⟨Z,Z,Z,Z,Z,Z,Z,tv⟩ Z).trans (Ent.to ⟨Z,Z,Z,Z,Z,Z,Z,tv⟩ Z)⟩
 refine ae ?_
 have hm1:=(zJ (low:=iD) hq1 (by decide) (show q.1.term=true from hq ▸ ni hf1)).2.2
 have hm2:=Ap (low:=iD) (tm:=q.1) (s:=q.2)
 refine sv O _ [_,_,_,_,_,_,_,_,_,_,_,_,_] [pn [] 0 1,p0,pe [1] 0,pn [1,2] 1 1,pn [1,2,3] 1 1,pn [] 0 1,pn [] 0 1,pn [] 0 1,pn [6,7] 0 1,pn (rg 5 4) 0 1,pe (rg 0 10) 1,pn (rg 0 11) 2 2,pe (rg 0 12) 2] [2,10,12] 0 [_,_,_,_] [] Z Z (by decide) (by decide) (by decide) Z (by kernel_rfl) (ai (ai (ai (az (lW (V Z) Z Z)) Z) (ai (az (lW (V Z) Z Z)) Z)) (ai (ai (au (.inl (V Z)) (.inl (V Z))) Z) (ai (ai (au (az (b0 O [500] (bin:=[bI (ry iD q.1 q.2).2]) Z Z Z Z (fz (s:=(ry iD q.1 q.2).2) (n:=2) h1 h2 hm1 (by omega) (by omega) (by omega)) Z Z Z Z Z (B0:=61000) Z Z Z Z Z Z)) (az (b0 O [500] (bin:=[bI (ry iD q.1 q.2).2]) Z Z Z Z (fz (s:=(ry iD q.1 q.2).2) (n:=2) h1 h2 hm1 (by omega) (by omega) (by omega)) Z Z Z Z Z (B0:=61000) Z Z Z Z Z Z))) Z) (ai (ai (au (.inl (V Z)) (.inl (V Z))) Z) (ai (ai (au (.inl (V Z)) (.inl (V Z))) Z) (ai (ai (ai (au (.inl (V Z)) (.inl (V Z))) Z) (ai (au (.inl (V Z)) (.inl (V Z))) Z)) (ai (ai (ai (au (.inl (V Z)) (.inl (V Z))) Z) (ai (au (.inl (V Z)) (.inl (V Z))) Z)) (ai (ai (ai (au (.inl (V Z)) (.inl (V Z))) Z) (ai (au (.inl (V Z)) (.inl (V Z))) Z)) (ai (ai (ai (au (.inr (gM O Z Z Z Z Z Z Z Z Z Z Z Z Z (by repeat' (first|exact .nil|refine .skip ?_|refine cw Z ?_|refine .cons Z (.box (FMs.keep Z)) ?_)))) (.inr (gM O Z Z Z Z Z Z Z Z Z Z Z Z Z (by repeat' (first|exact .nil|refine .skip ?_|refine cw Z ?_|refine .cons Z (.box (FMs.keep Z)) ?_))))) Z) (ai (au (.inr (gM O Z Z Z Z Z Z Z Z Z Z Z Z Z (by repeat' (first|exact .nil|refine .skip ?_|refine cw Z ?_|refine .cons Z (.box (FMs.keep Z)) ?_)))) (.inr (gM O Z Z Z Z Z Z Z Z Z Z Z Z Z (by repeat' (first|exact .nil|refine .skip ?_|refine cw Z ?_|refine .cons Z (.box (FMs.keep Z)) ?_))))) Z)) (ai (ai (ai (au (.inl (V Z)) (.inl (V Z))) Z) (ai (au (.inl (V Z)) (.inl (V Z))) Z)) (ai (ai (au trivial (az (kY O Z Z Z Z Z Z Z Z Z Z Z Z Z))) Z) (ai (ai (au trivial (.inl (V Z))) Z) (ai (ai (au trivial (az (eS Z Z Z))) Z) trivial))))))))))))) ?_
 refine jw [0,2,4,5,6,7,8] Z (bJ ?_)
 refine ac ?_
 obtain⟨m,hm⟩: ∃m,m=ry iD q.1 q.2:=⟨_,rfl⟩
 rw[←hm]at hm1 hm2 ⊢
 refine an (ah [2,4,7,33,500,68] (e':=[(0,_),(2,_),(4,_),(7,_),(8,_)]) Z Z ⟨Z,Z,Z,Z,Z,tv⟩ Z) (an (Ent.rowLe 68 Z (.cons (cr (cr (cr (cr (.cons (.nil (sz:=1)) (cr (.cons (.nil (sz:=1)) (.cons (.nil (sz:=2)) .nil)))))))) (.cons (cr (cr (cr (cr (.cons (.nil (sz:=1)) (cr (.cons (.nil (sz:=1)) (.cons (.nil (sz:=2)) .nil)))))))) (.cons (cr (cr (cr (cr (cr (cr (.cons (.nil (sz:=1)) (.cons .refl .nil)))))))) .nil)))) (an (Ent.to (e':=[(0,.c (.pt 500 0 0)),(2,.c (.pt 2 0 0)),(4,.c (.pt 4 0 0)),(7,.c (.pt 7 0 0)),(8,.c (.rs 33 0 3))]) (H':=[(2,.box [.d .nils,.d .nils,.d .nils]),(4,.box [.d (.int .i64 r),.d (cK [-1])]),(7,.box [.d (fd f.1),.rs 68 0 3,.d .nils]),(33,w3 [iY,m.1,iX 0 ⟨1,[1]⟩]),(500,bI (m.2.pick 2).2),(68,w3 [iY,iX 0 ⟨(m.2.pick 2).1,[]⟩,kH ⟨r-1,[-1]⟩ [iD,⟨r,[-1]⟩]])]) ⟨Z,Z,Z,Z,Z,tv⟩ Z) (jc Z (hp (ko (own:=false) (xs:=([iY,iX 0 ⟨(m.2.pick 2).1,[]⟩,kH ⟨r-1,[-1]⟩ [iD,⟨r,[-1]⟩]]:List Sm).map Sm.cells) (ys:=([iY,m.1,iX 0 ⟨1,[1]⟩]:List Sm).map Sm.cells) (zs:=([iY,iX 0 ⟨(m.2.pick 2).1,[]⟩,kH ⟨r-1,[-1]⟩ [iD,⟨r,[-1]⟩],iY,m.1,iX 0 ⟨1,[1]⟩]:List Sm).map Sm.cells) (n:=6) O Z (.row Z Z) (.whole Z Z (.inr ⟨Z,Z⟩)) (by simp) Z (by simp;omega) (by simp) Z Z) Z (am ?_)))))
 refine am ?_
 refine js Z (jo Z (am ?_))
 refine aN (jb Z (st (aS O Z Z (by omega) (by omega)) Z ?_))
 rw[show(0:Int)-r= -r from Int.zero_sub r]
 refine hp (aZ O Z Z Z Z Z Z Z Z Z Z Z) Z (am ?_)
 refine an (ah [2,7,73,500,78] (e':=[(78,_),(77,_),(0,_),(2,_),(7,_)]) Z Z ⟨Z,Z,Z,Z,Z,tv⟩ Z) (an (Ent.freeze 78 (e':=[(78,_),(77,_),(0,_),(2,_),(7,_)]) Z (.cons Z (.c (.row Z Z)) (fe [77,0,2,7] Z)) (cb Z (cb Z (cw Z (cb Z (.skip .nil)))))) ?_)
 refine am ?_
 refine am ?_
 refine js Z (hp (aZ O Z Z Z Z Z Z Z Z Z Z Z) Z (am ?_))
 refine am ?_
 refine js Z (jo Z (am ?_))
 refine jn (ae (ac (an (ah [2,7,73,80,500] (e':=[(0,_),(2,_),(7,_)]) Z Z ⟨Z,Z,Z,tv⟩ Z) (an (Ent.freeze 73 (e':=[(0,_),(2,_),(7,_)]) Z (fe [0,2,7] Z) (cb Z (.cons Z (.box (ck Z (.cons (.row Z Z) (fk Z)))) (.skip (cw Z (cb Z .nil)))))) ?_))))
 refine an (Ent.freeze 80 (e':=[(0,_),(2,_),(7,_)]) Z (fe [0,2,7] Z) (cb Z (.cons Z (.box (ck Z (ck Z (.cons (.row Z Z) .nil)))) (.skip (cb Z .nil))))) ?_
 refine an (Ent.to (e':=[(0,.c (.pt 500 0 0)),(2,.c (.pt 2 0 0)),(7,.c (.pt 7 0 0))]) (H':=[(2,.box [.d .nils,.d .nils,.d .nils]),(7,.box [.d (fd f.1),.d (kv [iY,iX 0 ⟨(m.2.pick 2).1,[]⟩,kH ⟨r-1,[-1]⟩ [iD,⟨r,[-1]⟩],iY,m.1,iX 0 ⟨1,[1]⟩]),.d (fd [⟨-r,[1]⟩])]),(500,bI (m.2.pick 2).2)]) ⟨Z,Z,Z,tv⟩ Z) ?_
 have hm3:=bQ (s:=m.2) (n:=2)
 have hm4:=bQ (s:=(m.2.pick 2).2) (n:=4)
 refine js Z (ao O [500] (bin:=[bI (m.2.pick 2).2]) Z Z Z Z (xc (s:=(m.2.pick 2).2) (n:=4) h1 h2 hm1.pick (by omega) (by omega) (by omega)) Z Z Z Z Z Z (B0:=84000) Z Z (am ?_))
 refine jn (zc Z (fun z83=>?_) (fun z83=>?_))
 refine ag (js Z (ao O [500] (bin:=[bI ((m.2.pick 2).2.pick 4).2]) Z Z Z Z (DC (s:=((m.2.pick 2).2.pick 4).2) h1 h2 hm1.pick.pick (by omega)) Z Z Z Z Z Z (B0:=86000) Z Z (am ?_)))
 refine js Z (jo Z (am ?_))
 refine aN (js Z (jo Z (am ?_)))
 refine jr ?_
 have ho:=bt z83
 have hR2:R=yf r f.1 m:=by rw[hR,hm,hq,hf,hr];rfl
 rw[show R=⟨⟨f.1,[iY,iX 0 ⟨(m.2.pick 2).1,[]⟩,kH ⟨r-1,[-1]⟩ [iD,⟨r,[-1]⟩],iY,m.1,iX 0 ⟨1,[1]⟩],(iZ ((m.2.pick 2).2.pick 4).2).1⟩,(iZ ((m.2.pick 2).2.pick 4).2).2⟩from hR2.trans (by unfold yf mI;rw[if_pos ho])]
 refine⟨.inl Z,_,bK,_,Z,Z,Z⟩
 refine af (ac (js Z (jo Z (am ?_))))
 refine jr ?_
 have ho:=b9 z83
 have hR2:R=yf r f.1 m:=by rw[hR,hm,hq,hf,hr];rfl
 rw[show R=⟨⟨f.1,[iY,iX 0 ⟨(m.2.pick 2).1,[]⟩,kH ⟨r-1,[-1]⟩ [iD,⟨r,[-1]⟩],iY,m.1,iX 0 ⟨1,[1]⟩],[⟨-r,[1]⟩]⟩,((m.2.pick 2).2.pick 4).2⟩from hR2.trans (by unfold yf mI;rw[if_neg ho])]
 refine⟨.inl Z,_,bK,_,Z,Z,Z⟩
theorem EO{s:Src}(h:s.Ok):(x8 s).2.at_≤s.at_+130:=by
 have h0:=bQ (s:=s) (n:=6)
 have hf:=tu (h.pick (n:=6))
 have hfo:=pE (h.pick (n:=6))
 have ht:=sV hfo
 have hm:=Ap (low:=iD) (tm:=(mC (iZ (s.pick 6).2).2).1) (s:=(mC (iZ (s.pick 6).2).2).2)
 have hmo:=(zJ (low:=iD) (mo hfo) (by decide) (ni hfo)).2.2
 unfold x8 D9
 generalize ry ⟨0,[1]⟩ (mC (iZ (s.pick 6).2).2).1 (mC (iZ (s.pick 6).2).2).2=m at hm hmo
 have h2:=bQ (s:=m.2) (n:=2)
 have h3:=bQ (s:=(m.2.pick 2).2) (n:=4)
 have h4:=tu ((hmo.pick (n:=2)).pick (n:=4))
 show(mI _ (m.2.pick 2).2).2.at_≤_
 unfold mI;split
 omega
 simp only;omega
theorem Ig(hx: ∀n∈xs,0≤n∧n≤255):MQ h1 h2 14 [.c (.d (bys xs))] [] (Plain (ky (Ca xs))):=by
 refine MC.data (jB 97 h1 h2 Tryz.func14 Z fun O hF=>?_)
 obtain⟨R,hR⟩: ∃R,R=Ca xs:=⟨_,rfl⟩
 rw[←hR]
 have hs:(⟨xs,0,0⟩:Src).Ok:=⟨hx⟩
 have ha:(⟨xs,0,0⟩:Src).at_=0:=rfl
 refine ac (jl Z (am ?_))
 refine aN (js Z (ao O [] (bin:=[]) Z Z Z Z (DE (xs:=xs) h1 h2) Z Z Z Z Z Z (B0:=12000) Z Z (am ?_)))
 refine js Z (aN (js Z (ao O [12000] (bin:=[bI ⟨xs,0,0⟩]) Z Z Z Z (Id (s:=⟨xs,0,0⟩) h1 h2 hs (by omega)) Z Z Z Z Z Z (B0:=14000) Z Z (am ?_))))
 have hd1:=(Ao hs).2
 have hd2:=EO hs
 obtain⟨d,hd⟩: ∃d,d=x8 ⟨xs,0,0⟩:=⟨_,rfl⟩
 rw[←hd]at hd1 hd2 ⊢
 refine jl Z (am ?_)
 refine jo Z (am ?_)
 refine aN (js Z (jn (ae (ac (js Z ?_)))))
 have hp1:=bQ (s:=d.2) (n:=4)
 have hp2:=bQ (s:=(d.2.pick 4).2) (n:=5)
 refine ao O [12000] (bin:=[bI d.2]) Z Z Z Z (xc (s:=d.2) (n:=4) h1 h2 hd1 (by omega) (by omega) (by omega)) Z Z Z Z Z Z (B0:=16000) Z Z (am ?_)
 refine jn ?_
 obtain⟨off,hoff⟩: ∃off:Int,off=if(d.2.pick 4).1=0 then 1 else 0:=⟨_,rfl⟩
 refine mS ⟨[(2,.c (.pt 2 0 0)),(3,.c (.pt 12000 0 0)),(4,.c (.pt 4 0 0)),(5,eI off)],[(2,.box [.d .nils,.d .nils,.d .nils]),(4,.box [.d (fd d.1.pre),.d (kv d.1.body),.d (fd d.1.post)]),(12000,bI (d.2.pick 4).2)]⟩ ?_ ?_
 refine zc Z (fun z15=>?_) (fun z15=>?_)
 refine ag (js Z (jn ?_))
 have ho:off=1:=hoff.trans (if_pos (bt z15))
 exact⟨Z,(ah [2,4,12000] (e':=[(2,_),(3,_),(4,_),(5,_)]) Z Z ⟨Z,Z,Z,Z,tv⟩ Z).trans (Ent.to ⟨Z,Z,Z,by rw[ho];rfl,tv⟩ Z)⟩
 refine af ?_
 have ho:off=0:=hoff.trans (if_neg (b9 z15))
 exact⟨Z,(ah [2,4,12000] (e':=[(2,_),(3,_),(4,_),(5,_)]) Z Z ⟨Z,Z,Z,Z,tv⟩ Z).trans (Ent.to ⟨Z,Z,Z,by rw[ho];rfl,tv⟩ Z)⟩
 refine ae (ac (js Z (ao O [12000] (bin:=[bI (d.2.pick 4).2]) Z Z Z Z (fz (s:=(d.2.pick 4).2) (n:=5) h1 h2 hd1.pick (by omega) (by omega) (by omega)) Z Z Z Z Z Z (B0:=18000) Z Z (am ?_))))
 refine jn (mS ⟨[(2,.c (.pt 2 0 0)),(4,.c (.pt 4 0 0))],[(2,.box [.d .nils,.d .nils,.d .nils]),(4,.box [.d (fd (pR off d.1 (d.2.pick 4).2).1.pre),.d (kv (pR off d.1 (d.2.pick 4).2).1.body),.d (fd (pR off d.1 (d.2.pick 4).2).1.post)])]⟩ ?_ ?_)
 refine ak (ac (jb Z (jn (zc Z (fun z18=>?_) (fun z18=>?_)))))
 refine ac (hp (aZ O Z Z Z Z Z Z Z Z Z Z Z) Z (am ?_))
 refine an (ah [2,4,12000,20] (e':=[(20,_),(2,_),(3,_),(4,_),(5,_)]) Z Z ⟨Z,Z,Z,Z,Z,tv⟩ Z) (an (Ent.freeze 20 (e':=[(20,_),(2,_),(3,_),(4,_),(5,_)]) Z (.cons Z (.c (.row Z Z)) (fe [2,3,4,5] Z)) (cb Z (cb Z (cb Z (.skip .nil))))) ?_)
 refine am ?_
 refine am ?_
 refine js Z (jo Z (am ?_))
 refine aN (js Z (aj O Z Z Z Z (iK (c:=0) (k:=1) (n:=2) h1 h2 (by decide)) (ab Z) Z Z Z Z (B0:=24000) Z Z (js Z (aj O Z Z Z Z (iK (c:= -1) (k:=2) (n:=1) h1 h2 (by decide)) (ab Z) Z Z Z Z (B0:=26000) Z Z (jb Z ?_)))))
 have hof:0≤off∧off≤1:=by rw[hoff];split<;>decide
 refine st (aS O Z Z (by omega) (by omega)) Z (aj O Z Z Z Z (iK (c:= -1-off) (k:=1) (n:=1) h1 h2 (by decide)) (ab Z) Z Z Z Z (B0:=30000) Z Z (js Z (aj O Z Z Z Z (iK (c:=0) (k:=1) (n:= -1) h1 h2 (by decide)) (ab Z) Z Z Z Z (B0:=32000) Z Z (js Z (hp (aZ O Z Z Z Z Z Z Z Z Z Z Z) Z (am ?_))))))
 refine an (Ent.rowLe 33 Z (.cons (cr (cr (cr (cr (.cons (.nil (sz:=1)) (cr (.cons (.nil (sz:=1)) (.cons (.nil (sz:=2)) .nil)))))))) (.cons (cr (cr (cr (cr (cr (cr (.cons (.nil (sz:=1)) (.cons (.nil (sz:=2)) .nil)))))))) (.cons (cr (cr (cr (cr (cr (cr (.cons (.nil (sz:=1)) (.cons (.nil (sz:=2)) .nil)))))))) (.cons (cr (cr (cr (cr (cr (cr (.cons (.nil (sz:=1)) (.cons (.nil (sz:=2)) .nil)))))))) (.cons (cr (cr (cr (cr (cr (cr (.cons (.nil (sz:=1)) (.cons (.nil (sz:=2)) .nil)))))))) .nil)))))) (an (ah [2,4,12000,33] (e':=[(33,_),(2,_),(3,_),(4,_),(5,_)]) Z Z ⟨Z,Z,Z,Z,Z,tv⟩ Z) (an (Ent.freeze 33 (e':=[(33,_),(2,_),(3,_),(4,_),(5,_)]) Z (.cons Z (.c (.row Z Z)) (fe [2,3,4,5] Z)) (cb Z (cb Z (cb Z (.skip .nil))))) ?_))
 refine am ?_
 refine am ?_
 refine js Z (jo Z (am ?_))
 refine jn (ag (hp (aZ O Z Z Z Z Z Z Z Z Z Z Z) Z (am ?_)))
 refine an (ah [2,4,12000,35] (e':=[(35,_),(2,_),(3,_),(4,_),(5,_)]) Z Z ⟨Z,Z,Z,Z,Z,tv⟩ Z) (an (Ent.freeze 35 (e':=[(35,_),(2,_),(3,_),(4,_),(5,_)]) Z (.cons Z (.c (.row Z Z)) (fe [2,3,4,5] Z)) (cb Z (cb Z (cb Z (.skip .nil))))) ?_)
 refine am ?_
 refine am ?_
 refine js Z (jo Z (am ?_))
 refine jn ?_
 rw[show pR off d.1 (d.2.pick 4).2=_ from if_pos (bt z18)]
 exact⟨Z,(ah [2,4] (e':=[(2,_),(4,_)]) Z Z ⟨Z,Z,tv⟩ Z).trans (Ent.to ⟨Z,Z,tv⟩ Z)⟩
 refine ac (jb Z (jn (zc Z (fun z37=>?_) (fun z37=>?_))))
 refine ac (js Z (ao O [12000] (bin:=[bI ((d.2.pick 4).2.pick 5).2]) Z Z Z Z (fz (s:=((d.2.pick 4).2.pick 5).2) (n:=9) h1 h2 hd1.pick.pick (by omega) (by omega) (by omega)) Z Z Z Z Z Z (B0:=41000) Z Z (am ?_)))
 have hp3:=cy ((hd1.pick (n:=4)).pick (n:=5)) (n:=9) (by omega)
 refine st (aS O Z Z (by omega) (by omega)) Z (js Z (aN ?_))
 obtain⟨z,hz⟩: ∃z,z=((((d.2.pick 4).2.pick 5).2.pick 9).1-4):=⟨_,rfl⟩
 rw[←hz]
 refine hp (aZ O Z Z Z Z Z Z Z Z Z Z Z) Z (am ?_)
 refine an (ah [2,4,12000,42] (e':=[(42,_),(2,_),(3,_),(4,_),(5,_),(6,_)]) Z Z ⟨Z,Z,Z,Z,Z,Z,tv⟩ Z) (an (Ent.freeze 42 (e':=[(42,_),(2,_),(3,_),(4,_),(5,_),(6,_)]) Z (.cons Z (.c (.row Z Z)) (fe [2,3,4,5,6] Z)) (cb Z (cb Z (cb Z (.skip .nil))))) ?_)
 refine am ?_
 refine am ?_
 refine js Z (jo Z (am ?_))
 refine aN (js Z (st (aS O Z Z (by omega) (by omega)) Z ?_))
 rw[show(0:Int)-z= -z from Int.zero_sub _]
 refine aj O Z Z Z Z (iK (c:= -z) (k:=1) (n:=1) h1 h2 (by decide)) (ab Z) Z Z Z Z (B0:=47000) Z Z (jb Z (st (aS O Z Z (by omega) (by omega)) Z ?_))
 rw[show(0:Int)-z= -z from Int.zero_sub _]
 refine aj O Z Z Z Z (iK (c:= -z) (k:=1) (n:=1) h1 h2 (by decide)) (ab Z) Z Z Z Z (B0:=51000) Z Z (jc Z ?_)
 have hof:0≤off∧off≤1:=by rw[hoff];split<;>decide
 refine st (aS O Z Z (by omega) (by omega)) Z (aj O Z Z Z Z (iK (c:=z-off) (k:=1) (n:= -1) h1 h2 (by decide)) (ab Z) Z Z Z Z (B0:=56000) Z Z (js Z (hp (aZ O Z Z Z Z Z Z Z Z Z Z Z) Z (am ?_))))
 refine an (Ent.rowLe 57 Z (.cons (cr (cr (cr (cr (cr (cr (.cons (.nil (sz:=1)) (.cons (.nil (sz:=2)) .nil)))))))) (.cons (cr (cr (cr (cr (cr (cr (.cons (.nil (sz:=1)) (.cons (.nil (sz:=2)) .nil)))))))) (.cons (cr (cr (cr (cr (cr (cr (.cons (.nil (sz:=1)) (.cons (.nil (sz:=2)) .nil)))))))) .nil)))) (an (ah [2,4,12000,57] (e':=[(57,_),(2,_),(3,_),(4,_),(5,_)]) Z Z ⟨Z,Z,Z,Z,Z,tv⟩ Z) (an (Ent.freeze 57 (e':=[(57,_),(2,_),(3,_),(4,_),(5,_)]) Z (.cons Z (.c (.row Z Z)) (fe [2,3,4,5] Z)) (cb Z (cb Z (cb Z (.skip .nil))))) ?_))
 refine am ?_
 refine am ?_
 refine js Z (jo Z (am ?_))
 refine jn (ag (aj O Z Z Z Z (iK (c:=0) (k:=0) (n:=1) h1 h2 (by decide)) (ab Z) Z Z Z Z (B0:=60000) Z Z (hp (aZ O Z Z Z Z Z Z Z Z Z Z Z) Z (am ?_))))
 refine an (ah [2,4,12000,60] (e':=[(60,_),(2,_),(3,_),(4,_),(5,_)]) Z Z ⟨Z,Z,Z,Z,Z,tv⟩ Z) (an (Ent.freeze 60 (e':=[(60,_),(2,_),(3,_),(4,_),(5,_)]) Z (.cons Z (.c (.row Z Z)) (fe [2,3,4,5] Z)) (cb Z (cb Z (cb Z (.skip .nil))))) ?_)
 refine am ?_
 refine am ?_
 refine js Z (jo Z (am ?_))
 refine jn ?_
 subst hz
 rw[show pR off d.1 (d.2.pick 4).2=_ from(if_neg (b9 z18)).trans (if_pos (bt z37))]
 exact⟨Z,(ah [2,4] (e':=[(2,_),(4,_)]) Z Z ⟨Z,Z,tv⟩ Z).trans (Ent.to ⟨Z,Z,tv⟩ Z)⟩
 refine ac (jb Z (jn (zc Z (fun z62=>?_) (fun z62=>?_))))
 refine ac (js Z (ao O [12000] (bin:=[bI ((d.2.pick 4).2.pick 5).2]) Z Z Z Z (fz (s:=((d.2.pick 4).2.pick 5).2) (n:=4) h1 h2 hd1.pick.pick (by omega) (by omega) (by omega)) Z Z Z Z Z Z (B0:=66000) Z Z (am ?_)))
 have hp4:=bQ (s:=((d.2.pick 4).2.pick 5).2) (n:=4)
 refine js Z (aN (aj O Z Z Z Z (iK (c:=0) (k:=1) (n:=1) h1 h2 (by decide)) (ab Z) Z Z Z Z (B0:=67000) Z Z (js Z ?_)))
 have hof:0≤off∧off≤1:=by rw[hoff];split<;>decide
 refine st (aS O Z Z (by omega) (by omega)) Z (aj O Z Z Z Z (iK (c:=7+off) (k:=1) (n:= -1) h1 h2 (by decide)) (ab Z) Z Z Z Z (B0:=70000) Z Z (hp (aZ O Z Z Z Z Z Z Z Z Z Z Z) Z (am ?_)))
 refine an (ah [2,4,12000,70] (e':=[(70,_),(2,_),(3,_),(4,_),(5,_),(7,_)]) Z Z ⟨Z,Z,Z,Z,Z,Z,tv⟩ Z) (an (Ent.freeze 70 (e':=[(70,_),(2,_),(3,_),(4,_),(5,_),(7,_)]) Z (.cons Z (.c (.row Z Z)) (fe [2,3,4,5,7] Z)) (cb Z (cb Z (cb Z (.skip .nil))))) ?_)
 refine am ?_
 refine am ?_
 refine js Z (jo Z (am ?_))
 refine aN (js Z (aj O Z Z Z Z (iK (c:=0) (k:=1) (n:=1) h1 h2 (by decide)) (ab Z) Z Z Z Z (B0:=74000) Z Z (jb Z (aj O Z Z Z Z (iK (c:=0) (k:=1) (n:=1) h1 h2 (by decide)) (ab Z) Z Z Z Z (B0:=77000) Z Z (aj O Z Z Z Z (iK (c:=1) (k:=2) (n:=1) h1 h2 (by decide)) (ab Z) Z Z Z Z (B0:=78000) Z Z (jd Z (js Z (ao O [12000] (bin:=[bI (((d.2.pick 4).2.pick 5).2.pick 4).2]) Z Z Z Z (fz (s:=(((d.2.pick 4).2.pick 5).2.pick 4).2) (n:=3) h1 h2 hd1.pick.pick.pick (by omega) (by omega) (by omega)) Z Z Z Z Z Z (B0:=84000) Z Z (am ?_)))))))))
 refine aj O Z Z Z Z (iK (c:=((((d.2.pick 4).2.pick 5).2.pick 4).2.pick 3).1) (k:=2) (n:=1) h1 h2 (by decide)) (ab Z) Z Z Z Z (B0:=85000) Z Z (js Z (hp (aZ O Z Z Z Z Z Z Z Z Z Z Z) Z (am ?_)))
 refine an (Ent.rowLe 86 Z (.cons (cr (cr (cr (cr (.cons (.nil (sz:=1)) (cr (.cons (.nil (sz:=1)) (.cons (.nil (sz:=2)) .nil)))))))) (.cons (cr (cr (cr (cr (.cons (.nil (sz:=1)) (cr (cr (.cons (.nil (sz:=2)) .nil)))))))) (.cons (cr (cr (cr (cr (.cons (.nil (sz:=1)) (cr (.cons (.nil (sz:=1)) (.cons (.nil (sz:=2)) .nil)))))))) (.cons (cr (cr (cr (cr (cr (cr (cr (.cons (.nil (sz:=2)) .nil)))))))) (.cons (cr (cr (cr (cr (.cons (.nil (sz:=1)) (cr (.cons (.nil (sz:=1)) (.cons (.nil (sz:=2)) .nil)))))))) (.cons (cr (cr (cr (cr (.cons (.nil (sz:=1)) (cr (.cons (.nil (sz:=1)) (.cons (.nil (sz:=2)) .nil)))))))) (.cons (cr (cr (cr (cr (cr (cr (.cons (.nil (sz:=1)) (.cons (.nil (sz:=2)) .nil)))))))) .nil)))))))) (an (ah [2,4,12000,86] (e':=[(86,_),(2,_),(3,_),(4,_)]) Z Z ⟨Z,Z,Z,Z,tv⟩ Z) (an (Ent.freeze 86 (e':=[(86,_),(2,_),(3,_),(4,_)]) Z (.cons Z (.c (.row Z Z)) (fe [2,3,4] Z)) (cb Z (cb Z (cb Z (.skip .nil))))) ?_))
 refine am ?_
 refine am ?_
 refine js Z (jo Z (am ?_))
 refine aN (hp (aZ O Z Z Z Z Z Z Z Z Z Z Z) Z (am ?_))
 refine an (ah [2,4,12000,89] (e':=[(89,_),(2,_),(3,_),(4,_)]) Z Z ⟨Z,Z,Z,Z,tv⟩ Z) (an (Ent.freeze 89 (e':=[(89,_),(2,_),(3,_),(4,_)]) Z (.cons Z (.c (.row Z Z)) (fe [2,3,4] Z)) (cb Z (cb Z (cb Z (.skip .nil))))) ?_)
 refine am ?_
 refine am ?_
 refine aj O Z Z Z Z (pO (c:=0) (xs:=[0,0,-1,1]) h1 h2) (ab Z) Z Z Z Z (B0:=91000) Z Z (jc Z (jl Z (am ?_)))
 refine jo Z (am ?_)
 refine js Z (jn (ag (js Z (hp (aZ O Z Z Z Z Z Z Z Z Z Z Z) Z (am ?_)))))
 refine an (ah [2,4,8,12000,94] (e':=[(94,_),(2,_),(4,_)]) Z Z ⟨Z,Z,Z,tv⟩ Z) (an (Ent.freeze 94 (e':=[(94,_),(2,_),(4,_)]) Z (.cons Z (.c (.row Z Z)) (fe [2,4] Z)) (cb Z (cb Z (cb Z (cb Z (.skip .nil)))))) ?_)
 refine am ?_
 refine am ?_
 refine js Z (jo Z (am ?_))
 refine jn ?_
 rw[show pR off d.1 (d.2.pick 4).2=_ from(if_neg (b9 z18)).trans ((if_neg (b9 z37)).trans (if_pos (bt z62)))]
 exact⟨Z,(ah [2,4] (e':=[(2,_),(4,_)]) Z Z ⟨Z,Z,tv⟩ Z).trans (Ent.to ⟨Z,Z,tv⟩ Z)⟩
 refine af ?_
 rw[show pR off d.1 (d.2.pick 4).2=_ from(if_neg (b9 z18)).trans ((if_neg (b9 z37)).trans (if_neg (b9 z62)))]
 exact⟨Z,(ah [2,4] (e':=[(2,_),(4,_)]) Z Z ⟨Z,Z,tv⟩ Z).trans (Ent.to ⟨Z,Z,tv⟩ Z)⟩
 refine ac (js Z (jo Z (am ?_)))
 refine jr ?_
 refine eR Z ?_
 rw[show R=(pR off d.1 (d.2.pick 4).2).1 by rw[hR,hoff,hd];rfl]
 exact .v (.agg (ax Z))
variable{ys:List Int}
theorem xd:MQ h1 h2 5 [.c (.d (bys xs)),.c (.d (bys ys))] [] (Plain (eB (bif decide ((1048576:Int)<xs.length)then true else decide ((1048576:Int)<ys.length)))):=by
 refine aB ?_ Z
 refine jB 13 h1 h2 Tryz.func5 Z fun O hF=>?_
 refine ac (js Z (aN (js Z ?_)))
 first|refine cW Z ?_|refine js Z ?_|refine db Z Z ?_
 refine jb Z (ar 3 Z Z Z (fun hx=>nz hx Z (ny hx (bP O Z Z Z Z Z Z Z Z) Z (nz hx Z (AN.nil)))) Z Z ?_)
 first|refine st (ay O Z Z Z Z Z) Z ?_|refine st (Val.pickB O Z Z Z Z Z) Z ?_|refine st (aq O Z Z Z Z Z) Z ?_
 refine js Z (jr ?_)
 refine eR Z ?_
 rfl
def cv(ts:List Tm)(vars:List Int):Bool:=ts.all fun t=>decide (0≤aH t vars)
theorem xF{ts:List Tm}{vars:List Int}{i:Nat}(h:i<ts.length)(hn:aH (ts.getD i default) vars<0):cv ts vars=false:=by
 unfold cv
 rw[List.all_eq_false]
 refine⟨ts[i],List.getElem_mem h,?_⟩
 rw[aw h]at hn
 rw[decide_eq_false (by omega)];exact Bool.false_ne_true
theorem uI{ts:List Tm}{vars:List Int}(h: ∀j,j<ts.length→0≤aH (ts.getD j default) vars):cv ts vars=true:=by
 unfold cv
 rw[List.all_eq_true]
 intro t ht
 obtain⟨j,hj,rfl⟩:=List.mem_iff_getElem.1 ht
 have:=h j hj
 rw[aw hj]at this
 exact decide_eq_true this
theorem uk{ts:List Tm}(h: ∀t∈ts,t.term=true){i:Nat}(hi:i<ts.length):(ts.getD i default).term=true:=by
 rw[aw hi];exact h _ (List.getElem_mem hi)
variable{ts:List Tm}{vars:List Int}
theorem Ie{cells:List Int}(ht: ∀t∈ts,t.term=true)(hv:cP vars 4=true):MQ h1 h2 24 [bM ts,ptr [cK vars,cK cells]] [] (Plain (eB (cv ts vars))):=by
 refine aB ?_ Z
 refine jB 18 h1 h2 Tryz.func24 Z fun O hF=>?_
 have hl:ts.length≤L:=by have:=hF;simp[As.fact,A.fact,M.fact,D.fact,Ds.fact]at this;omega
 refine ac (js Z (jn (ae (ac (js Z (jn (ak (ap (X:=Nat) (fun i=>⟨[(0,bM ts),(1,ptr [cK vars,cK cells]),(5,eI i)],[]⟩) (fun i=>i≤ts.length∧∀j,j<i→0≤aH (ts.getD j default) vars) (fun i=>ts.length-i) 0 (Ent.to ⟨Z,Z,Z,tv⟩ Z) ?_ (fun i hi=>?_)))))))))
 exact⟨cG _,fun j hj=>absurd hj (Nat.not_lt_zero j)⟩
 refine ae (ac (jb Z ?_))
 first|refine cW Z ?_|refine js Z ?_|refine db Z Z ?_
 refine js Z (jn (zc Z (fun z9=>?_) (fun z9=>?_)))
 try simp only[bo]at z9
 refine af (ae (ak (ac (jb Z ?_))))
 first|refine jh Z Z ?_|refine nC Z Z ?_|refine db Z Z ?_
 refine js Z (lo Z (J7 (t:=ts.getD i default) (vars:=vars) (cells:=cells) h1 h2 (uk ht (by omega)) hv) 17000 Z (js Z (jn (zc Z (fun z17=>?_) (fun z17=>?_)))))
 try simp only[bo]at z17
 refine ac (js Z (jr ?_))
 refine eR Z ?_
 rw[xF (i:=i) (by omega) (by simpa using z17)]
 try simp only[bo]at z17
 refine af (ag (js Z ?_))
 first|refine ji Z ?_|refine db Z Z ?_
 refine js Z (jn ?_)
 refine⟨i+1,Ent.to ⟨Z,Z,Z,tv⟩ Z,⟨by omega,fun j hj=>?_⟩,by omega⟩
 rcases Nat.lt_or_ge j i with h|h
 exact hi.2 j h
 obtain rfl:j=i:=by omega
 have:=z17;simp at this;exact this
 try simp only[bo]at z9
 refine aR (ac (js Z (jr ?_)))
 refine eR Z ?_
 obtain rfl:i=ts.length:=by omega
 rw[uI hi.2]
def pf:Nat→Src→List Int→List Int×Src
  | 0,s,xs=>(xs,s)
  | k+1,s,xs=>pf k (s.pick 9).2 (xs++[(s.pick 9).1-2])
theorem vX: ∀{k:Nat} {s:Src} {xs:List Int},(pf k s xs).2.at_≤s.at_+2*k
 | 0,s,xs=>cQ _
 | k+1,s,xs=>by
  have h1:=vX (k:=k) (s:=(s.pick 9).2) (xs:=xs++[(s.pick 9).1-2])
  have h2:=bQ (s:=s) (n:=9)
  rw[pf];omega
theorem vV: ∀{k:Nat} {s:Src} {xs:List Int},s.Ok→(pf k s xs).2.Ok
 | 0,s,xs,h=>h
 | k+1,s,xs,h=>by rw[pf];exact vV h.pick
theorem tq: ∀{k:Nat} {s:Src} {xs:List Int},(pf k s xs).1.length=xs.length+k
 | 0,s,xs=>rfl
 | k+1,s,xs=>by rw[pf,tq,cp,du];omega
theorem vW: ∀{k:Nat} {s:Src} {xs:List Int},s.Ok→(∀n∈xs,-2≤n∧n≤6)→∀n∈(pf k s xs).1,-2≤n∧n≤6
 | 0,s,xs,h,hx=>hx
 | k+1,s,xs,h,hx=>by
  have h0:=cy h (n:=9) (by omega)
  rw[pf]
  refine vW h.pick (fun n hn=>?_)
  rcases List.mem_append.1 hn with h1|h1
  exact hx n h1
  rw[List.mem_singleton.1 h1];omega
abbrev oZ(xs:List Int):B:=.row false 1 (xs.map fun n=>[D.int .i64 n])
def BV(vs cs:List Int)(s:Src):Sx×Src:=if(s.pick 8).1=0 then(⟨vs.set 0 ([1000000000,-1000000000].getD (((s.pick 8).2.pick 2).1.toNat) default),cs⟩,((s.pick 8).2.pick 2).2)else(⟨vs,cs⟩,(s.pick 8).2)
def BW(vs:List Int)(c:List Int×Src):Sx×Src:=BV vs c.1 c.2
def ye(v:List Int×Src):Sx×Src:=BW v.1 (pf 8 v.2 [])
def pJ(s:Src):Sx×Src:=ye (pf 4 s [])
theorem If{s:Src}(hs:s.Ok)(ha:s.at_≤999999800):MQ h1 h2 23 [.c (.pt 0 0 0)] [(0,bI s)] (aO (.agg [.rs 1 0 (pJ s).1.vars.length,.rs 2 0 (pJ s).1.cells.length]) [(0,bI (pJ s).2),(1,oZ (pJ s).1.vars),(2,oZ (pJ s).1.cells)]):=by
 refine MC.shift 500 Z (MC.keep [500,501,502] (bs:=[bI (pJ s).2,oZ (pJ s).1.vars,oZ (pJ s).1.cells]) Z Z (jH 42 [500] h1 h2 Tryz.func23 Z fun O hF=>?_))
 refine bJ ?_
 obtain⟨R,hR⟩: ∃R,R=pJ s:=⟨_,rfl⟩
 rw[←hR]
 refine ac (jl Z (am ?_))
 refine aN (hp (aZ O Z Z Z Z Z Z Z Z Z Z Z) Z (am ?_))
 refine am ?_
 refine hp (aZ O Z Z Z Z Z Z Z Z Z Z Z) Z (am ?_)
 refine am ?_
 refine js Z (jl Z (am ?_))
 refine jo Z (am ?_)
 refine jn (ae (ac (js Z (jn (ak (ap (X:=Nat×Src×List Int) (fun x=>⟨[(0,.c (.pt 500 0 0)),(2,.c (.pt 2 0 0)),(3,.c (.pt 3 0 0)),(4,eI (x.1:Nat))],[(2,.box [.d .nils,.d .nils]),(3,.box [.rs 900 0 x.2.2.length,.rs 7 0 0]),(7,oZ []),(500,bI x.2.1),(900,oZ x.2.2)]⟩) (fun x=>x.2.1.Ok∧pf 4 s []=pf (4-x.1) x.2.1 x.2.2∧x.2.2.length=x.1∧x.1≤4∧x.2.1.at_≤s.at_+2*x.1) (fun x=>4-x.1) (0,s,[]) ((aa 6 900 Z Z).trans ((ah [2,3,7,500,900] (e':=[(0,_),(2,_),(3,_),(4,_)]) Z Z ⟨Z,Z,Z,Z,tv⟩ Z).trans (Ent.to ⟨Z,Z,Z,Z,tv⟩ Z))) ?_ (fun x hi=>?_)))))))
 exact⟨hs,Z,Z,cG _,cQ _⟩
 refine ae (ac (jb Z (jn (zc Z (fun z10=>?_) (fun z10=>?_)))))
 refine af (ae (ak ?_))
 have hk:=bt z10
 have hp:=cy hi.1 (n:=9) (by omega)
 have hat:=bQ (s:=x.2.1) (n:=9)
 refine kx [_,_,_,_,_,_,_,_,_] [pn [] 0 2,pn [0] 0 2,p0,pe [2] 0,pn [2,3] 1 1,pe [2,3,4] 1,pe (rg 0 6) 2,pn (rg 0 7) 3 3,pe (rg 0 8) 3] [3,5,6,8] [_,_,_,_,_] [[],[],[900],[]] (ai (ka Z Z (ka Z Z (kw Z Z))) (ai (ka Z Z (ka Z Z (kw Z Z))) (ka Z Z (ai (ai (az (b0 O [500] (bin:=[bI x.2.1]) Z Z Z Z (fz (s:=x.2.1) (n:=9) h1 h2 hi.1 (by omega) (by omega) (by omega)) Z Z Z Z Z (B0:=17000) Z Z Z Z Z Z)) Z) (ai (ai (aS O Z Z (by omega) (by omega)) Z) (ai (ai (az (kY O Z Z Z Z Z Z Z Z Z Z Z Z Z)) Z) (ai (ai (bW (own:=false) (xs:=x.2.2.map (fun n:Int=>[D.int .i64 n])) (ys:=[[.int .i64 ((x.2.1.pick 9).1-2)]]) (zs:=(x.2.2++[(x.2.1.pick 9).1-2]).map (fun n:Int=>[D.int .i64 n])) (n:=(x.2.2++[(x.2.1.pick 9).1-2]).length) O Z Z Z Z Z Z Z Z Z Z Z Z Z Z Z Z (.row Z (bA _).symm) (.whole Z Z (.inr ⟨Z,Z⟩)) (by simp) Z (by simp;omega) (by simp;omega) (by simp) (by simp) Z) Z) (ka Z Z (ai (ai (az (eS Z Z Z)) Z) trivial))))))))) ?_
 refine jw [10,9,0,2,3,4] Z (bJ ?_)
 refine ag (js Z ?_)
 first|refine ji Z ?_|refine db Z Z ?_
 refine js Z (jn ?_)
 refine⟨(x.1+1,(x.2.1.pick 9).2,x.2.2++[(x.2.1.pick 9).1-2]),((aa 19 900 Z Z).trans (ah [2,3,7,500,900] (e':=[(0,_),(2,_),(3,_),(4,_)]) Z Z ⟨Z,Z,Z,Z,tv⟩ Z)).trans (Ent.to ⟨Z,Z,Z,?_,tv⟩ Z),⟨hi.1.pick,?_,by simp only[cp,du];omega,by simp only;omega,by simp only;omega⟩,by simp only;omega⟩
 exact congrArg (fun z=>some (eI z)) (by simp only;omega)
 rw[hi.2.1,show 4-x.1=(4-(x.1+1))+1 by omega,pf]
 refine aR (ae (ac (js Z (jn (ak ?_)))))
 have hk:=b9 z10
 obtain⟨k1,s1,xs1⟩:=x
 simp only at hi hk
 obtain rfl:k1=4:=by omega
 obtain⟨ho1,ho2,ho3,ho4,ho5⟩:=hi
 rw[show pJ s=ye (xs1,s1)from congrArg ye ho2]at hR
 refine ap (X:=Nat×Src×List Int) (fun y=>⟨[(0,.c (.pt 500 0 0)),(2,.c (.pt 2 0 0)),(3,.c (.pt 3 0 0)),(5,eI (y.1:Nat))],[(2,.box [.d .nils,.d .nils]),(3,.box [.rs 900 0 xs1.length,.rs 901 0 y.2.2.length]),(500,bI y.2.1),(900,oZ xs1),(901,oZ y.2.2)]⟩) (fun y=>y.2.1.Ok∧pf 8 s1 []=pf (8-y.1) y.2.1 y.2.2∧y.2.2.length=y.1∧y.1≤8∧y.2.1.at_≤s1.at_+2*y.1) (fun y=>8-y.1) (0,s1,[]) ((aa 7 901 Z Z).trans ((ah [2,3,500,900,901] (e':=[(0,_),(2,_),(3,_),(5,_)]) Z Z ⟨Z,Z,Z,Z,tv⟩ Z).trans (Ent.to ⟨Z,Z,Z,Z,tv⟩ Z))) ?_ (fun y hi=>?_)
 exact⟨ho1,Z,Z,cG _,cQ _⟩
 refine ae (ac (jb Z (jn (zc Z (fun z22=>?_) (fun z22=>?_)))))
 refine af (ae (ak ?_))
 have hk:=bt z22
 have hp:=cy hi.1 (n:=9) (by omega)
 have hat:=bQ (s:=y.2.1) (n:=9)
 refine kx [_,_,_,_,_,_,_,_,_] [pn [] 0 2,pn [0] 0 2,p0,pe [2] 0,pn [2,3] 1 1,pe [2,3,4] 1,pe (rg 0 6) 2,pn (rg 0 7) 3 3,pe (rg 0 8) 3] [3,5,6,8] [_,_,_,_,_] [[],[],[901],[]] (ai (ka Z Z (ka Z Z (kw Z Z))) (ai (ka Z Z (ka Z Z (kw Z Z))) (ka Z Z (ai (ai (az (b0 O [500] (bin:=[bI y.2.1]) Z Z Z Z (fz (s:=y.2.1) (n:=9) h1 h2 hi.1 (by omega) (by omega) (by omega)) Z Z Z Z Z (B0:=29000) Z Z Z Z Z Z)) Z) (ai (ai (aS O Z Z (by omega) (by omega)) Z) (ai (ai (az (kY O Z Z Z Z Z Z Z Z Z Z Z Z Z)) Z) (ai (ai (bW (own:=false) (xs:=y.2.2.map (fun n:Int=>[D.int .i64 n])) (ys:=[[.int .i64 ((y.2.1.pick 9).1-2)]]) (zs:=(y.2.2++[(y.2.1.pick 9).1-2]).map (fun n:Int=>[D.int .i64 n])) (n:=(y.2.2++[(y.2.1.pick 9).1-2]).length) O Z Z Z Z Z Z Z Z Z Z Z Z Z Z Z Z (.row Z (bA _).symm) (.whole Z Z (.inr ⟨Z,Z⟩)) (by simp) Z (by simp;omega) (by simp;omega) (by simp) (by simp) Z) Z) (ka Z Z (ai (ai (az (eS Z Z Z)) Z) trivial))))))))) ?_
 refine jw [22,21,0,2,3,5] Z (bJ ?_)
 refine ag (js Z ?_)
 first|refine ji Z ?_|refine db Z Z ?_
 refine js Z (jn ?_)
 refine⟨(y.1+1,(y.2.1.pick 9).2,y.2.2++[(y.2.1.pick 9).1-2]),((aa 31 901 Z Z).trans (ah [2,3,500,900,901] (e':=[(0,_),(2,_),(3,_),(5,_)]) Z Z ⟨Z,Z,Z,Z,tv⟩ Z)).trans (Ent.to ⟨Z,Z,Z,?_,tv⟩ Z),⟨hi.1.pick,?_,by simp only[cp,du];omega,by simp only;omega,by simp only;omega⟩,by simp only;omega⟩
 exact congrArg (fun z=>some (eI z)) (by simp only;omega)
 rw[hi.2.1,show 8-y.1=(8-(y.1+1))+1 by omega,pf]
 refine aR (ae (ac ?_))
 have hk:=b9 z22
 obtain⟨k2,s2,ys2⟩:=y
 simp only at hi hk
 obtain rfl:k2=8:=by omega
 obtain⟨hq1,hq2,hq3,hq4,hq5⟩:=hi
 rw[show ye (xs1,s1)=BV xs1 ys2 s2 from congrArg (BW xs1) hq2]at hR
 have hat2:=bQ (s:=s2) (n:=8)
 refine js Z (ao O [500] (bin:=[bI s2]) Z Z Z Z (xc (s:=s2) (n:=8) h1 h2 hq1 (by omega) (by omega) (by omega)) Z Z Z Z Z Z (B0:=35000) Z Z (am ?_))
 refine jn (zc Z (fun z34=>?_) (fun z34=>?_))
 refine sv O _ [_,_,_,_,_,_,_] [pn [] 0 1,pn [0] 0 1,p0,p0,pe [2,3] 0,pn (rg 0 5) 1 1,pe (rg 0 6) 1] [4,6] 0 [_,_,_] [] Z Z (by decide) (by decide) (by decide) Z (by kernel_rfl) (ai (ai (ai (az (lW (V Z) Z Z)) Z) (ai (az (lW (V Z) Z Z)) Z)) (ai (ai (ai (au trivial (.inl (V Z))) Z) (ai (au trivial (.inl (V Z))) Z)) (ai (ai (au (.inl (V Z)) (.inl (V Z))) Z) (ai (ai (au (.inr (gM O Z Z Z Z Z Z Z Z Z Z Z Z Z (by repeat' (first|exact .nil|refine .skip ?_|refine cw Z ?_|refine .cons Z (.box (FMs.keep Z)) ?_)))) (.inr (gM O Z Z Z Z Z Z Z Z Z Z Z Z Z (by repeat' (first|exact .nil|refine .skip ?_|refine cw Z ?_|refine .cons Z (.box (FMs.keep Z)) ?_))))) Z) (ai (ai (au (az (b0 O [500] (bin:=[bI (s2.pick 8).2]) Z Z Z Z (zM (s:=(s2.pick 8).2) (xs:=[1000000000,-1000000000]) h1 h2 hq1.pick (by omega) (by decide) (by decide)) Z Z Z Z Z (B0:=40000) Z Z Z Z Z Z)) (az (b0 O [500] (bin:=[bI (s2.pick 8).2]) Z Z Z Z (zM (s:=(s2.pick 8).2) (xs:=[1000000000,-1000000000]) h1 h2 hq1.pick (by omega) (by decide) (by decide)) Z Z Z Z Z (B0:=40000) Z Z Z Z Z Z))) Z) (ai (ai (au trivial (.inl (dV (c:=(0:Int)≤0∧(0:Int)<((xs1.length:Nat):Int)) (v:=.c (.pt 900 0 0)) O Z Z (by omega)))) Z) (ai (ai (au trivial (az (cE (ex:=[.int .i64 (xs1.getD 0 default)]) (xs':=(xs1.set 0 ([1000000000,-1000000000].getD (((s2.pick 8).2.pick 2).1.toNat) default)).map (fun n:Int=>[D.int .i64 n])) O Z Z Z Z Z Z Z Z Z Z Z Z Z Z Z (dx (by omega)) (by rw[List.map_set];rfl) Z))) Z) trivial))))))) ?_
 refine jw [34,33,22,21,0,2,3,5] Z (bJ ?_)
 refine ac (js Z (jo Z (am ?_)))
 refine jr ?_
 have ho:=bt z34
 rw[show R=(⟨xs1.set 0 ([1000000000,-1000000000].getD (((s2.pick 8).2.pick 2).1.toNat) default),ys2⟩,((s2.pick 8).2.pick 2).2)from hR.trans (if_pos ho)]
 simp only[List.length_set]
 refine⟨.inl trivial,_,(aa 900 501 Z Z).trans (aa 901 502 Z Z),_,Z,Z,Z⟩
 refine af (ac (js Z (jo Z (am ?_))))
 refine jr ?_
 have ho:=b9 z34
 rw[show R=(⟨xs1,ys2⟩,(s2.pick 8).2)from hR.trans (if_neg ho)]
 refine⟨.inl Z,_,(aa 900 501 Z Z).trans (aa 901 502 Z Z),_,Z,Z,Z⟩
def pk:Nat→Src→List Int→List Int×Src
  | 0,s,vs=>(vs,s)
  | k+1,s,vs=>pk k (s.pick 13).2 (vs.set (3-k) ((s.pick 13).1-4))
def rq:Nat→List Tm→Src→List Int→List Int
  | 0,_,_,vs=>vs
  | n+1,ts,s,vs=>if cv ts vs=true then vs else rq n ts (pk 4 s vs).2 (pk 4 s vs).1
def nL(ys:List Int)(ts:List Tm):Sx:=⟨rq 30 ts (pJ ⟨ys,0,0⟩).2 (pJ ⟨ys,0,0⟩).1.vars,(pJ ⟨ys,0,0⟩).1.cells⟩
theorem te{vs:List Int}{n:Nat}(hl:vs.length=n)(h: ∀v∈vs,mB v=true):cP vs n=true:=by
 unfold cP
 rw[decide_eq_true (by omega),List.all_eq_true.2 h];rfl
theorem uz{vs:List Int}{n:Nat}(h:cP vs n=true):vs.length=n:=by
 unfold cP at h
 cases hl:decide ((vs.length:Int)=n)with
 | true=>have:=bt hl;omega
 | false=>rw[hl]at h;simp at h
theorem Ba{vs:List Int}{n:Nat}(h:cP vs n=true): ∀v∈vs,mB v=true:=by
 unfold cP at h
 cases ha:vs.all mB with
 | true=>exact List.all_eq_true.1 ha
 | false=>rw[ha]at h;simp at h
theorem wa{v:Int}(h: -1000000000≤v∧v≤1000000000):mB v=true:=by
 unfold mB;simp;omega
theorem qh{vs:List Int}{n j:Nat}{v:Int}(h:cP vs n=true)(hv: -1000000000≤v∧v≤1000000000):cP (vs.set j v) n=true:=
  te (by rw[List.length_set];exact uz h) (fun u hu=>by
 rcases List.mem_or_eq_of_mem_set hu with h1|h1
 exact Ba h u h1
 rw[h1];exact wa hv)
theorem Am{s:Src}(h:s.Ok):cP (pJ s).1.vars 4=true∧cP (pJ s).1.cells 8=true∧(pJ s).2.Ok:=by
 have a1:=vV (k:=4) (xs:=[]) h
 have a2:=vW (k:=4) (xs:=[]) h (fun n hn=>by cases hn)
 have a3:=tq (k:=4) (s:=s) (xs:=[])
 have b1:=vV (k:=8) (xs:=[]) a1
 have b2:=vW (k:=8) (xs:=[]) a1 (fun n hn=>by cases hn)
 have b3:=tq (k:=8) (s:=(pf 4 s []).2) (xs:=[])
 unfold pJ ye BW
 generalize pf 8 (pf 4 s []).2 []=c at b1 b2 b3
 generalize pf 4 s []=v at a1 a2 a3
 have hv:cP v.1 4=true:=te (by rw[a3];rfl) (fun u hu=>wa (by have:=a2 u hu;omega))
 have hc:cP c.1 8=true:=te (by rw[b3];rfl) (fun u hu=>wa (by have:=b2 u hu;omega))
 have hp:=cy (b1.pick (n:=8)) (n:=2) (by omega)
 unfold BV;split
 refine⟨qh hv ?_,hc,b1.pick.pick⟩
 generalize ((c.2.pick 8).2.pick 2).1=z at hp
 rcases(show z=0∨z=1 by omega)with rfl|rfl<;>decide
 exact⟨hv,hc,b1.pick⟩
theorem EN{s:Src}:(pJ s).2.at_≤s.at_+30:=by
 have h1:=vX (k:=4) (s:=s) (xs:=[])
 have h2:=vX (k:=8) (s:=(pf 4 s []).2) (xs:=[])
 unfold pJ ye BW
 generalize pf 8 (pf 4 s []).2 []=c at h2
 have h3:=bQ (s:=c.2) (n:=8)
 have h4:=bQ (s:=(c.2.pick 8).2) (n:=2)
 unfold BV;split
 show(((c.2.pick 8).2.pick 2).2).at_≤_;omega
 show((c.2.pick 8).2).at_≤_;omega
theorem zC: ∀{k:Nat} {s:Src} {vs:List Int},s.Ok→cP vs 4=true→cP (pk k s vs).1 4=true∧(pk k s vs).2.Ok
 | 0,s,vs,h,hv=>⟨hv,h⟩
 | k+1,s,vs,h,hv=>by
  have hp:=cy h (n:=13) (by omega)
  rw[pk];exact zC h.pick (qh hv (by omega))
theorem xr: ∀{n:Nat} {ts:List Tm} {s:Src} {vs:List Int},s.Ok→cP vs 4=true→cP (rq n ts s vs) 4=true
 | 0,ts,s,vs,h,hv=>hv
 | n+1,ts,s,vs,h,hv=>by
  rw[rq];split
  exact hv
  exact xr (zC h hv).2 (zC h hv).1
theorem xX{ys:List Int}{ts:List Tm}(h: ∀n∈ys,0≤n∧n≤255):zb (nL ys ts)=true:=by
 obtain⟨a,b,c⟩:=Am (s:=⟨ys,0,0⟩) ⟨h⟩
 have:=xr (n:=30) (ts:=ts) c a
 unfold zb nL
 simp only[this,b];rfl
theorem AV{n:Nat}{ts:List Tm}{s:Src}{vs:List Int}(h:n=0∨cv ts vs=true):rq n ts s vs=vs:=by
 rcases h with rfl|h
 rfl
 cases n with
 | zero=>rfl
 | succ n=>rw[rq,if_pos h]
theorem Bz{a b:Bool}(h:(bif a then !b else false)=true):a=true∧b=false:=by cases a<;>cases b<;>simp_all
theorem CX{n:Nat}{b:Bool}{p:Prop}(h:p∧n≤30)(hc:(bif decide ((n:Int)<30)then !b else false)=false):30-n=0∨b=true:=by
 cases b with
 | true=>exact .inr Z
 | false=>
  left
  cases hd:decide ((n:Int)<30)with
  | true=>rw[hd]at hc;cases hc
  | false=>have:=b9 hd;omega
theorem zN(hy: ∀n∈ys,0≤n∧n≤255)(ht: ∀t∈ts,t.term=true):MQ h1 h2 7 [.c (.d (bys ys)),bM ts] [] (Plain (GJ (nL ys ts))):=by
 refine MC.data (jB 34 h1 h2 Tryz.func7 Z fun O hF=>?_)
 obtain⟨R,hR⟩: ∃R,R=nL ys ts:=⟨_,rfl⟩
 rw[←hR]
 have hs:(⟨ys,0,0⟩:Src).Ok:=⟨hy⟩
 have ha:(⟨ys,0,0⟩:Src).at_=0:=rfl
 refine ac (jl Z (am ?_))
 refine aN (js Z (ao O [] (bin:=[]) Z Z Z Z (DE (xs:=ys) h1 h2) Z Z Z Z Z Z (B0:=11000) Z Z (am ?_)))
 refine js Z (aN (js Z (ao O [11000] (bin:=[bI ⟨ys,0,0⟩]) Z Z Z Z (If (s:=⟨ys,0,0⟩) h1 h2 hs (by omega)) Z Z Z Z Z Z (B0:=13000) Z Z (am ?_))))
 obtain⟨hd1,hd2,hd3⟩:=Am hs
 have hd4:=EN (s:=⟨ys,0,0⟩)
 rw[show nL ys ts=⟨rq 30 ts (pJ ⟨ys,0,0⟩).2 (pJ ⟨ys,0,0⟩).1.vars,(pJ ⟨ys,0,0⟩).1.cells⟩from Z]at hR
 obtain⟨d,hd⟩: ∃d,d=pJ ⟨ys,0,0⟩:=⟨_,rfl⟩
 rw[←hd]at hd1 hd2 hd3 hd4 hR ⊢
 obtain⟨C,hC⟩: ∃C,C=d.1.cells:=⟨_,rfl⟩
 rw[←hC]at hR ⊢
 refine jl Z (am ?_)
 refine jo Z (am ?_)
 refine jn (ae (ac (js Z (jn (ak (ap (X:=Nat×Src×List Int) (fun x=>⟨[(1,bM ts),(4,.c (.pt 4 0 0)),(5,.c (.pt 11000 0 0)),(6,.c (.pt 6 0 0)),(7,eI (x.1:Nat))],[(4,.box [.d .nils,.d .nils]),(6,.box [.rs 900 0 x.2.2.length,.rs 901 0 C.length]),(900,oZ x.2.2),(901,oZ C),(11000,bI x.2.1)]⟩) (fun x=>x.2.1.Ok∧cP x.2.2 4=true∧rq 30 ts d.2 d.1.vars=rq (30-x.1) ts x.2.1 x.2.2∧x.1≤30∧x.2.1.at_≤d.2.at_+8*x.1) (fun x=>30-x.1) (0,d.2,d.1.vars) (((aa 13001 900 Z Z).trans (aa 13002 901 Z Z)).trans ((ah [4,6,900,901,11000] (e':=[(1,_),(4,_),(5,_),(6,_),(7,_)]) Z Z ⟨Z,Z,Z,Z,Z,tv⟩ Z).trans (Ent.to ⟨Z,Z,Z,Z,Z,tv⟩ (by rw[hC];rfl)))) ?_ (fun x hi=>?_)))))))
 exact⟨hd3,hd1,Z,cG _,cQ _⟩
 refine ae (ac (jc Z (ar 3 Z Z Z (fun hx=>nz hx Z (bj O hx Z Z Z Z (Ie (ts:=ts) (vars:=x.2.2) (cells:=C) h1 h2 ht hi.2.1) (.cons (.c .d) (.cons (.c (.pb Z (.cons (.whole Z (bA _).symm) (.cons (.whole Z (bA _).symm) .nil)))) .nil)) Z Z Z Z Z Z Z (B0:=18000) Z (nz hx Z (AN.nil)))) Z Z ?_)))
 first|refine st (aq O Z Z Z Z Z) Z ?_|refine st (ay O Z Z Z Z Z) Z ?_|refine st (Val.pickB O Z Z Z Z Z) Z ?_
 refine jn (zc Z (fun z19=>?_) (fun z19=>?_))
 refine af (ae (ak (ac (js Z (jn (ak ?_))))))
 have hi0:=hi
 refine ap (X:=Nat×Src×List Int) (fun y=>⟨[(1,bM ts),(4,.c (.pt 4 0 0)),(5,.c (.pt 11000 0 0)),(6,.c (.pt 6 0 0)),(7,eI (x.1:Nat)),(8,eI (y.1:Nat))],[(4,.box [.d .nils,.d .nils]),(6,.box [.rs 900 0 y.2.2.length,.rs 901 0 C.length]),(900,oZ y.2.2),(901,oZ C),(11000,bI y.2.1)]⟩) (fun y=>y.2.1.Ok∧cP y.2.2 4=true∧pk 4 x.2.1 x.2.2=pk (4-y.1) y.2.1 y.2.2∧y.1≤4∧y.2.1.at_≤x.2.1.at_+2*y.1) (fun y=>4-y.1) (0,x.2.1,x.2.2) ((ah [4,6,900,901,11000] (e':=[(1,_),(4,_),(5,_),(6,_),(7,_),(8,_)]) Z Z ⟨Z,Z,Z,Z,Z,Z,tv⟩ Z).trans (Ent.to ⟨Z,Z,Z,Z,Z,Z,tv⟩ Z)) ?_ (fun y hi=>?_)
 exact⟨hi.1,hi.2.1,Z,cG _,cQ _⟩
 refine ae (ac (jb Z (jn (zc Z (fun z23=>?_) (fun z23=>?_)))))
 refine af (ae (ak ?_))
 have hk:=bt z23
 have hvl:y.2.2.length=4:=uz (n:=4) hi.2.1
 have hp:=cy hi.1 (n:=13) (by omega)
 have hat:=bQ (s:=y.2.1) (n:=13)
 refine fJ [_,_,_,_,_,_,_,_] [pn [] 0 1,pn [0] 0 1,pn [] 0 1,p0,pe [3] 0,pn [3,4] 1 1,pn (rg 0 6) 1 1,pe (rg 0 7) 1] [4,7] [_,_,_] (ai (kc Z (V Z)) (ai (kc Z (V Z)) (ai (kc Z (V Z)) (kc Z (ai (b0 O [11000] (bin:=[bI y.2.1]) Z Z Z Z (fz (s:=y.2.1) (n:=13) h1 h2 hi.1 (by omega) (by omega) (by omega)) Z Z Z Z Z (B0:=31000) Z Z Z Z Z Z) (ai (aS O Z Z (by omega) (by omega)) (ai (dV (c:=(0:Int)≤(y.1:Nat)∧((y.1:Nat):Int)<((y.2.2.length:Nat):Int)) (v:=.c (.pt 900 (0+y.1) 0)) O Z Z (by omega)) (ai (cE (ex:=[.int .i64 (y.2.2.getD y.1 default)]) (xs':=(y.2.2.set y.1 ((y.2.1.pick 13).1-4)).map (fun n:Int=>[D.int .i64 n])) O Z Z Z Z Z Z Z Z Z Z Z Z Z Z Z (vx (by omega)) (by rw[Nat.zero_add,List.map_set];rfl) Z) trivial)))))))) ?_
 refine jw [23,22,1,4,5,6,7,8] Z (bJ ?_)
 refine ag (js Z ?_)
 first|refine ji Z ?_|refine db Z Z ?_
 refine js Z (jn ?_)
 refine⟨(y.1+1,(y.2.1.pick 13).2,y.2.2.set y.1 ((y.2.1.pick 13).1-4)),(ah [4,6,900,901,11000] (e':=[(1,_),(4,_),(5,_),(6,_),(7,_),(8,_)]) Z Z ⟨Z,Z,Z,Z,Z,Z,tv⟩ Z).trans (Ent.to ⟨Z,Z,Z,Z,Z,?_,tv⟩ ?_),⟨hi.1.pick,qh hi.2.1 (by omega),?_,by simp only;omega,by simp only;omega⟩,by simp only;omega⟩
 exact congrArg (fun z=>some (eI z)) (by simp only;omega)
 simp only[List.length_set];rfl
 rw[hi.2.2.1,show 4-y.1=(4-(y.1+1))+1 by omega,pk,show 3-(4-(y.1+1))=y.1 by omega]
 refine aR (ag ?_)
 have hk:=b9 z23
 obtain⟨hk1,hk2⟩:=Bz z19
 have hk3:=bt hk1
 refine js Z ?_
 first|refine ji Z ?_|refine db Z Z ?_
 refine js Z (jn ?_)
 obtain⟨j,s1,v1⟩:=y
 simp only at hi hk
 obtain rfl:j=4:=by omega
 obtain⟨hi1,hi2,hi3,hi4,hi5⟩:=hi
 refine⟨(x.1+1,s1,v1),(ah [4,6,900,901,11000] (e':=[(1,_),(4,_),(5,_),(6,_),(7,_)]) Z Z ⟨Z,Z,Z,Z,Z,tv⟩ Z).trans (Ent.to ⟨Z,Z,Z,Z,?_,tv⟩ Z),⟨hi1,hi2,?_,by simp only;omega,by simp only;omega⟩,by simp only;omega⟩
 exact congrArg (fun z=>some (eI z)) (by simp only;omega)
 rw[hi0.2.2.1,show 30-x.1=(30-(x.1+1))+1 by omega,rq,if_neg (by rw[hk2];decide),show pk 4 x.2.1 x.2.2=(v1,s1)from hi3]
 refine aR (ac (js Z (jo Z (am ?_))))
 refine jr ?_
 refine eR Z ?_
 have hx:=AV (s:=x.2.1) (CX (p:=True) ⟨trivial,hi.2.2.2.1⟩ z19)
 rw[show R=⟨x.2.2,C⟩from hR.trans (by rw[hi.2.2.1,hx])]
 exact .v (.agg (.cons (.whole Z (bA _).symm) (.cons (.whole Z (bA _).symm) .nil)))
theorem lK{ts:List Tm}{n:Int}(h:terms ts n=true): ∀t∈ts,t.term=true:=by
 unfold terms at h
 cases ha:ts.all Tm.term with
 | true=>exact List.all_eq_true.1 ha
 | false=>rw[ha]at h;simp at h
theorem AU{s:Sx}(h:zb s=true):cP s.vars 4=true:=by
 unfold zb at h
 cases ha:cP s.vars 4 with
 | true=>rfl
 | false=>rw[ha]at h;simp at h
theorem Ih{t:Tm}(h:t.term=true)(hv:cP vars 4=true):MQ h1 h2 13 [cR t,bO vars] [] (Plain (eI (aH t vars))):=by
 refine aB ?_ Z
 refine jB 35 h1 h2 Tryz.func13 Z fun O hF=>?_
 have ht:=qa h
 have hs:=fR hv
 have hlen:t.xs.length≤vars.length:=by omega
 refine ac (jx Z (js Z (aN (jc Z (jn (ae (ac (js Z (jn (ak (ap (X:=Nat) (fun i=>⟨[(1,bO vars),(2,.c (.pt 2 0 0)),(5,eI (t.c+dI (t.xs.take i) (vars.take i))),(6,eI i)],[(2,.box [.d (.int .i64 t.c),.d (cK t.xs)])]⟩) (fun i=>i≤t.xs.length) (fun i=>t.xs.length-i) 0 (Ent.to ⟨Z,Z,by show some (eI t.c)=_;simp[dI],Z,tv⟩ Z) ?_ (fun i hi=>?_))))))))))))
 exact cG _
 refine ae (ac (jc Z ?_))
 first|refine cW Z ?_|refine js Z ?_|refine db Z Z ?_
 refine jb Z (ar 4 Z Z Z (fun hx=>nz hx Z (nz hx Z (ny hx (bP O Z Z Z Z Z Z Z Z) Z (nz hx Z (AN.nil))))) Z Z ?_)
 first|refine st (aq O Z Z Z Z Z) Z ?_|refine st (ay O Z Z Z Z Z) Z ?_|refine st (Val.pickB O Z Z Z Z Z) Z ?_
 refine jn (zc Z (fun z19=>?_) (fun z19=>?_))
 refine af (ae (ak ?_))
 obtain⟨hb1,hb2⟩:=Ka z19
 have hi2:=bt hb1
 have hd:=sW ht.2.1 hs.1 hi (Nat.le_trans hi hlen)
 have hds:=kU (xs:=t.xs) (ys:=vars) (i:=i) (by omega) (by omega)
 have hn:=IZ.1 ht.1
 have hm:=sR (IZ.1 (List.all_eq_true.1 ht.2.1 _ (List.getElem_mem (show i<t.xs.length by omega)))) (I2.1 (List.all_eq_true.1 hs.1 _ (List.getElem_mem (show i<vars.length by omega))))
 rw[←aw (show i<t.xs.length by omega),←aw (show i<vars.length by omega)]at hm
 refine fJ [_,_,_,_,_,_,_,_,_,_,_,_,_] [p0,p0,pz [1],p0,pz [1,2,3],pz (rg 1 4),p0,p0,pz [6,7],pz [6,7,8],pz (rg 1 9),pz (rg 0 11),pz (rg 0 12)] [] [_] (k4 Z (ai (vN Z) (kc Z (kc Z (kc Z (ai (vN Z) (kc Z (ai (aS O Z Z (Int.le_trans (by decide) hm.1) (Int.le_trans hm.2 (by decide))) (ai (aS O Z Z (show(-9223372036854775808:Int)≤t.c+dI (t.xs.take i) (vars.take i)+t.xs.getD i default*vars.getD i default by omega) (show t.c+dI (t.xs.take i) (vars.take i)+t.xs.getD i default*vars.getD i default≤9223372036854775807 by omega)) (kc Z trivial)))))))))) ?_
 refine jw [5,19,1,2,6] Z (bJ ?_)
 refine ag (js Z ?_)
 first|refine ji Z ?_|refine db Z Z ?_
 refine js Z (jn ?_)
 refine⟨i+1,Ent.to ⟨Z,Z,?_,Z,tv⟩ Z,by omega,by omega⟩
 exact congrArg (fun z=>some (eI z)) (by rw[hds];show t.c+dI (t.xs.take i) (vars.take i)+t.xs.getD i default*vars.getD i default=_;omega)
 refine aR (ac (jb Z (jr ?_)))
 refine eR Z ?_
 have hn:=IR z19
 obtain rfl:i=t.xs.length:=by
  rcases Nat.lt_or_ge i t.xs.length with hlt|hge
  exact absurd ⟨decide_eq_true (by omega),decide_eq_true (by omega)⟩ hn
  omega
 rw[pF (cQ _)];rfl
theorem DF(ht: ∀t∈ts,t.term=true)(hv:cP vars 4=true):MQ h1 h2 11 [bM ts,bO vars] [] (Plain (eB (cv ts vars))):=by
 refine aB ?_ Z
 refine jB 19 h1 h2 Tryz.func11 Z fun O hF=>?_
 have hl:ts.length≤L:=by have:=hF;simp[As.fact,A.fact,M.fact,D.fact,Ds.fact]at this;omega
 refine ac (js Z (jn (ae (ac (js Z (jn (ak (ap (X:=Nat) (fun i=>⟨[(0,bM ts),(1,bO vars),(5,eI i)],[]⟩) (fun i=>i≤ts.length∧∀j,j<i→0≤aH (ts.getD j default) vars) (fun i=>ts.length-i) 0 (Ent.to ⟨Z,Z,Z,tv⟩ Z) ?_ (fun i hi=>?_)))))))))
 exact⟨cG _,fun j hj=>absurd hj (Nat.not_lt_zero j)⟩
 refine ae (ac (jb Z ?_))
 first|refine cW Z ?_|refine js Z ?_|refine db Z Z ?_
 refine js Z (jn (zc Z (fun z9=>?_) (fun z9=>?_)))
 try simp only[bo]at z9
 refine af (ae (ak (ac (jb Z ?_))))
 first|refine jh Z Z ?_|refine nC Z Z ?_|refine db Z Z ?_
 refine jb Z (lo Z (Ih (t:=ts.getD i default) (vars:=vars) h1 h2 (uk ht (by omega)) hv) 18000 Z (js Z (jn (zc Z (fun z18=>?_) (fun z18=>?_)))))
 try simp only[bo]at z18
 refine ac (js Z (jr ?_))
 refine eR Z ?_
 rw[xF (i:=i) (by omega) (by simpa using z18)]
 try simp only[bo]at z18
 refine af (ag (js Z ?_))
 first|refine ji Z ?_|refine db Z Z ?_
 refine js Z (jn ?_)
 refine⟨i+1,Ent.to ⟨Z,Z,Z,tv⟩ Z,⟨by omega,fun j hj=>?_⟩,by omega⟩
 rcases Nat.lt_or_ge j i with h|h
 exact hi.2 j h
 obtain rfl:j=i:=by omega
 have:=z18;simp at this;exact this
 try simp only[bo]at z9
 refine aR (ac (js Z (jr ?_)))
 refine eR Z ?_
 obtain rfl:i=ts.length:=by omega
 rw[uI hi.2]
theorem dU{ys:List Int}:dI [] ys=0:=by cases ys<;>rfl
theorem gK{xs:List Int}:dI xs []=0:=by cases xs<;>rfl
theorem sg: ∀{xs ys:List Int},dI (xs++[0]) ys=dI xs ys
 | [],[]=>rfl
 | [],y::ys=>by
  show 0*y+dI [] ys=0
  rw[dU];omega
 | x::xs,[]=>rfl
 | x::xs,y::ys=>by
  show x*y+dI (xs++[0]) ys=x*y+dI xs ys
  rw[sg]
theorem qx{ys:List Int}: ∀{n:Nat} {xs:List Int},xs.length=n→dI (bv xs) ys=dI xs ys
 | 0,xs,h=>by
  obtain rfl:=List.length_eq_zero_iff.1 h
  rfl
 | n+1,xs,h=>by
  have hne:xs≠[]:=by intro e;rw[e]at h;cases h
  have e:=(List.dropLast_concat_getLast hne).symm
  by_cases h0:xs.getLast hne=0
  rw[h0]at e
  rw[e,lF,sg]
  exact qx (n:=n) (by rw[List.length_dropLast];omega)
  rw[e,rO h0]
theorem tw{m:Int}{f g:Nat→Int}: ∀{ks:List Nat} {ys:List Int},dI (ks.map fun k=>m*f k+g k) ys=m*dI (ks.map f) ys+dI (ks.map g) ys
 | [],ys=>by simp only[List.map_nil,dU];omega
 | k::ks,[]=>by simp only[gK];omega
 | k::ks,y::ys=>by
  simp only[List.map_cons,dI]
  rw[tw,Int.add_mul,Int.mul_add,Int.mul_assoc]
  omega
theorem fT: ∀{n:Nat} {xs ys:List Int},xs.length≤n→dI ((List.range n).map fun k=>xs.getD k 0) ys=dI xs ys
 | 0,xs,ys,h=>by
  obtain rfl:=List.length_eq_zero_iff.1 (Nat.le_zero.1 h)
  rfl
 | n+1,xs,[],h=>by rw[gK,gK]
 | n+1,[],y::ys,h=>by
  rw[List.range_succ_eq_map,List.map_cons,List.map_map]
  have:=fT (n:=n) (xs:=[]) (ys:=ys) (cG _)
  show 0*y+dI ((List.range n).map _) ys=0
  rw[dU]at this
  rw[show dI ((List.range n).map ((fun k=>([]:List Int).getD k 0)∘Nat.succ)) ys=dI ((List.range n).map fun k=>([]:List Int).getD k 0) ys from Z,this]
  omega
 | n+1,x::xs,y::ys,h=>by
  rw[List.range_succ_eq_map,List.map_cons,List.map_map]
  have:=fT (n:=n) (xs:=xs) (ys:=ys) (by simpa using h)
  show x*y+dI ((List.range n).map ((fun k=>(x::xs).getD k 0)∘Nat.succ)) ys=x*y+dI xs ys
  rw[←this];rfl
theorem qy{ys:List Int}: ∀{ts:List Tm} {ms:List Int},(∀t∈ts,t.xs.length≤10)→dI (bE ts ms) ys=bm (fun t=>dI t.xs ys) ts ms
 | [],ms,h=>by
  have h0:bE [] ms=(List.range 10).map fun k=>([]:List Int).getD k 0:=by
   unfold bE;exact List.map_congr_left fun k _=>by simp[bm]
  rw[h0,fT (cG _),dU];rfl
 | t :: ts,[],h=>by
  have h0:bE (t::ts) []=(List.range 10).map fun k=>([]:List Int).getD k 0:=by
   unfold bE;exact List.map_congr_left fun k _=>by simp[bm]
  rw[h0,fT (cG _),dU];rfl
 | t::ts,m::ms,h=>by
  have h1:bE (t::ts) (m::ms)=(List.range 10).map fun k=>m*t.xs.getD k 0+bm (jU k) ts ms:=rfl
  rw[h1,tw (f:=fun k=>t.xs.getD k 0) (g:=fun k=>bm (jU k) ts ms),fT (h t (by simp))]
  have h2:=qy (ys:=ys) (ts:=ts) (ms:=ms) (fun u hu=>h u (by simp[hu]))
  unfold bE at h2
  rw[h2];rfl
theorem qB{f g:Tm→Int}: ∀{ts:List Tm} {ms:List Int},bm f ts ms+bm g ts ms=bm (fun t=>f t+g t) ts ms
 | [],ms=>by simp[bm]
 | t::ts,[]=>by simp[bm]
 | t::ts,m::ms=>by
  simp only[bm]
  rw[←qB,Int.mul_add];omega
theorem uX{f:Tm→Int}: ∀{ts:List Tm} {ms:List Int},bm f ts ms=dI ms (ts.map f)
 | [],ms=>by rw[List.map_nil,gK];simp[bm]
 | t::ts,[]=>by simp[bm,dI]
 | t::ts,m::ms=>by simp only[bm,List.map_cons,dI];rw[uX]
theorem Gq{t:Tm}(h:t.ok=true):t.xs.length≤10:=by
 unfold Tm.ok at h
 cases h1:decide ((10:Int)<t.xs.length)with
 | true=>rw[h1]at h;simp at h
 | false=>have:=b9 h1;omega
theorem xz{c:Int}{xs v:List Int}(h:(lY c xs).2=true):aH (lY c xs).1 v=c+dI xs v:=by
 unfold lY at h ⊢
 split
 show c+dI (bv xs) v=_
 rw[qx Z]
 rename_i hn;rw[if_neg hn]at h;cases h
theorem jz{t:Tm}{vs:List Tm}{v:List Int}(hv: ∀u∈vs,u.ok=true)(h:(aG t vs).2=true):aH (aG t vs).1 v=aH t (vs.map fun u=>aH u v):=by
 unfold aG at h ⊢
 rw[xz h,qy (fun u hu=>Gq (hv u hu)),Int.add_assoc,qB,uX]
 rfl
theorem qg{t:Tm}{v:List Int}(ht:t.ok=true)(h:(aL t).2=true):aH (aL t).1 v= -aH t v-1:=by
 unfold aL x9 at h ⊢
 rw[xz h]
 have h1:lZ t (-1) ⟨1,[]⟩ (-1)=(List.range 10).map fun k=> -1*t.xs.getD k 0+([]:List Int).getD k 0:=by
  unfold lZ;exact List.map_congr_left fun k _=>by simp
 rw[h1,tw (f:=fun k=>t.xs.getD k 0) (g:=fun k=>([]:List Int).getD k 0),fT (Gq ht),fT (cG _),dU]
 unfold aH
 show -1*t.c+ -1*1+(-1*dI t.xs v+0)=_
 omega
def BR:List Tr→RS→Bool×RS
  | [],r=>(true,r)
  | t::ts,r=>if(aW t r).1=true then BR ts (aW t r).2 else(false,(aW t r).2)
def flat:Tr→Bool
  | .node s a [x,y]=>flat x&&flat y
  | .node s a []=>!decide (s.kind=3)
  | .node s a _=>false
theorem Gz{r:RS}:(aP r).2.vars=r.vars∧(aP r).2.events=r.events:=by
 unfold aP;split<;>exact⟨rfl,rfl⟩
structure At(v:List Int)(w:Pw)(r:RS):Prop where
  vars:r.vars=w.vars.map fun u=>aH u v
  ev:r.events=w.ev
  hold:cv w.facts v=true
theorem jN{ts:List Tm}{t:Tm}{v:List Int}:cv (ts++[t]) v=(cv ts v&&decide (0≤aH t v)):=by
 unfold cv;rw[List.all_append];simp
structure PsAt(frm:Int)(w:Pw)(ts:List Tr)(ps:List Pth):Prop where
  all: ∀p∈ps,p.frm=frm∧p.to= -1∧p.ends.length=w.vars.length∧w.facts <+: p.facts
  run : ∀(v:List Int) (r:RS),At v w r→(BR ts r).1=true→∃i,i<ps.length∧(∀j (hj:j<ps.length),cv ps[j].facts v=decide (j=i))∧
    ∀(hi:i<ps.length),ps[i].ev=(BR ts r).2.events∧(ps[i].ends.map fun u=>aH u v)=(BR ts r).2.vars
def Kb(b:List Sm):Prop:= ∀(rest:List Sm) (m:Int),0≤m→fw (b++rest) (m+1)=(fw rest m).map (· + b.length)
structure BdOk(b:List Sm):Prop where
  st: ∀x∈b,bi x=true
  ends:Kb b
  pos:1≤b.length
theorem oM{t:Tm}(h:t.term=true):t.xs.length≤4:=by
 unfold Tm.term at h
 rw[bC]at h
 have:=bt h.2;omega
theorem si{f:Tm→Int}: ∀{ts:List Tm} {ms:List Int},(∀t∈ts,f t=0)→bm f ts ms=0
 | [],ms,h=>by simp[bm]
 | t::ts,[],h=>by simp[bm]
 | t::ts,m::ms,h=>by
  simp only[bm]
  rw[h t (by simp),si (fun u hu=>h u (by simp[hu]))];omega
theorem qo{xs:List Int}{k:Nat}(h:xs.length≤k):xs.getD k 0=0:=by
 rw[List.getD_eq_getElem?_getD,List.getElem?_eq_none h];rfl
theorem rU{g:Nat→Int}{k:Nat}(h:g k=0):((List.range 10).map g).getD k 0=0:=by
 rw[List.getD_eq_getElem?_getD,List.getElem?_map]
 rcases Nat.lt_or_ge k 10 with h1|h1
 rw[List.getElem?_range h1];exact h
 rw[List.getElem?_eq_none (by rw[List.length_range];exact h1)];rfl
structure TmW(w:Pw):Prop where
  vars: ∀u∈w.vars,u.term=true
  facts: ∀u∈w.facts,u.term=true
structure PaW(P:List Pth)(i0:Nat)(v0 ev vs:List Int):Prop where
  frm: ∀r∈P,r.frm= -1∧r.to= -1∧r.ends.length=4
  facts: ∀r∈P,∀t∈r.facts,t.term=true
  ends: ∀r∈P,∀t∈r.ends,t.term=true
  lt:i0<P.length
  hold: ∀j,j<P.length→cv (P.getD j default).facts v0=decide (j=i0)
  ev:(P.getD i0 default).ev=ev
  vs:((P.getD i0 default).ends.map fun u=>aH u v0)=vs
theorem four{xs:List Int}(h:xs.length=4): ∃a b c d,xs=[a,b,c,d]:=by
 match xs,h with
 | [a,b,c,d],_=>exact⟨a,b,c,d,Z⟩
theorem xQ{g:Nat}: ∀{xs ys:List Int},(∀x∈xs,g ∣ x.natAbs)→(g:Int)*dI (xs.map fun x=>x.tdiv g) ys=dI xs ys
 | [],ys,_=>by rw[List.map_nil,dU,Int.mul_zero]
 | x::xs,[],_=>by rw[gK,gK,Int.mul_zero]
 | x::xs,y::ys,h=>by
  rw[List.map_cons]
  simp only[dI]
  rw[Int.mul_add,xQ (fun z hz=>h z (by simp[hz])),←Int.mul_assoc,kT (h x (by simp))]
theorem m7{ts:List Tm}{v:List Int}(h:cv ts v=true){t:Tm}(ht:t∈ts):0≤aH t v:=by
 unfold cv at h
 exact bt (List.all_eq_true.1 h t ht)
theorem ql{ts:List Tm}{v:List Int}(h: ∀t∈ts,0≤aH t v):cv ts v=true:=by
 unfold cv
 exact List.all_eq_true.2 fun t ht=>decide_eq_true (h t ht)
theorem oQ{f:Tm→Int}: ∀{ts:List Tm} {ms:List Int},(∀t∈ts,0≤f t)→(∀m∈ms,0≤m)→0≤bm f ts ms
 | [],ms,_,_=>by simp[bm]
 | t::ts,[],_,_=>by simp[bm]
 | t::ts,m::ms,h1,h2=>by
  simp only[bm]
  have a:=oQ (f:=f) (ts:=ts) (ms:=ms) (fun u hu=>h1 u (by simp[hu])) (fun u hu=>h2 u (by simp[hu]))
  have b:=Int.mul_nonneg (h2 m (by simp)) (h1 t (by simp))
  omega
theorem oo{ts:List Tm}{ms v:List Int}(h: ∀t∈ts,t.xs.length≤10):aH (gV ts ms) v=bm (fun t=>aH t v) ts ms:=by
 show bm Tm.c ts ms+dI (bv (bE ts ms)) v=_
 rw[qx Z,qy h,qB];rfl
theorem yx{t:Tm}{v:List Int}(h:t.xs.length≤10):aH (dP t) v= -aH t v-1:=by
 have:=oo (ts:=[t]) (ms:=[-1]) (v:=v) (fun u hu=>by rw[List.mem_singleton.1 hu];exact h)
 simp only[bm]at this
 have e:aH (dP t) v=aH (gV [t] [-1]) v-1:=by
  show bm Tm.c [t] [-1]-1+dI (bv (bE [t] [-1])) v=bm Tm.c [t] [-1]+dI (bv (bE [t] [-1])) v-1
  omega
 rw[e,this];omega
theorem A9{t:Tm}:(dP t).xs.length≤10:=by
 have:=gl (bE [t] [-1])
 simp only[bE,bA,List.length_range]at this
 exact this
theorem tK{c:List Tm}{ms v:List Int}(hl: ∀t∈c,t.xs.length≤10)(hm: ∀m∈ms,0≤m)(h:dH c ms=true)(hh:cv c v=true):False:=by
 unfold dH at h
 simp only[bC,decide_eq_true_eq]at h
 obtain⟨_,h2,h3⟩:=h
 have e:=oo (ts:=c) (ms:=ms) (v:=v) hl
 have e2:aH (gV c ms) v=bm Tm.c c ms:=by
  show bm Tm.c c ms+dI (bv (bE c ms)) v=_
  rw[List.length_eq_zero_iff.1 h2,dU,Int.add_zero]
 have:=oQ (f:=fun t=>aH t v) (ts:=c) (ms:=ms) (fun t ht=>m7 hh ht) hm
 omega
theorem vd{t:Tm}{v:List Int}(h2:(fO t).2=true)(h:0≤aH t v):0≤aH (fO t).1 v∧(fO t).1.xs.length=t.xs.length:=by
 unfold fO at h2 ⊢
 split at h2
 cases h2
 rename_i hg
 rw[if_neg hg]
 refine⟨?_,by simp⟩
 show 0≤tV t.c (bk t.xs)+dI (t.xs.map fun x=>x.tdiv (bk t.xs)) v
 have hd:=xQ (g:=bk t.xs) (ys:=v) (fun x hx=>ie hx)
 have hf:=Ak (c:=t.c) (g:=bk t.xs) (by omega)
 unfold aH at h
 rw[←hd]at h
 generalize dI (t.xs.map fun x=>x.tdiv (bk t.xs)) v=Y at h ⊢
 refine Int.not_lt.1 fun hn=>?_
 have h5:Y≤ -(tV t.c (bk t.xs))-1:=by omega
 have h6:=Int.mul_le_mul_of_nonneg_left h5 (show(0:Int)≤(bk t.xs:Int) by omega)
 omega
theorem kb{v:List Int}: ∀{t:Pf} {c:List Tm},t.fine→t.okay c→(∀u∈c,u.xs.length≤10)→cv c v=false
 | .close n,c,hf,ho,hl=>by
  cases hh:cv c v with
  | false=>rfl
  | true=>
   refine(tK hl (fun m hm=>?_) ho hh).elim
   have h1:=hf.1
   unfold gN at h1
   rw[if_pos hf.2]at h1
   simp only[bC]at h1
   have h2:=h1.2
   unfold yc at h2
   simp only[bC]at h2
   have h3:=List.all_eq_true.1 h2.1 m hm
   unfold co at h3
   simp only[bC,decide_eq_true_eq]at h3
   exact h3.1
 | .tight n a,c,hf,ho,hl=>by
  cases hh:cv c v with
  | false=>rfl
  | true=>
   obtain⟨h1,h2⟩:=ho
   simp only[bC]at h1
   have hfa:=h1.1
   unfold gS eW at hfa
   simp only[bC,decide_eq_true_eq]at hfa
   have hlt:n.fact.toNat<c.length:=by omega
   have hm:c.getD n.fact.toNat default∈c:=by rw[aw hlt];exact List.getElem_mem hlt
   have ht:=vd (v:=v) h1.2 (m7 hh hm)
   have := kb (v:=v) hf.2.2 h2 (fun u hu=>by
    rcases List.mem_append.1 hu with h3|h3
    · exact hl u h3
    · rw[List.mem_singleton.1 h3]
      show(fO _).1.xs.length≤10
      rw[ht.2];exact hl _ hm)
   rw[jN,hh,decide_eq_true (show 0≤aH (oY n c).1 v from ht.1)]at this
   cases this
 | .split n a b,c,hf,ho,hl=>by
  cases hh:cv c v with
  | false=>rfl
  | true=>
   obtain⟨h1,h2,h3⟩:=ho
   have hn:=hf.1
   unfold gN at hn
   rw[if_neg (by rw[hf.2.1];decide),if_pos hf.2.1]at hn
   simp only[bC]at hn
   have htl:=Gq hn.1.2
   by_cases hc:0≤aH n.term v
   have:=kb (v:=v) hf.2.2.1 h2 (fun u hu=>by
    rcases List.mem_append.1 hu with h3|h3
    · exact hl u h3
    · rw[List.mem_singleton.1 h3];exact htl)
   rw[jN,hh,decide_eq_true hc]at this
   cases this
   have:=kb (v:=v) hf.2.2.2 h3 (fun u hu=>by
    rcases List.mem_append.1 hu with h3|h3
    · exact hl u h3
    · rw[List.mem_singleton.1 h3];exact A9)
   rw[jN,hh,yx htl,decide_eq_true (by omega)]at this
   cases this
theorem wo{s:Sq}{b:Int}(hs:dF s=true)(h:(cz s b).2=true){v:List Int}(hf:cv s.facts v=true):0≤aH s.goal v:=by
 obtain⟨g1,g2,g3⟩:=fj hs
 unfold cz at h
 split at h
 rename_i ho
 split at h
 cases h
 rename_i z hz
 have hF:Fs (s.facts++[(aL s.goal).1]):=⟨fun u hu=>by
  rcases List.mem_append.1 hu with hu|hu
  · exact g1 u hu
  · simp only[List.mem_singleton]at hu;subst hu;exact lz ho,by simp;omega⟩
 obtain⟨t,h1,h2,h3⟩:=lM hF hz
 have:=kb (v:=v) h2 h3 (fun u hu=>by
  rcases List.mem_append.1 hu with h4|h4
  · exact Gq (g1 u h4)
  · rw[List.mem_singleton.1 h4];exact Gq (lz ho))
 rw[jN,hf,qg g3 ho,Bool.true_and]at this
 have:=b9 this
 omega
 cases h
def VC(cs:List Sq):Prop:= ∀s∈cs,∀v:List Int,cv s.facts v=true→0≤aH s.goal v
theorem VC.pre{cs ds:List Sq}(h:VC ds)(hp:cs <+: ds):VC cs:=fun s hs=>h s (hp.subset hs)
theorem qq{w:Pw}: ∀{fs:List Tm} {g:Gs},g.conds <+: (fs.foldl (bn w) g).conds
 | [],g=>List.prefix_refl _
 | t::fs,g=>(List.prefix_append _ _:g.conds <+: (bn w g t).conds).trans (qq (fs:=fs) (g:=bn w g t))
theorem Gm{la:dv}{s:Sm}{w:Pw}{g:Gs}:g.conds <+: (bN la s w g).2.conds:=by
 have hc: ∀t,g.conds <+: (ce la w t g).conds:=fun t=>(List.prefix_append _ _:g.conds <+: ((aU w t g).goal w (aG t w.vars).1).conds).trans (List.prefix_append _ _)
 unfold bN
 split
 exact List.prefix_refl _
 split
 split
 exact hc _
 exact hc _
 split
 exact hc _
 split
 exact List.prefix_refl _
 split
 exact List.prefix_append _ _
 exact List.prefix_refl _
theorem od{frm to:Int}{w:Pw}{fs:List Tm}{g:Gs}:g.conds <+: (dy frm w to fs g).conds:=qq
theorem fo{la:dv}{E:Pe}{frm:Int}: ∀{n:Nat} {r:List Fr} {w:Pw} {g:Gs},g.conds <+: (eM la E frm n r w g).conds
 | 0,r,w,g=>List.prefix_refl _
 | n + 1,r,w,g=>by
  cases hb:g.bad with
  | true=>rw[cT hb];exact List.prefix_refl _
  | false=>
   match r with
   | []=>rw[f5 hb];exact od
   | .lp j::r=>rw[i8 hb];exact od
   | .st (.node s a [])::r=>rw[e9 hb];exact Gm.trans fo
   | .st (.node s a [x])::r=>rw[i7 hb];exact od
   | .st (.node s a [x,y])::r=>
    by_cases hk:s.kind=1
    rw[f3 hb hk];exact fo
    rw[i9 hb hk]
    unfold dC
    exact(fo (n:=n) (r:=.st x::r) (w:=w.fact (aG s.sum w.vars).1) (g:=((aU w s.sum g).flag (!(aL (aG s.sum w.vars).1).2)).flag (w.fact (aG s.sum w.vars).1).long)).trans fo
   | .st (.node s a (x::y::z::ks))::r=>rw[jD hb];exact Gm.trans fo
theorem jE{la:dv}{E:Pe}{frm:Int}{n:Nat}{r:List Fr}{w:Pw}{g:Gs}(h:(eM la E frm n r w g).bad=false):g.bad=false:=by
 cases hb:g.bad with
 | false=>rfl
 | true=>rw[cT hb,hb]at h;cases h
theorem r6{w:Pw}: ∀{fs:List Tm} {g:Gs},(fs.foldl (bn w) g).bad=false→∀t∈fs,(aG t w.vars).2=true∧(⟨w.facts,(aG t w.vars).1⟩:Sq)∈(fs.foldl (bn w) g).conds
 | [],g,h,t,ht=>by cases ht
 | u :: fs,g,h,t,ht=>by
  have h':(fs.foldl (bn w) (bn w g u)).bad=false:=h
  rcases List.mem_cons.1 ht with rfl|ht
  have hb:(bn w g t).bad=false:=by
   cases hb:(bn w g t).bad with
   | false=>rfl
   | true=>rw[qr hb]at h';cases h'
  refine⟨?_,(qq (fs:=fs) (g:=bn w g t)).subset ?_⟩
  simp only[bn,aU,Gs.goal,Gs.flag,Bool.or_eq_false_iff,Bool.not_eq_false']at hb
  exact hb.2
  simp[bn,Gs.goal]
  exact r6 h' t ht
structure AtS(v:List Int)(w:Pw)(r:RS):Prop where
  vars:r.vars=w.vars.map fun u=>aH u v
  hold:cv w.facts v=true
  vsup: ∀u∈w.vars,u.xs.length≤w.sym
  fsup: ∀u∈w.facts,u.xs.length≤w.sym
  vl:v.length=10
  sy:w.sym≤10
  out:r.out=0
  ok: ∀u∈w.vars,u.ok=true
theorem xP: ∀{xs v:List Int} {k:Nat} {x:Int},xs.length≤k→dI xs (v.set k x)=dI xs v
 | [],v,k,x,h=>by rw[dU,dU]
 | a::xs,[],k,x,h=>by simp
 | a::xs,y::v,0,x,h=>by simp at h
 | a::xs,y::v,k+1,x,h=>by
  rw[List.set_cons_succ]
  simp only[dI]
  rw[xP (by simpa using h)]
theorem uP{t:Tm}{v:List Int}{k:Nat}{x:Int}(h:t.xs.length≤k):aH t (v.set k x)=aH t v:=by
 unfold aH;rw[xP h]
theorem uV: ∀{k:Nat} {v:List Int},k<v.length→dI (List.replicate k 0++[1]) v=v.getD k default
 | 0,y::v,h=>by simp[dI,dU]
 | k+1,y::v,h=>by
  rw[List.replicate_succ,List.cons_append]
  simp only[dI]
  rw[uV (k:=k) (v:=v) (by simpa using h),List.getD_cons_succ];omega
theorem AQ{k:Nat}{v:List Int}(h:k<v.length):aH (iC k) v=v.getD k default:=by
 unfold aH iC
 show 0+dI _ v=_
 rw[uV h];omega
theorem uh{m:Nat}: ∀{n:Nat} {xs:List Int},xs.length=n→(∀k,m≤k→xs.getD k 0=0)→(bv xs).length≤m
 | 0,xs,h,_=>by
  obtain rfl:=List.length_eq_zero_iff.1 h
  exact cG _
 | n + 1,xs,h,hz=>by
  have hne:xs≠[]:=by intro e;rw[e]at h;cases h
  rcases Nat.lt_or_ge n m with h4|h4
  have:=gl xs;omega
  have e:=(List.dropLast_concat_getLast hne).symm
  have h0:xs.getLast hne=0:=by
   have:=hz n h4
   rw[List.getLast_eq_getElem]
   rw[List.getD_eq_getElem?_getD,List.getElem?_eq_getElem (show n<xs.length by omega),Option.getD_some]at this
   simp only[h,Nat.add_sub_cancel];exact this
  rw[h0]at e
  rw[e,lF]
  refine uh (n:=n) (by rw[List.length_dropLast];omega) fun k hk=>?_
  have:=hz k hk
  rw[List.getD_eq_getElem?_getD]at this ⊢
  rcases Nat.lt_or_ge k xs.dropLast.length with h5|h5
  rw[List.getElem?_eq_getElem h5,List.getElem_dropLast]
  have h6:k<xs.length:=by rw[List.length_dropLast]at h5;omega
  rw[List.getElem?_eq_getElem h6]at this;exact this
  rw[List.getElem?_eq_none h5];rfl
theorem Ag{m:Nat}{c:Int}{xs:List Int}(h: ∀k,m≤k→xs.getD k 0=0):(lY c xs).1.xs.length≤m:=by
 unfold lY
 split
 exact uh Z h
 exact cG _
theorem pi{m:Nat}{t:Tm}{vs:List Tm}(h: ∀u∈vs,u.xs.length≤m):(aG t vs).1.xs.length≤m:=
  Ag fun k hk=>rU (si fun u hu=>qo (Nat.le_trans (h u hu) hk))
theorem xy{m:Nat}{t:Tm}(h:t.xs.length≤m):(aL t).1.xs.length≤m:=
  Ag fun k hk=>rU (by
    rw[qo (Nat.le_trans h hk),qo (cG _)];rfl)
def kz:List Fr→RS→Bool×RS
  | [],r=>(true,r)
  | .lp _::_,r=>(true,r)
  | .st t::R,r=>if(aW t r).1=true then kz R (aW t r).2 else(false,(aW t r).2)
def KR(E:Pe):List Fr→RS→Prop
  | [],r=>cv E.post r.vars=true
  | .lp k::_,r=>cv (E.lf k) r.vars=true
  | .st _::R,r=>KR E R r
structure Sf(q:Bool×RS)(K:RS→Prop):Prop where
  yes:q.1=true→K q.2∧q.2.out=0∧q.2.vars.length=4
  no:q.1=false→q.2.out=1∨q.2.out=4
def Gl(E:Pe)(s:Sm)(a:Int)(x:Tr)(R:List Fr):Prop:=
  ∀r:RS,r.vars.length=4→r.out=0→cv s.facts r.vars=true→Sf (kz (.st (.node s a [x])::R) r) (KR E R)
def LT(E:Pe):Tr→List Fr→Prop
  | .node s a [x,y],R=>if s.kind=1 then LT E x (.st y::R)∧LT E y R else LT E x R∧LT E y R
  | .node s a [x],R=>Gl E s a x R
  | .node s a [],R=>True
  | .node s a _,R=>False
def LG(E:Pe):List Fr→Prop
  | []=>True
  | .lp _::_=>True
  | .st t::R=>LT E t R∧LG E R
theorem AY{s:Sm}{a:Int}{x y:Tr}{R:List Fr}{r:RS}(hk:s.kind=1):kz (.st (.node s a [x,y])::R) r=kz (.st x:: .st y::R) r:=by
 simp only[kz]
 rw[gc,if_pos hk]
 by_cases h:(aW x r).1=true
 rw[if_pos h,if_pos h]
 rw[if_neg h,if_neg h,if_neg Bool.false_ne_true]
theorem Ct{s:Sm}{a:Int}{x y:Tr}{R:List Fr}{r:RS}(hk: ¬s.kind=1) :
    kz (.st (.node s a [x,y])::R) r=if(aP r).1=true then(if 0≤aH s.sum r.vars then kz (.st x::R) (aP r).2 else kz (.st y::R) (aP r).2)else(false,(aP r).2):=by
 simp only[kz]
 rw[gc,if_neg hk,Gz.1]
 by_cases h1:(aP r).1=true
 rw[if_pos h1,if_pos h1]
 split<;>rfl
 rw[if_neg h1,if_neg h1,if_neg Bool.false_ne_true]
theorem yp{s:Sm}{a:Int}{R:List Fr}{r:RS} :
    kz (.st (.node s a [])::R) r=if(aP r).1=true then(if(leaf s (aP r).2).1=true then kz R (leaf s (aP r).2).2 else(false,(leaf s (aP r).2).2))else(false,(aP r).2):=by
 simp only[kz]
 rw[cB]
 by_cases h1:(aP r).1=true
 rw[if_pos h1,if_pos h1]
 rw[if_neg h1,if_neg h1,if_neg Bool.false_ne_true]
theorem rQ{r:RS}{K:RS→Prop}{f:Bool×RS}(h:(aP r).1=true→Sf f K):Sf (if(aP r).1=true then f else(false,(aP r).2)) K:=by
 by_cases h1:(aP r).1=true
 rw[if_pos h1];exact h h1
 rw[if_neg h1]
 refine⟨fun e=>(by cases e),fun _=>.inl ?_⟩
 unfold aP at h1 ⊢
 split
 rfl
 rename_i hn;rw[if_neg hn]at h1;exact absurd Z h1
theorem ym{r:RS}(h1:(aP r).1=true):(aP r).2.out=r.out:=by
 unfold aP at h1 ⊢
 split
 rename_i hn;rw[if_pos hn]at h1;cases h1
 rfl
theorem AtS.step{v:List Int}{w:Pw}{r:RS}(h:AtS v w r)(h1:(aP r).1=true):AtS v w (aP r).2:=⟨Gz.1.trans h.vars,h.hold,h.vsup,h.fsup,h.vl,h.sy,(ym h1).trans h.out,h.ok⟩
theorem AtS.fact{v:List Int}{w:Pw}{r:RS}(h:AtS v w r){t:Tm}(ht:0≤aH t v)(hs:t.xs.length≤w.sym):AtS v (w.fact t) r:=⟨h.vars,by
  show cv (w.facts++[t]) v=true
  rw[jN,h.hold,decide_eq_true ht];rfl,h.vsup,fun u hu=>by
  rcases List.mem_append.1 hu with h1|h1
  · exact h.fsup u h1
  · rw[List.mem_singleton.1 h1];exact hs,h.vl,h.sy,h.out,h.ok⟩
theorem yC{t:Tm}{v:List Int}(h:t.xs.length≤10):aH (bD t).1 v=7-aH t v:=by
 show aH (gV [⟨7,[]⟩,t] [1,-1]) v=_
 rw [oo (fun u hu=>by
  simp only[List.mem_cons,List.not_mem_nil,or_false]at hu
  rcases hu with rfl|rfl
  · exact cG _
  · exact h)]
 simp only[bm]
 have:aH ⟨7,[]⟩ v=7:=by unfold aH;rw[dU];rfl
 rw[this];omega
theorem xU{w:Pw}{t:Tm}{g:Gs}{v:List Int}(hok: ∀u∈w.vars,u.ok=true)(hb:(ce bD w t g).bad=false)(hc:VC (ce bD w t g).conds)(hh:cv w.facts v=true):eW 0 7 (aH t (w.vars.map fun u=>aH u v))=true:=by
 have hs:(aG t w.vars).2=true:=by
  simp only[ce,kG,aU,Gs.flag,Gs.goal,Bool.or_eq_false_iff,Bool.not_eq_false']at hb
  exact hb.1.2
 have h1:=hc ⟨w.facts,(aG t w.vars).1⟩ (by simp[ce,kG,Gs.goal,Gs.flag]) v hh
 have h2:=hc ⟨w.facts,(bD (aG t w.vars).1).1⟩ (by simp[ce,kG,Gs.goal,Gs.flag]) v hh
 simp only at h1 h2
 rw[yC (Gq eU)]at h2
 rw[jz hok hs]at h1 h2
 unfold eW
 rw[decide_eq_true h1,decide_eq_true (by omega)];rfl
theorem yB{s:Sm}{w:Pw}{g:Gs}{v:List Int}{r:RS}{f:RS→Bool×RS}{K:RS→Prop}(h:AtS v w r)(hb:(bN bD s w g).2.bad=false)(hc:VC (bN bD s w g).2.conds)
    (hf: ∀v' r',AtS v' (bN bD s w g).1 r'→Sf (f r') K):Sf (if(leaf s r).1=true then f (leaf s r).2 else(false,(leaf s r).2)) K:=by
 have no4:Sf (false,{r with out:=4}) K:=⟨fun e=>(by cases e),fun _=>.inr rfl⟩
 unfold bN at hb hc hf
 unfold leaf
 by_cases h2:s.kind=2
 rw[if_pos h2]at hb hc hf
 rw[if_pos h2]
 simp only[aU,Gs.flag,Bool.or_eq_false_iff,Bool.not_eq_false']at hb
 have e:=jz (v:=v) h.ok hb.2
 split
 rw[if_pos Z]
 refine hf v _ ⟨?_,h.hold,fun u hu=>?_,h.fsup,h.vl,h.sy,h.out,sP h.ok eU⟩
 show r.vars.set s.var.toNat (aH s.sum r.vars)=(w.vars.set s.var.toNat (aG s.sum w.vars).1).map _
 rw[List.map_set,e,h.vars]
 rcases List.mem_or_eq_of_mem_set hu with h1|h1
 exact h.vsup u h1
 rw[h1];exact pi h.vsup
 rw[if_neg Bool.false_ne_true];exact no4
 rw[if_neg h2]at hb hc hf
 rw[if_neg h2]
 by_cases h3:s.kind=3
 rw[if_pos h3]at hb hc hf
 rw[if_pos h3]
 by_cases hsy:w.sym=10
 rw[if_pos hsy]at hb
 simp[Gs.flag]at hb
 rw[if_neg hsy]at hb hc hf
 have hi:=xU h.ok hb hc h.hold
 rw[←h.vars]at hi
 rw[if_pos hi,if_pos Z]
 have hsl:w.sym<10:=by have:=h.sy;omega
 have hvl:=h.vl
 generalize r.cells.getD (aH s.index r.vars).toNat default=z
 have hmap:(w.vars.map fun u=>aH u (v.set w.sym z))=w.vars.map fun u=>aH u v:=List.map_congr_left fun u hu=>uP (h.vsup u hu)
 refine hf (v.set w.sym z) _ ⟨?_,?_,fun u hu=>?_,fun u hu=>?_,by rw[List.length_set];exact hvl,by show w.sym+1≤10;omega,h.out,sP h.ok (z3 hsl)⟩
 show r.vars.set s.var.toNat z=(w.vars.set s.var.toNat (iC w.sym)).map _
 rw[List.map_set,hmap,←h.vars,AQ (by rw[List.length_set];omega)]
 congr 1
 rw[List.getD_eq_getElem?_getD,List.getElem?_set,if_pos Z,if_pos (by omega)];rfl
 refine ql fun t ht=>?_
 rw[uP (h.fsup t ht)]
 exact m7 h.hold ht
 rcases List.mem_or_eq_of_mem_set hu with h1|h1
 exact Nat.le_succ_of_le (h.vsup u h1)
 rw[h1];simp[iC,nR]
 exact Nat.le_succ_of_le (h.fsup u hu)
 rw[if_neg h3]at hb hc hf
 rw[if_neg h3]
 by_cases h4:s.kind=4
 rw[if_pos h4]at hb hc hf
 rw[if_pos h4]
 have hi:=xU h.ok hb hc h.hold
 rw[←h.vars]at hi
 rw[if_pos hi]
 split
 rw[if_pos Z]
 exact hf v _ ⟨h.vars,h.hold,h.vsup,h.fsup,h.vl,h.sy,h.out,h.ok⟩
 rw[if_neg Bool.false_ne_true];exact no4
 rw[if_neg h4]at hb hc hf
 rw[if_neg h4]
 by_cases h5:s.kind=5
 rw[if_pos h5]at hb hc hf
 rw[if_pos h5,if_pos Z]
 exact hf v _ ⟨h.vars,h.hold,h.vsup,h.fsup,h.vl,h.sy,h.out,h.ok⟩
 rw[if_neg h5]at hb hc hf
 rw[if_neg h5]
 by_cases h6:s.kind=6
 rw[if_pos h6]at hb hc hf
 rw[if_pos h6]
 simp only[aU,Gs.flag,Gs.goal,Bool.or_eq_false_iff,Bool.not_eq_false']at hb
 have e:=jz (v:=v) h.ok hb.1.2
 have hg:=hc ⟨w.facts,(aG s.sum w.vars).1⟩ (by simp[Gs.goal,Gs.flag]) v h.hold
 simp only at hg
 rw[e,←h.vars]at hg
 rw[if_neg (show¬aH s.sum r.vars<0 by omega),if_pos Z]
 exact hf v _ (h.fact (by rw[e,←h.vars];exact hg) (pi h.vsup))
 rw[if_neg h6]at hb hc hf
 rw[if_neg h6,if_pos Z]
 exact hf v _ h
theorem AtS.four{v:List Int}{w:Pw}{r:RS}(h:AtS v w r)(h4:w.vars.length=4):r.vars.length=4:=by rw[h.vars,bA];exact h4
theorem qv{frm to:Int}{w:Pw}{fs:List Tm}{g:Gs}{v:List Int}{r:RS}(h:AtS v w r)(hb:(dy frm w to fs g).bad=false)(hc:VC (dy frm w to fs g).conds):cv fs r.vars=true:=by
 refine ql fun t ht=>?_
 have hb':(fs.foldl (bn w) g).bad=false:=by
  simp only[dy,ju,Bool.or_eq_false_iff]at hb
  exact hb.1
 obtain⟨h1,h2⟩:=r6 hb' t ht
 have:=hc _ h2 v h.hold
 simp only at this
 rw[jz h.ok h1,←h.vars]at this
 exact this
theorem ig{E:Pe}{frm:Int}: ∀{n:Nat} {R:List Fr} {w:Pw} {g:Gs},aF R<n→LG E R→w.vars.length=4→(eM bD E frm n R w g).bad=false→VC (eM bD E frm n R w g).conds→
    ∀(v:List Int) (r:RS),AtS v w r→Sf (kz R r) (KR E R)
 | 0,R,w,g,hn,hL,h4,hb,hc,v,r,h=>absurd hn (Nat.not_lt_zero _)
 | n + 1,R,w,g,hn,hL,h4,hb,hc,v,r,h=>by
  have hgb:=jE hb
  match R with
  | []=>
   rw[f5 hgb]at hb hc
   exact⟨fun _=>⟨qv h hb hc,h.out,h.four h4⟩,fun e=>(by cases e)⟩
  | .lp k::R=>
   rw[i8 hgb]at hb hc
   exact⟨fun _=>⟨qv h hb hc,h.out,h.four h4⟩,fun e=>(by cases e)⟩
  | .st (.node s a [x])::R=>
   rw[i7 hgb]at hb hc
   exact hL.1 r (h.four h4) h.out (qv h hb hc)
  | .st (.node s a [])::R=>
   rw[e9 hgb]at hb hc
   rw[yp]
   have hn':aF R<n:=by
    simp only[aF,Fr.nodes]at hn
    have:1≤(Tr.node s a []).nodes:=by simp[Tr.nodes]
    omega
   refine rQ fun h1=>yB (f:=kz R) (h.step h1) (jE hb) (hc.pre fo) fun v' r' h'=>?_
   exact ig (n:=n) hn' hL.2 (yA h4) hb hc v' r' h'
  | .st (.node s a [x,y])::R=>
   have hnn:(Tr.node s a [x,y]).nodes=1+(x.nodes+y.nodes):=by simp[Tr.nodes,Trs.nodes]
   simp only[aF,Fr.nodes]at hn
   have hLt:=hL.1
   rw[LT]at hLt
   by_cases hk:s.kind=1
   rw[if_pos hk]at hLt
   rw[f3 hgb hk]at hb hc
   rw[AY hk]
   exact ig (n:=n) (R:=.st x:: .st y::R) (by simp only[aF,Fr.nodes];omega) ⟨hLt.1,hLt.2,hL.2⟩ h4 hb hc v r h
   rw[if_neg hk]at hLt
   rw[i9 hgb hk]at hb hc
   unfold dC at hb hc
   generalize hg1:((aU w s.sum g).flag (!(aL (aG s.sum w.vars).1).2)).flag (w.fact (aG s.sum w.vars).1).long=g1 at hb hc
   have hyb:=jE hb
   have hg1b:=jE hyb
   rw[←hg1]at hg1b
   simp only[aU,Gs.flag,Bool.or_eq_false_iff,Bool.not_eq_false']at hg1b
   obtain⟨⟨⟨_,hs⟩,ho⟩,_⟩:=hg1b
   have e:=jz (v:=v) h.ok hs
   have eo:=qg (v:=v) eU ho
   rw[←h.vars]at e
   have hsl:=pi (t:=s.sum) h.vsup
   rw[Ct hk]
   refine rQ fun h1=>?_
   split
   rename_i hp
   exact ig (n:=n) (R:=.st x::R) (w:=w.fact (aG s.sum w.vars).1) (g:=g1) (by simp only[aF,Fr.nodes];omega) ⟨hLt.1,hL.2⟩ h4 hyb (hc.pre fo) v _ ((h.step h1).fact (by rw[e];exact hp) hsl)
   rename_i hp
   exact ig (n:=n) (R:=.st y::R) (w:=w.fact (aL (aG s.sum w.vars).1).1) (by simp only[aF,Fr.nodes];omega) ⟨hLt.2,hL.2⟩ h4 hb hc v _ ((h.step h1).fact (by rw[eo,e];omega) (xy hsl))
  | .st (.node s a (x::y::z::ks))::R=>exact hL.1.elim
theorem Ck{vars:List Int}(h:vars.length=4):vars=(mA 4).map fun u=>aH u (vars++[0,0,0,0,0,0]):=by
 obtain⟨a,b,c,d,e⟩:=four h
 rw[e]
 show[a,b,c,d]=[aH (iC 0) _,aH (iC 1) _,aH (iC 2) _,aH (iC 3) _]
 simp[aH,iC,dI,List.replicate]
theorem xR: ∀{xs ys zs:List Int},xs.length≤ys.length→dI xs (ys++zs)=dI xs ys
 | [],ys,zs,h=>by rw[dU,dU]
 | x::xs,[],zs,h=>by simp at h
 | x::xs,y::ys,zs,h=>by
  rw[List.cons_append];simp only[dI]
  rw[xR (by simpa using h)]
theorem xn{fs:List Tm}{r:RS}(h4:r.vars.length=4)(h0:r.out=0)(ht: ∀t∈fs,t.term=true)(hh:cv fs r.vars=true):AtS (r.vars++[0,0,0,0,0,0]) (w0 fs) r:=
  ⟨Ck h4,ql fun t hm=>by
 have:=m7 hh hm
 unfold aH at this ⊢
 rw[xR (by rw[h4];exact oM (ht t hm))]
 exact this,(show∀u∈mA 4,u.xs.length≤4 by decide),fun u hu=>oM (ht u hu),by simp[h4],(show 4≤10 by decide),h0,(show∀u∈mA 4,u.ok=true by decide)⟩
structure CondOK(N:Nat)(E:Pe)(q:Lp)(k:Nat):Prop where
  good:(dC (eM bD E k N [.st q.x,.lp k]) (eM bD E k N q.r) (w0 q.s.facts) (aG q.s.sum (mA 4)).1 (aU (w0 q.s.facts) q.s.sum g0)).bad=false
  vc:VC (dC (eM bD E k N [.st q.x,.lp k]) (eM bD E k N q.r) (w0 q.s.facts) (aG q.s.sum (mA 4)).1 (aU (w0 q.s.facts) q.s.sum g0)).conds
  terms: ∀t∈q.s.facts,t.term=true
  lf:E.lf k=q.s.facts
  nx:q.x.nodes≤30
  nr:aF q.r≤30
theorem qI{N:Nat}(hN:31≤N){E:Pe}{s:Sm}{a:Nat}{x:Tr}{R:List Fr}{k:Nat}(hC:CondOK N E ⟨s,a,x,R⟩ k)(hx:LG E [.st x,.lp k])(hR:LG E R) :
    ∀(m:Nat) (r:RS),r.vars.length=4→r.out=0→cv s.facts r.vars=true→Sf (if(dQ s (aW x) m r).1=true then kz R (dQ s (aW x) m r).2 else(false,(dQ s (aW x) m r).2)) (KR E R)
 | 0,r,h4,h0,hh=>by
  rw[dQ,if_neg Bool.false_ne_true]
  exact⟨fun e=>(by cases e),fun _=>.inl rfl⟩
 | m+1,r,h4,h0,hh=>by
  have hb:=hC.good
  have hc:=hC.vc
  unfold dC at hb hc
  simp only at hb hc
  generalize hg1:((aU (w0 s.facts) s.sum g0).flag (!(aL (aG s.sum (mA 4)).1).2)).flag ((w0 s.facts).fact (aG s.sum (mA 4)).1).long=g1 at hb hc
  have hyb:=jE hb
  have hg1b:=jE hyb
  rw[←hg1]at hg1b
  simp only[aU,Gs.flag,Bool.or_eq_false_iff,Bool.not_eq_false']at hg1b
  obtain⟨⟨⟨_,hs⟩,ho⟩,_⟩:=hg1b
  have h:=xn h4 h0 hC.terms hh
  have e:=jz (v:=r.vars++[0,0,0,0,0,0]) h.ok hs
  have eo:=qg (v:=r.vars++[0,0,0,0,0,0]) (eU (t:=s.sum) (vs:=mA 4)) ho
  rw[←h.vars]at e
  have e':aH (aG s.sum (mA 4)).1 (r.vars++[0,0,0,0,0,0])=aH s.sum r.vars:=e
  have hsl:(aG s.sum (mA 4)).1.xs.length≤4:=pi h.vsup
  have hnx:x.nodes≤30:=hC.nx
  have hnr:aF R≤30:=hC.nr
  have hE:dQ s (aW x) (m+1) r=if r.steps=r.fuel then(false,{r with out:=1})else if aH s.sum r.vars<0 then(true,{r with steps:=r.steps+1})else if(aW x {r with steps:=r.steps+1}).1=true then dQ s (aW x) m (aW x {r with steps:=r.steps+1}).2 else(false,(aW x {r with steps:=r.steps+1}).2):=by rw[dQ]
  rw[hE]
  have hst:AtS (r.vars++[0,0,0,0,0,0]) (w0 s.facts) {r with steps:=r.steps+1}:=⟨h.vars,h.hold,h.vsup,h.fsup,h.vl,h.sy,h.out,h.ok⟩
  by_cases hf:r.steps=r.fuel
  rw[if_pos hf,if_neg Bool.false_ne_true]
  exact⟨fun e=>(by cases e),fun _=>.inl rfl⟩
  rw[if_neg hf]
  by_cases hp:aH s.sum r.vars<0
  rw[if_pos hp,if_pos Z]
  exact ig (n:=N) (by omega) hR Z hb hc _ _ (hst.fact (by rw[eo,e'];omega) (xy hsl))
  rw[if_neg hp]
  have hB:=ig (n:=N) (R:=[.st x,.lp k]) (by simp only[aF,Fr.nodes];omega) hx Z hyb (hc.pre fo) _ _ (hst.fact (t:=(aG s.sum (mA 4)).1) (by rw[e'];omega) hsl)
  rw[show kz [.st x,.lp k] {r with steps:=r.steps+1}=if(aW x {r with steps:=r.steps+1}).1=true then(true,(aW x {r with steps:=r.steps+1}).2)else(false,(aW x {r with steps:=r.steps+1}).2)from Z]at hB
  by_cases h1:(aW x {r with steps:=r.steps+1}).1=true
  rw[if_pos h1]at hB ⊢
  obtain⟨b1,b2,b3⟩:=hB.yes rfl
  have b1':cv (E.lf k) (aW x {r with steps:=r.steps+1}).2.vars=true:=b1
  rw[hC.lf]at b1'
  exact qI hN hC hx hR m _ b3 b2 b1'
  rw[if_neg h1]at hB ⊢
  rw[if_neg Bool.false_ne_true]
  exact⟨fun e=>(by cases e),fun _=>hB.no rfl⟩
def gY:Tr→Prop
  | .node s a [x,y]=>gY x∧gY y
  | .node s a [x]=>0≤a∧gY x
  | .node s a []=>True
  | _=>False
theorem fV{N:Nat}(hN:31≤N){E:Pe}{b:List Sm}: ∀{t:Tr} {R:List Fr},gY t→LG E R→(∀q∈aY b t R,CondOK N E q (bb b q.a))→LT E t R
 | .node s a [x,y],R,hk,hR,hq=>by
  rw[LT]
  rw[ew]at hq
  rw[gY]at hk
  by_cases h1:s.kind=1
  rw[if_pos h1]at hq ⊢
  have hy:=fV hN (b:=b) hk.2 hR (fun q h=>hq q (List.mem_append_right _ h))
  exact⟨fV hN (b:=b) hk.1 ⟨hy,hR⟩ (fun q h=>hq q (List.mem_append_left _ h)),hy⟩
  rw[if_neg h1]at hq ⊢
  exact⟨fV hN (b:=b) hk.1 hR (fun q h=>hq q (List.mem_append_left _ h)),fV hN (b:=b) hk.2 hR (fun q h=>hq q (List.mem_append_right _ h))⟩
 | .node s a [x],R,hk,hR,hq=>by
  rw[LT]
  rw[jJ]at hq
  rw[gY]at hk
  have hx:=fV hN (b:=b) (t:=x) (R:=[.lp (bb b a.toNat)]) hk.2 trivial (fun q h=>hq q (List.mem_cons_of_mem _ h))
  have hC:=hq _ (List.mem_cons_self ..)
  intro r h4 h0 hh
  simp only[kz]
  rw[ur]
  exact qI hN hC ⟨hx,tv⟩ hR _ r h4 h0 hh
 | .node s a [],R,hk,hR,hq=>by rw[LT];trivial
 | .node s a (x::y::z::ks),R,hk,hR,hq=>by rw[gY]at hk<;>simp_all
theorem pu{b:List Sm}: ∀{t:Tr} {k k':Nat},ci b k=some (t,k')→gY t
 | .node s a [x,y],k,k',h=>by
  obtain⟨e1,rfl,e3,e4,e5⟩:=cd h
  obtain⟨k1,i1,i2⟩:=bZ e4
  obtain⟨k2,i3,i4⟩:=bZ i2
  rw[gY];exact⟨pu i1,pu i3⟩
 | .node s a [x],k,k',h=>by
  obtain⟨e1,rfl,e3,e4,e5⟩:=cd h
  obtain rfl:=cY h
  obtain⟨k1,i1,i2⟩:=bZ e4
  rw[gY];exact⟨by omega,pu i1⟩
 | .node s a [],k,k',h=>by rw[gY];trivial
 | .node s a (x::y::z::ks),k,k',h=>by
  obtain⟨e1,rfl,e3,e4,e5⟩:=cd h
  have h2:=(cN (b.getD k default).kind).2
  simp only[dW]at e5
  omega
theorem wh{s:Sm}(h:bi s=true): ∀t∈s.facts,t.term=true:=by
 refine lK (n:=6) ?_
 unfold bi rv at h
 cases ht:terms s.facts 6 with
 | true=>rfl
 | false=>rw[ht]at h;cases s.sum.term<;>cases s.index.term<;>cases decide (0≤s.kind)<;>cases decide (s.kind≤8)<;>simp at h
theorem Be{p:Pm}{t:Tr}(ht:PtOk p t){q:Lp}(hq:q∈aY p.body t []):bb p.body q.a<bb p.body p.body.length∧(aY p.body t []).getD (bb p.body q.a) default=q:=by
 have h:=(wY ht.tree (r:=[])).num
 have hl:=congrArg List.length h
 have h0:bb p.body 0=0:=rfl
 rw[bA,List.length_range',h0]at hl
 obtain⟨i,hi,rfl⟩:=List.mem_iff_getElem.1 hq
 have hg:((aY p.body t []).map (fun q=>bb p.body q.a))[i]'(by rw[bA];exact hi)=i:=by
  simp only[h,List.getElem_range'];omega
 rw[List.getElem_map]at hg
 rw[hg]
 exact⟨by omega,aw hi⟩
theorem qZ{p:Pm}{t:Tr}{N:Nat}(hgood:(f8 p t N).bad=false)(hvc:VC (f8 p t N).conds){n:Nat}(hn:n+1≤N):(kD bD p t n g0).bad=false∧VC (kD bD p t n g0).conds:=by
 obtain⟨a1,a2,a3⟩:=x3 (tE hgood hn)
 refine⟨a1,fun s hs=>hvc s ?_⟩
 have:=(AC hn hgood).2
 rw[a3]at this
 exact this.subset (List.mem_append_right _ hs)
theorem yy{p:Pm}{t:Tr}(ht:PtOk p t)(hgood:(f8 p t (bb p.body p.body.length+1)).bad=false)(hvc:VC (f8 p t (bb p.body p.body.length+1)).conds){q:Lp}(hq:q∈aY p.body t []):CondOK 31 (tS p.body p.post) q (bb p.body q.a):=by
 obtain⟨hn,hg⟩:=Be ht hq
 have hL:=wY ht.tree (r:=[])
 obtain⟨h1,h2,h3,h4⟩:=hL.at_ q hq
 obtain⟨h5,h6⟩:=hL.size q hq
 have hnd:=ht.nodes
 have hr0:aF []=0:=rfl
 obtain⟨a1,a2⟩:=qZ hgood hvc (n:=bb p.body q.a+1) (by omega)
 rw[kD,cL,hg]at a1 a2
 exact⟨a1,a2,by rw[h4];exact wh (ht.st _ h2),by rw[ht.e.lf _ h2 h3,h4],by omega,by omega⟩
theorem AX{p:Pm}{t:Tr}(ht:PtOk p t)(hgood:(f8 p t (bb p.body p.body.length+1)).bad=false)(hvc:VC (f8 p t (bb p.body p.body.length+1)).conds){r:RS}(h4:r.vars.length=4)(h0:r.out=0)(hh:cv p.pre r.vars=true) :
    Sf (aW t r) (fun r=>cv p.post r.vars=true):=by
 have hLT:LT (tS p.body p.post) t []:=fV (cQ 31) (b:=p.body) (pu ht.tree) trivial (fun q hq=>yy ht hgood hvc hq)
 obtain⟨a1,a2⟩:=qZ hgood hvc (n:=0) (by omega)
 rw[kD,cL]at a1 a2
 have hn:=ht.nodes
 have hS:=ig (n:=31) (R:=[.st t]) (by simp only[aF,Fr.nodes];omega) ⟨hLT,tv⟩ Z a1 a2 _ r (xn h4 h0 (lK ht.pre) hh)
 rw[show kz [.st t] r=if(aW t r).1=true then(true,(aW t r).2)else(false,(aW t r).2)from Z]at hS
 cases h:(aW t r).1 with
 | true=>
  rw[if_pos h]at hS
  exact⟨fun _=>hS.yes rfl,fun e=>(by rw[h]at e;cases e)⟩
 | false=>
  rw[if_neg (by rw[h];decide)]at hS
  exact⟨fun e=>(by rw[h]at e;cases e),fun _=>hS.no rfl⟩
theorem Hh{C:List Sq}{b:Int}(hc:gU C=true)(hp: ∀s∈C,(cz s b).2=true):VC C:=fun s hs v hv=>
  wo (List.all_eq_true.1 (lv hc).1 s hs) (hp s hs) hv
theorem C3{C:List Sq}{b:Int}(hb:kB b=true)(hc:gU C=true)(hp: ∀s∈C,(cz s b).2=true):sN C (C.map fun s=>(cz s b).1)=true:=by
 have hq:=(lv hc).1
 have hb60:b≤60:=by unfold kB at hb;simp only[bC,decide_eq_true_eq]at hb;exact hb.2
 have hl:(C.length:Int)≤60:=by
  unfold gU at hc
  simp only[bC,decide_eq_true_eq]at hc
  exact hc.2
 unfold sN
 rw[decide_eq_true hl,Bool.true_and]
 refine rV (bA _) fun j hj=>?_
 rw[aw hj,aw (by rw[bA];exact hj),List.getElem_map]
 exact(A3 (List.all_eq_true.1 hq _ (List.getElem_mem hj)) hb60 (hp _ (List.getElem_mem hj))).1
theorem EY(h0:(bif decide ((1048576:Int)<xs.length)then true else decide ((1048576:Int)<ys.length))=true):MQ h1 h2 4 [.c (.d (bys xs)),.c (.d (bys ys))] [] (Plain (eB true)):=by
 refine MC.data (jB 100 h1 h2 Tryz.func4 Z fun O hF=>?_)
 refine ac (js Z (jn (ae (ac (jb Z (lo Z (xd (xs:=xs) (ys:=ys) h1 h2) 20000 Z (jn (zc Z (fun z19=>?_) (fun z19=>?_)))))))))
 refine ac (js Z (jr ?_))
 refine eR Z ?_
 exact .v (.c .d)
 exact absurd z19 (by rw[h0];decide)
variable{p:Pm}{d2:D}
theorem Aw(h0:(bif decide ((1048576:Int)<xs.length)then true else decide ((1048576:Int)<ys.length))=false)(hB:MQ h1 h2 14 [.c (.d (bys xs))] [] (Plain (ky p)))(hy: ∀n∈ys,0≤n∧n≤255)(hpt: ∀t∈p.pre,t.term=true)(hC:MQ h1 h2 15 [ky p] [] (Rows (.tup [.c (.d .nils),eB false]) []))(hQ:MQ h1 h2 16 [ky p,eI 60] [] (Rows (.tup [.c (.d .nils),eB false]) []))(hS:MQ h1 h2 17 [ky p,eI 60] [] (Plain (.tup [.c (.d d2),eB false]))):MQ h1 h2 4 [.c (.d (bys xs)),.c (.d (bys ys))] [] (Plain (eB true)):=by
 refine MC.data (jB 100 h1 h2 Tryz.func4 Z fun O hF=>?_)
 refine ac (js Z (jn (ae (ac (jb Z (lo Z (xd (xs:=xs) (ys:=ys) h1 h2) 20000 Z (jn (zc Z (fun z19=>?_) (fun z19=>?_)))))))))
 exact absurd z19 (by rw[h0];decide)
 refine af (ac (js Z (aj O Z Z Z Z (hB) (ab Z) Z Z Z Z (B0:=22000) Z Z (jl Z (am ?_)))))
 refine jo Z (am ?_)
 refine aN (js Z (bS O (B0:=25000) Z Z Z Z (hC) (ab Z) Z Z Z Z Z Z (am ?_)))
 refine jd Z (js Z (aN (js Z (bS O (B0:=30000) Z Z Z Z (hQ) (ab Z) Z Z Z Z Z Z (am ?_)))))
 refine jd Z (js Z (aN (js Z (aj O Z Z Z Z (hS) (ab Z) Z Z Z Z (B0:=35000) Z Z (jd Z (js Z (jn (ae (ac (jd Z (ba Z (js Z (ba Z (js Z (sk Z (sk Z (sk Z (cO Z Z Z Z Z (cO Z Z Z Z Z (cO Z Z Z Z Z (cO Z Z Z Z Z (sk Z (ba Z (st (aI O Z Z Z Z Z) Z (st (aI O Z Z Z Z Z) Z (jn (zc Z (fun z52=>?_) (fun z52=>?_))))))))))))))))))))))))))))
 exact absurd z52 (by decide)
 refine af (ac (jc Z (aj O Z Z Z Z (zN (ys:=ys) (ts:=p.pre) h1 h2 hy hpt) (ab Z) Z Z Z Z (B0:=57000) Z Z (jl Z (am ?_)))))
 refine jo Z (am ?_)
 refine jn (ae (ac (jc Z (sk Z (sk Z (sk Z (sk Z (sk Z (sk Z (st (aV O Z Z Z Z Z) Z (jn (zc Z (fun z66=>?_) (fun z66=>?_)))))))))))))
 refine ac (js Z (jr ?_))
 refine eR Z ?_
 exact .v (.c .d)
 exact absurd z66 (by decide)
variable{C:List Sq}
theorem EX(h0:(bif decide ((1048576:Int)<xs.length)then true else decide ((1048576:Int)<ys.length))=false)(hB:MQ h1 h2 14 [.c (.d (bys xs))] [] (Plain (ky p)))(hy: ∀n∈ys,0≤n∧n≤255)(hpt: ∀t∈p.pre,t.term=true)(hC:MQ h1 h2 15 [ky p] [] (Rows (.tup [.c (.rs 0 0 C.length),eB true]) [aK C]))(hQ:MQ h1 h2 16 [ky p,eI 60] [] (Rows (.tup [.c (.d .nils),eB false]) []))(hS:MQ h1 h2 17 [ky p,eI 60] [] (Plain (.tup [.c (.d d2),eB false]))):MQ h1 h2 4 [.c (.d (bys xs)),.c (.d (bys ys))] [] (Plain (eB true)):=by
 refine MC.data (jB 100 h1 h2 Tryz.func4 Z fun O hF=>?_)
 refine ac (js Z (jn (ae (ac (jb Z (lo Z (xd (xs:=xs) (ys:=ys) h1 h2) 20000 Z (jn (zc Z (fun z19=>?_) (fun z19=>?_)))))))))
 exact absurd z19 (by rw[h0];decide)
 refine af (ac (js Z (aj O Z Z Z Z (hB) (ab Z) Z Z Z Z (B0:=22000) Z Z (jl Z (am ?_)))))
 refine jo Z (am ?_)
 refine aN (js Z (bS O (B0:=25000) Z Z Z Z (hC) (ab Z) Z Z Z Z Z Z (am ?_)))
 refine jd Z (js Z (aN (js Z (bS O (B0:=30000) Z Z Z Z (hQ) (ab Z) Z Z Z Z Z Z (am ?_)))))
 refine jd Z (js Z (aN (js Z (aj O Z Z Z Z (hS) (ab Z) Z Z Z Z (B0:=35000) Z Z (jd Z (js Z (jn (ae (ac (jd Z (ba Z (js Z (ba Z (js Z (sk Z (sk Z (sk Z (cO Z Z Z Z Z (cO Z Z Z Z Z (cO Z Z Z Z Z (cO Z Z Z Z Z (sk Z (ba Z (st (aI O Z Z Z Z Z) Z (st (aI O Z Z Z Z Z) Z (jn (zc Z (fun z52=>?_) (fun z52=>?_))))))))))))))))))))))))))))
 exact absurd z52 (by decide)
 refine af (ac (jc Z (aj O Z Z Z Z (zN (ys:=ys) (ts:=p.pre) h1 h2 hy hpt) (ab Z) Z Z Z Z (B0:=57000) Z Z (jl Z (am ?_)))))
 refine jo Z (am ?_)
 refine jn (ae (ac (jc Z (sk Z (sk Z (sk Z (sk Z (sk Z (sk Z (st (aV O Z Z Z Z Z) Z (jn (zc Z (fun z66=>?_) (fun z66=>?_)))))))))))))
 refine ac (js Z (jr ?_))
 refine eR Z ?_
 exact .v (.c .d)
 exact absurd z66 (by decide)
theorem Ic{vs cs ev:List Int}{qs:List (List Nd)}{o:Int}(h0:(bif decide ((1048576:Int)<xs.length)then true else decide ((1048576:Int)<ys.length))=false)(hB:MQ h1 h2 14 [.c (.d (bys xs))] [] (Plain (ky p)))(hy: ∀n∈ys,0≤n∧n≤255)(hpt: ∀t∈p.pre,t.term=true)(hC:MQ h1 h2 15 [ky p] [] (Rows (.tup [.c (.rs 0 0 C.length),eB true]) [aK C])){m:Nat}(hm:m=qs.length)(hQ:MQ h1 h2 16 [ky p,eI 60] [] (Rows (.tup [.c (.rs 0 0 m),eB true]) [pX qs]))(hS:MQ h1 h2 17 [ky p,eI 60] [] (Plain (.tup [.c (.d d2),eB true])))(hRun:MQ h1 h2 10 [ky p,GJ (nL ys p.pre),eI 600] [] (Rows (.tup [.agg [.rs 0 0 4,.rs 1 0 8],.c (.rs 2 0 ev.length),eI o,eB true]) [aE vs,aE cs,aE ev]))(hv4:vs.length=4)(z8:cs.length=8)(hare:sN C qs=true)(hnv:cP vs 4=true)(hqt: ∀t∈p.post,t.term=true)(hsafe:cv p.pre (nL ys p.pre).vars=true→o≠2∧o≠3∧(o=0→cv p.post vs=true)):MQ h1 h2 4 [.c (.d (bys xs)),.c (.d (bys ys))] [] (Plain (eB true)):=by
 refine MC.data (jB 100 h1 h2 Tryz.func4 Z fun O hF=>?_)
 subst hm
 refine ac (js Z (jn (ae (ac (jb Z (lo Z (xd (xs:=xs) (ys:=ys) h1 h2) 20000 Z (jn (zc Z (fun z19=>?_) (fun z19=>?_)))))))))
 exact absurd z19 (by rw[h0];decide)
 refine af (ac (js Z (aj O Z Z Z Z (hB) (ab Z) Z Z Z Z (B0:=22000) Z Z (jl Z (am ?_)))))
 refine jo Z (am ?_)
 refine aN (js Z (bS O (B0:=25000) Z Z Z Z (hC) (ab Z) Z Z Z Z Z Z (am ?_)))
 refine jd Z (js Z (aN (js Z (bS O (B0:=30000) Z Z Z Z (hQ) (ab Z) Z Z Z Z Z Z (am ?_)))))
 refine jd Z (js Z (aN (js Z (aj O Z Z Z Z (hS) (ab Z) Z Z Z Z (B0:=35000) Z Z (jd Z (js Z (jn (ae (ac (an (ah [5,25000,30000] (e':=[(1,_),(5,_),(6,_),(7,_),(8,_),(9,_),(11,_)]) Z Z ⟨Z,Z,Z,Z,Z,Z,Z,tv⟩ Z) (an (Ent.freeze 25000 (e':=[(1,_),(5,_),(6,_),(7,_),(8,_),(9,_),(11,_)]) Z (.cons Z (.keep Z) (.cons Z (.keep Z) (.cons Z (.c (.row Z (bA _).symm)) (fe [7,8,9,11] Z)))) (cb Z (.skip (cw Z .nil)))) ?_)))))))))))
 refine an (Ent.freeze 30000 (e':=[(1,_),(5,_),(6,_),(7,_),(8,_),(9,_),(11,_)]) Z (.cons Z (.keep Z) (.cons Z (.keep Z) (.cons Z (.keep Z) (.cons Z (.keep Z) (.cons Z (.c (.row Z (bA _).symm)) (fe [9,11] Z)))))) (cb Z (.skip .nil))) ?_
 refine jd Z (ba Z (js Z (ba Z (js Z (ba Z (js Z (ba Z (js Z (ba Z (js Z (ba Z (js Z (ba Z (js Z (ba Z (lo Z ((c47 (ss:=C) (ps:=qs) h1 h2).plain (u:=eB true) (by rw[hare])) 49000 Z (ba Z (js Z (ba Z (st (aI O Z Z Z Z Z) Z (ba Z (st (aV O Z Z Z Z Z) Z (st (aI O Z Z Z Z Z) Z (jn (zc Z (fun z52=>?_) (fun z52=>?_))))))))))))))))))))))))))
 exact absurd z52 (by decide)
 refine af (ac (jc Z (aj O Z Z Z Z (zN (ys:=ys) (ts:=p.pre) h1 h2 hy hpt) (ab Z) Z Z Z Z (B0:=57000) Z Z (jl Z (am ?_)))))
 refine jo Z (am ?_)
 refine jn (ae (ac (jc Z (ba Z (js Z (ba Z (js Z (ba Z (js Z (ba Z (js Z (ba Z (lo Z (DF (ts:=p.pre) (vars:=(nL ys p.pre).vars) h1 h2 hpt (AU (xX hy))) 65000 Z (ba Z (js Z (st (aI O Z Z Z Z Z) Z (jn (zc Z (fun z66=>?_) (fun z66=>?_)))))))))))))))))))
 refine ac (js Z (jr ?_))
 refine eR Z ?_
 exact .v (.c .d)
 refine af (ac ?_)
 have hho:cv p.pre (nL ys p.pre).vars=true:=by have h9:(!cv p.pre (nL ys p.pre).vars)=false:=z66;simpa using h9
 obtain⟨hs1,hs2,hs3⟩:=hsafe hho
 refine jb Z (bS O (B0:=71000) Z Z Z Z (hRun) (ab Z) Z Z Z Z Z Z (am ?_))
 refine jd Z (js Z (jl Z (am ?_)))
 refine jo Z (am ?_)
 refine jc Z (jn (ae (ac (jc Z (ba Z (js Z (ba Z (st ((V Z).cast (v':=eB false) (congrArg eB (decide_eq_false hs1))) Z (st (aI O Z Z Z Z Z) Z (js Z (ba Z (js Z (ba Z (st ((V Z).cast (v':=eB false) (congrArg eB (decide_eq_false hs2))) Z (st (aI O Z Z Z Z Z) Z (jn (zc Z (fun z84=>?_) (fun z84=>?_))))))))))))))))))
 exact absurd z84 (by decide)
 refine af (ac (an (ah [5,13,71000,71001] (e':=[(5,_),(13,_),(15,_)]) Z Z ⟨Z,Z,Z,tv⟩ Z) (an (Ent.freeze 71000 (e':=[(5,_),(13,_),(15,_)]) Z (fe [5,13,15] Z) (cb Z (.cons Z (.box (.cons (.row Z (by rw[bA,hv4])) (fk Z))) (.skip (cw Z .nil))))) ?_)))
 refine an (Ent.freeze 71001 (e':=[(5,_),(13,_),(15,_)]) Z (fe [5,13,15] Z) (cb Z (.cons Z (.box (ck Z (.cons (.row Z (by rw[bA,z8])) .nil))) (.skip .nil)))) ?_
 refine jc Z ?_
 cases hb88:(!decide (o=0))with
 | true=>
  refine sk Z (sk Z (sk Z (sk Z (sk Z (cO Z Z Z Z Z (cO Z Z Z Z Z (cO Z Z Z Z Z (cO Z Z Z Z Z (cO Z Z Z Z Z (sk Z (st (aV O Z Z Z Z Z) Z (js Z (jr ?_)))))))))))))
  refine eR Z ?_
  exact .v (.c .d)
 | false=>
  have ho0:o=0:=by simpa using hb88
  refine ba Z (js Z (ba Z (js Z (ba Z ?_))))
  first|refine cW Z ?_|refine js Z ?_|refine db Z Z ?_
  refine ba Z (st ((V Z).cast (v':=eB true) (congrArg eB (by simp[hv4]))) Z (ba Z (js Z (ba Z (js Z (ba Z (js Z (ba Z (js Z (ba Z (js Z (ba Z (lo Z ((DF (ts:=p.post) (vars:=vs) h1 h2 hqt hnv).plain (u:=eB true) (by rw[hs3 ho0])) 98000 Z (ba Z (st (aV O Z Z Z Z Z) Z (st (aI O Z Z Z Z Z) Z (js Z (jr ?_))))))))))))))))))
  refine eR Z ?_
  exact .v (.c .d)
theorem Fh{L:Nat}(h1:4096≤L)(h2:L≤9223372036854775807){xs ys:List Int}:MC Tryz.prog L 5 [.c (.d (bys xs)),.c (.d (bys ys))] [] (Plain (eB (bif decide ((1048576:Int)<xs.length)then true else decide ((1048576:Int)<ys.length)))):=by
 refine aB ?_ Z
 have O:=Ce (nt:=13) h1 h2
 refine MC.body O Tryz.func5 (by kernel_rfl) Z Z (Nat.le_of_ble_eq_true Z) (fun hF=>?_)
 refine ac (js Z (aN (js Z ?_)))
 first|refine cW Z ?_|refine js Z ?_|refine db Z Z ?_
 refine jb Z (ar 3 Z Z Z (fun hx=>nz hx Z (ny hx (bP O Z Z Z Z Z Z Z Z) Z (nz hx Z (AN.nil)))) Z Z ?_)
 first|refine st (ay O Z Z Z Z Z) Z ?_|refine st (Val.pickB O Z Z Z Z Z) Z ?_|refine st (aq O Z Z Z Z Z) Z ?_
 refine js Z (jr ?_)
 refine eR Z ?_
 rfl
theorem EZ{L:Nat}(h1:4096≤L)(h2:L≤9223372036854775807){xs ys:List Int}(h0:(bif decide ((1048576:Int)<xs.length)then true else decide ((1048576:Int)<ys.length))=true):MC Tryz.prog L 4 [.c (.d (bys xs)),.c (.d (bys ys))] [] (Plain (eB true)):=by
 refine MC.data ?_
 have O:=Ce (nt:=100) h1 h2
 refine MC.body O Tryz.func4 (by kernel_rfl) Z Z (Nat.le_of_ble_eq_true Z) (fun hF=>?_)
 refine ac (js Z (jn (ae (ac (jb Z (lo Z (Fh (xs:=xs) (ys:=ys) h1 h2) 20000 Z (jn (zc Z (fun z19=>?_) (fun z19=>?_)))))))))
 refine ac (js Z (jr ?_))
 refine eR Z ?_
 exact .v (.c .d)
 exact absurd z19 (by rw[h0];decide)
theorem Bf{xs ys:List Int}(hx: ∀n∈xs,0≤n∧n≤255)(hy: ∀n∈ys,0≤n∧n≤255):MC Tryz.prog 1073741824 4 [.c (.d (bys xs)),.c (.d (bys ys))] [] (Plain (eB true)):=by
 cases h0:(bif decide ((1048576:Int)<xs.length)then true else decide ((1048576:Int)<ys.length))with
 | true=>exact EY (by decide) (cQ _) h0
 | false =>
  have hp:=C1 hx
  have hB:=Ig (L:=1073741824) (by decide) (cQ _) hx
  generalize Ca xs=p at hp hB
  obtain⟨t,ht,htd⟩:=HJ hp
  have hv:gt p=true:=by rw[←xx];exact hp
  have hpt:=lK ht.pre
  have hqt:=lK ht.post
  have hlen:=ht.len
  have hnl:=gB (b:=p.body) (k:=p.body.length)
  obtain⟨he,hpl⟩:=zV (p:=p) (t:=t) (bb p.body p.body.length+1)
  have hP:=IS (L:=1073741824) (by decide) (cQ _) (by decide) ht
  have hA:=Iv (L:=1073741824) (by decide) (cQ _) ht (by decide)
  have hgo:=(AD ht (bb p.body p.body.length+1) (cQ _)).1
  have hrs:=fun(hb:(f8 p t (bb p.body p.body.length+1)).bad=false) (hvc:VC (f8 p t (bb p.body p.body.length+1)).conds) (r:RS)=>AX ht hb hvc (r:=r)
  generalize f8 p t (bb p.body p.body.length+1)=x at he hpl hP hrs
  generalize iy p t (bb p.body p.body.length+1)=y at he hA hgo
  have hb:kB 60=true:=by decide
  cases hx:x.bad with
  | true=>
   rw[hx]at hP
   rw[show y.bad=true from he.bad ▸ hx]at hA
   have hC:=F7 (by decide) (cQ _) (FW (by decide) (cQ _) hv htd ht hP)
   exact Aw (by decide) (cQ _) h0 hB hy hpt hC (Ax (by decide) (cQ _) hC) (Fg (by decide) (cQ _) hp hb hA)
  | false=>
   have e:=he.eq hx
   subst e
   rw[hx]at hP hA
   have hgl:x.conds.length≤600000000:=by
    have:(bb p.body p.body.length+1)*16252928≤31*16252928:=Nat.mul_le_mul_right _ (by omega)
    omega
   have hV:=FV (by decide) (cQ _) hv htd ht hP
   cases hc:gU x.conds with
   | false=>
    have hC:=F6 (by decide) (cQ _) hV (by omega) hc
    exact Aw (by decide) (cQ _) h0 hB hy hpt hC (Ax (by decide) (cQ _) hC) (Ff (by decide) (cQ _) hp hb hA hc)
   | true=>
    have hY:=F5 (by decide) (cQ _) hV (by omega) hc
    obtain⟨hq3,hq4⟩:=lv hc
    by_cases hn:(i5 60 x.conds).length<x.conds.length
    exact EX (by decide) (cQ _) h0 hB hy hpt hY (E9 (by decide) (cQ _) hY (CW (by decide) (cQ _) hc hb hn)) (Fe (by decide) (cQ _) hp hb hA hc hn)
    have hps:=sq hn
    have hvv: ∀s∈x.conds,(jm s 60).2=true:=fun s hs=>by rw[pV (List.all_eq_true.1 hq3 s hs) hb];exact hps s hs
    have hee:(x.conds.map fun s=>(cz s 60).1)=x.conds.map fun s=>(jm s 60).1:=
     List.map_congr_left fun s hs=>by rw[pV (List.all_eq_true.1 hq3 s hs) hb]
    have hare:=C3 hb hc hps
    rw[hee]at hare
    have htb:vv p.body=true:=by
     have h:=hv
     unfold gt at h;simp only[bC]at h;exact h.1
    have hs:=xX (ts:=p.pre) hy
    have hRun:=J2 (L:=1073741824) (by decide) (cQ _) (p:=p) (s:=nL ys p.pre) (f:=600) hv hs (by decide)
    have htr:kF p.body=t:=by unfold kF;rw[show DY p.body=some (t,p.body.length)from ht.tree]
    have hto:=(qJ htb).1
    rw[htr]at hRun hto
    have hr0:=Dm hs (show eW 0 2000 600=true by decide)
    have hok:=(lw hto hr0).ok
    have hS:=hrs hx (Hh hc hps) (r0 (nL ys p.pre) 600) hr0.nv Z
    exact Ic (by decide) (cQ _) h0 hB hy hpt hY (bA _).symm (E8 (by decide) (cQ _) hY (F8 (by decide) (cQ _) hc hb hvv)) (Fa (by decide) (cQ _) hp hb hA hc hn) hRun hok.nv hok.nc hare hok.vars hqt fun hh=>by
     have hS:=hS hh
     cases h:(aW t (r0 (nL ys p.pre) 600)).1 with
     | true=>
       obtain⟨a,b,c⟩:=hS.yes h
       rw[b]
       exact⟨by decide,by decide,fun _=>a⟩
     | false=>
       rcases hS.no h with e|e<;>rw[e]<;>exact⟨by decide,by decide,fun h=>absurd h (by decide)⟩
theorem qD{L M:Nat}: ∀{xs:List Int},Dss.fact L (List.map (fun n=>[D.int IntKind.u8 n]) xs)→Dss.fact M (List.map (fun n=>[D.int IntKind.u8 n]) xs)
 | [],_=>trivial
 | x::xs,h=>by
  have ih:=qD (L:=L) (M:=M) (xs:=xs)
  simp only[List.map_cons,Dss.fact,Ds.fact,D.fact]at h ⊢
  exact⟨h.1,ih h.2⟩
theorem law1314{L:Nat}(h1:4096≤L)(h2:L≤9223372036854775807){xs ys:List Int}(hx: ∀n∈xs,0≤n∧n≤255)(hy: ∀n∈ys,0≤n∧n≤255):MC Tryz.prog L 4 [.c (.d (bys xs)),.c (.d (bys ys))] [] (Plain (eB true)):=by
 cases h0:(bif decide ((1048576:Int)<xs.length)then true else decide ((1048576:Int)<ys.length))with
 | true=>exact EZ h1 h2 h0
 | false=>
  have hl:xs.length≤1048576∧ys.length≤1048576:=by
   cases ha:decide ((1048576:Int)<xs.length)with
   | true=>rw[ha]at h0;cases h0
   | false=>
    rw[ha]at h0
    have:=b9 ha
    have:=b9 h0
    omega
  refine MC.facts ⟨_,_,Tryz.func4,by kernel_rfl,Z⟩ fun hF=>?_
  refine C4 (L0:=1073741824) Z ?_ (Bf hx hy)
  simp[As.fact,A.fact,M.fact,D.fact,Ds.fact]at hF ⊢
  exact⟨⟨by omega,qD hF.1.2⟩,⟨by omega,qD hF.2.2⟩⟩
end Go.Al
