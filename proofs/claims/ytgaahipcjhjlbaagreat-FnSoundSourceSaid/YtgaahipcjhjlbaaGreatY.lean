/- What is drawn from bytes: terms, facts, in plain Lean and walked. A program and a state are drawn. Proofs are sound; what is proved of a program is true of its runs. The law of sound programs, walked. -/
import Derived.Test.YtgaahipcjhjlbaaGreatC
import Derived.Test.YtgaahipcjhjlbaaGreatD
import Derived.Test.YtgaahipcjhjlbaaGreatM
import Derived.Test.YtgaahipcjhjlbaaGreatF
set_option linter.unusedVariables false
set_option linter.unusedSimpArgs false
set_option maxRecDepth 10000
set_option maxHeartbeats 4000000
open Go.Proofs
namespace Go.Al
variable{L:Nat}(h1:4096≤L)(h2:L≤1073741824)
structure Src where
  code:List Int
  at_:Nat
  seed:Int
abbrev bys(xs:List Int):D:=.slc 1 (xs.map fun n=>[.int .u8 n])
abbrev bZ(s:Src):B:=.box [.d (bys s.code),.d (.int .i64 (s.at_:Nat)),.d (.int .u64 s.seed)]
def Src.b(s:Src):Int:=if s.at_<s.code.length then IntKind.i64.wrap (s.code.getD s.at_ default)else 0
def Src.step(s:Src):Src:=⟨s.code,s.at_+1,IntKind.u64.wrap (IntKind.u64.wrap (IntKind.u64.wrap (s.seed*6364136223846793005)+IntKind.u64.wrap s.b)+1442695040888963407)⟩
def Src.val(s:Src):Int:=if s.at_+1≤s.code.length then s.b else zx s.step.seed
structure Src.Ok(s:Src):Prop where
  code: ∀n∈s.code,0≤n∧n≤255
theorem Src.Ok.step{s:Src}(h:s.Ok):s.step.Ok:=⟨h.code⟩
theorem BM{s:Src}(h:s.Ok):0≤s.b∧s.b≤255:=by
 unfold Src.b
 split
 rename_i hlt
 have:=h.code _ (by rw[aD hlt];exact List.getElem_mem hlt:s.code.getD s.at_ default∈s.code)
 rw[mZ .i64 _ (by show(-9223372036854775808:Int)≤_;omega) (by show _≤(9223372036854775807:Int);omega)]
 exact this
 omega
theorem eM{s:Src}(h:s.Ok):0≤s.val∧s.val≤255:=by
 unfold Src.val
 split
 exact BM h
 exact CO _
theorem Fe{s:Src}(ha:s.at_≤1000000000)(hi:s.at_<s.code.length):MQ h1 h2 45 [.c (.pt 0 0 0)] [(0,bZ s)] (bb (eI s.val) [(0,bZ s.step)]):=by
 refine MC.shift 500 Z (MC.keep [500] (bs:=[bZ s.step]) Z Z (jH 62 [500] h1 h2 Tryz.func45 Z fun O hF=>?_))
 refine b0 ?_
 have hb:s.b=IntKind.i64.wrap (s.code.getD s.at_ default):=if_pos hi
 have hv:s.val=s.b:=if_pos hi
 refine ae (js Z (ba (js Z (jn (af (af (fZ [_,_,_,_,_,_,_,_,_,_] [aF,ag [0],ag [0,1],ag [0,1,2],aF,ag [4],ag [4,5],ag [4,5,6],ag (rg 4 4),ag (rg 0 9)] [] [_] (cw Z (cw Z (ai (cf O Z Z Z Z Z Z Z Z) (kc Z trivial)))) ?_)))))))
 refine jw [13,3,2,0] Z (b0 ?_)
 refine ah Z (fun z13=>?_) (fun z13=>?_)
 refine jw [2,0] Z (fZ [_,_,_,_,_,_,_,_,_,_,_,_] [aF,ag [0],ag [0,1],ag [0,1,2],aF,ag [4],ag [4,5],ag [4,5,6],ag (rg 0 8),ag (rg 0 9),ag (rg 0 10),ag (rg 0 11)] [] [_] (cw Z (cw Z (ai (bf O Z Z Z Z Z Z Z Z (dO hi)) (kc Z (ai (Val.conv O (k':=.i64) (dt:=.int .u8) (b:=true) Z Z Z (by kernel_rfl) (by kernel_rfl)) (kc Z trivial)))))) ?_)
 refine jw [3,2,0] Z (b0 ?_)
 refine ae ?_
 rw[←hb]
 refine az Z (av ((vF Z).cast (v':=eI ((s.at_+1:Nat):Int)) (congrArg eI (by omega))) Z (ab Z (jo Z (aq ?_))))
 refine ba (az Z (aH Z (av (Val.conv O (k':=.u64) (dt:=.int .i64) (b:=true) Z Z Z (by kernel_rfl) (by kernel_rfl)) Z (az Z (jo Z (aq ?_))))))
 refine jn (af (af (fZ [_,_,_,_,_,_,_,_,_,_] [aF,ag [0],ag [0,1],ag [0,1,2],aF,ag [4],ag [4,5],ag [4,5,6],ag (rg 4 4),ag (rg 0 9)] [] [_] (cw Z (cw Z (ai (cf O Z Z Z Z Z Z Z Z) (kc Z trivial)))) ?_)))
 refine jw [53,3,2,0] Z (b0 ?_)
 refine ah Z (fun z53=>?_) (fun z53=>?_)
 refine ae (ab Z (jr ?_))
 refine⟨.inl Z,_,b9,_,Z,by rw[hv];rfl,Z⟩
 exact absurd (cu z53) (by omega)
 exact absurd (cu z13) (by omega)
theorem Ff{s:Src}(ha:s.at_≤1000000000)(hi: ¬s.at_<s.code.length):MQ h1 h2 45 [.c (.pt 0 0 0)] [(0,bZ s)] (bb (eI s.val) [(0,bZ s.step)]):=by
 refine MC.shift 500 Z (MC.keep [500] (bs:=[bZ s.step]) Z Z (jH 62 [500] h1 h2 Tryz.func45 Z fun O hF=>?_))
 refine b0 ?_
 have hb:s.b=0:=if_neg hi
 have hv:s.val=zx s.step.seed:=if_neg (by omega)
 refine ae (js Z (ba (js Z (jn (af (af (fZ [_,_,_,_,_,_,_,_,_,_] [aF,ag [0],ag [0,1],ag [0,1,2],aF,ag [4],ag [4,5],ag [4,5,6],ag (rg 4 4),ag (rg 0 9)] [] [_] (cw Z (cw Z (ai (cf O Z Z Z Z Z Z Z Z) (kc Z trivial)))) ?_)))))))
 refine jw [13,3,2,0] Z (b0 ?_)
 refine ah Z (fun z13=>?_) (fun z13=>?_)
 exact absurd (bK z13) (by omega)
 refine aj (ae (az Z (av ((vF Z).cast (v':=eI ((s.at_+1:Nat):Int)) (congrArg eI (by omega))) Z (ab Z (jo Z (aq ?_))))))
 refine ba (az Z (aH Z ?_))
 rw[←hb]
 refine av (Val.conv O (k':=.u64) (dt:=.int .i64) (b:=true) Z Z Z (by kernel_rfl) (by kernel_rfl)) Z (az Z (jo Z (aq ?_)))
 refine jn (af (af (fZ [_,_,_,_,_,_,_,_,_,_] [aF,ag [0],ag [0,1],ag [0,1,2],aF,ag [4],ag [4,5],ag [4,5,6],ag (rg 4 4),ag (rg 0 9)] [] [_] (cw Z (cw Z (ai (cf O Z Z Z Z Z Z Z Z) (kc Z trivial)))) ?_)))
 refine jw [53,3,2,0] Z (b0 ?_)
 refine ah Z (fun z53=>?_) (fun z53=>?_)
 exact absurd (bK z53) (by omega)
 refine aj (ae (az Z (av (Val.shr O Z Z Z Z Z (by decide)) Z (av (BK O Z Z Z Z Z) Z (av (Val.conv O (k':=.i64) (dt:=.int .u64) (b:=true) Z Z Z (by kernel_rfl) (by kernel_rfl)) Z (js Z (jr ?_)))))))
 refine⟨.inl Z,_,b9,_,Z,by rw[hv];rfl,Z⟩
theorem zU{L:Nat}(h1:4096≤L)(h2:L≤1073741824){s:Src}(ha:s.at_≤1000000000):MC Tryz.prog L 45 [.c (.pt 0 0 0)] [(0,bZ s)] (bb (eI s.val) [(0,bZ s.step)]):=by
 by_cases hi:s.at_<s.code.length
 exact Fe h1 h2 ha hi
 exact Ff h1 h2 ha hi
def Src.pick(n:Int)(s:Src):Int×Src:=if n≤1 then(0,s)else if 200<n then((s.val*256+s.step.val).tmod n,s.step.step)else(s.val.tmod n,s.step)
theorem CF{n:Int}{s:Src}(h:n≤1):s.pick n=(0,s):=if_pos h
theorem Bd{n:Int}{s:Src}(h: ¬n≤1)(h2: ¬200<n):s.pick n=(s.val.tmod n,s.step):=by unfold Src.pick;rw[if_neg h,if_neg h2]
theorem Be{n:Int}{s:Src}(h: ¬n≤1)(h2:200<n):s.pick n=((s.val*256+s.step.val).tmod n,s.step.step):=by unfold Src.pick;rw[if_neg h,if_pos h2]
theorem Src.Ok.pick{s:Src}(h:s.Ok){n:Int}:(s.pick n).2.Ok:=by
 unfold Src.pick;split
 exact h
 split
 exact h.step.step
 exact h.step
theorem cg{s:Src}{n:Int}:(s.pick n).2.at_≤s.at_+2:=by
 unfold Src.pick;split
 exact Nat.le_add_right _ _
 split
 exact da _
 show s.at_+1≤s.at_+2;omega
theorem lF{a n:Int}(ha:0≤a)(hn:0<n):0≤a.tmod n∧a.tmod n<n:=by
 rw[Int.tmod_eq_emod_of_nonneg ha]
 exact⟨Int.emod_nonneg _ (by omega),Int.emod_lt_of_pos _ hn⟩
theorem cM{s:Src}(h:s.Ok){n:Int}(hn:1≤n):0≤(s.pick n).1∧(s.pick n).1<n:=by
 have h1:=eM h
 have h2:=eM h.step
 unfold Src.pick;split
 exact⟨by show(0:Int)≤0;omega,by show(0:Int)<n;omega⟩
 split
 exact lF (by omega) (by omega)
 exact lF h1.1 (by omega)
variable{n:Int}
theorem Fi{s:Src}(hs:s.Ok)(ha:s.at_≤999999990)(hn0: -1000000000≤n)(hn1:n≤1000000000)(h:n≤1):MQ h1 h2 25 [.c (.pt 0 0 0),eI n] [(0,bZ s)] (bb (eI (s.pick n).1) [(0,bZ (s.pick n).2)]):=by
 refine MC.shift 500 Z (MC.keep [500] (bs:=[bZ (s.pick n).2]) Z Z (jH 20 [500] h1 h2 Tryz.func25 Z fun O hF=>?_))
 rw[CF h]
 have hv:=eM hs
 have hv2:=eM hs.step
 refine b0 ?_
 refine ae (js Z (jn (af (ae (ab Z (jn (ah Z (fun z7=>?_) (fun z7=>?_))))))))
 refine ae (js Z (jr ?_))
 refine⟨.inl Z,_,b9,_,Z,Z,Z⟩
 exact absurd (cu z7) (by omega)
theorem Fh{s:Src}(hs:s.Ok)(ha:s.at_≤999999990)(hn0: -1000000000≤n)(hn1:n≤1000000000)(h: ¬n≤1)(h3: ¬200<n):MQ h1 h2 25 [.c (.pt 0 0 0),eI n] [(0,bZ s)] (bb (eI (s.pick n).1) [(0,bZ (s.pick n).2)]):=by
 refine MC.shift 500 Z (MC.keep [500] (bs:=[bZ (s.pick n).2]) Z Z (jH 20 [500] h1 h2 Tryz.func25 Z fun O hF=>?_))
 rw[Bd h h3]
 have hv:=eM hs
 have hv2:=eM hs.step
 refine b0 ?_
 refine ae (js Z (jn (af (ae (ab Z (jn (ah Z (fun z7=>?_) (fun z7=>?_))))))))
 exact absurd (bK z7) (by omega)
 refine aj (ae (js Z (au O [500] (bin:=[bZ s]) Z Z Z Z (zU (s:=s) h1 h2 (by omega)) Z Z Z Z Z Z (B0:=10000) Z Z (aq ?_))))
 refine js Z (jn (af (ae (ab Z (jn (ah Z (fun z11=>?_) (fun z11=>?_)))))))
 exact absurd (bK z11) (by omega)
 refine aj (ae (ab Z (av (j5 O Z Z Z Z (by omega) (by have:=lF (n:=n) hv.1 (by omega);omega) (by have:=lF (n:=n) hv.1 (by omega);omega)) Z (js Z (jr ?_)))))
 refine⟨.inl Z,_,b9,_,Z,Z,Z⟩
theorem Fg{s:Src}(hs:s.Ok)(ha:s.at_≤999999990)(hn0: -1000000000≤n)(hn1:n≤1000000000)(h: ¬n≤1)(h3:200<n):MQ h1 h2 25 [.c (.pt 0 0 0),eI n] [(0,bZ s)] (bb (eI (s.pick n).1) [(0,bZ (s.pick n).2)]):=by
 refine MC.shift 500 Z (MC.keep [500] (bs:=[bZ (s.pick n).2]) Z Z (jH 20 [500] h1 h2 Tryz.func25 Z fun O hF=>?_))
 rw[Be h h3]
 have hv:=eM hs
 have hv2:=eM hs.step
 refine b0 ?_
 refine ae (js Z (jn (af (ae (ab Z (jn (ah Z (fun z7=>?_) (fun z7=>?_))))))))
 exact absurd (bK z7) (by omega)
 refine aj (ae (js Z (au O [500] (bin:=[bZ s]) Z Z Z Z (zU (s:=s) h1 h2 (by omega)) Z Z Z Z Z Z (B0:=10000) Z Z (aq ?_))))
 refine js Z (jn (af (ae (ab Z (jn (ah Z (fun z11=>?_) (fun z11=>?_)))))))
 refine ak (js Z (av (bi O Z Z (by omega) (by omega)) Z (js Z (au O [500] (bin:=[bZ s.step]) Z Z Z Z (zU (s:=s.step) h1 h2 (by show s.at_+1≤_;omega)) Z Z Z Z Z Z (B0:=16000) Z Z (aq ?_)))))
 refine av (bi O Z Z (by omega) (by omega)) Z (js Z (ba (ab Z (av (j5 O Z Z Z Z (by omega) (by have:=lF (n:=n) (a:=s.val*256+s.step.val) (by omega) (by omega);omega) (by have:=lF (n:=n) (a:=s.val*256+s.step.val) (by omega) (by omega);omega)) Z (js Z (jr ?_))))))
 refine⟨.inl Z,_,b9,_,Z,Z,Z⟩
 exact absurd (cu z11) (by omega)
theorem fR{L:Nat}(h1:4096≤L)(h2:L≤1073741824){s:Src}{n:Int}(hs:s.Ok)(ha:s.at_≤999999990)(hn0: -1000000000≤n)(hn1:n≤1000000000):MC Tryz.prog L 25 [.c (.pt 0 0 0),eI n] [(0,bZ s)] (bb (eI (s.pick n).1) [(0,bZ (s.pick n).2)]):=by
 by_cases h:n≤1
 exact Fi h1 h2 hs ha hn0 hn1 h
 by_cases h3:200<n
 exact Fg h1 h2 hs ha hn0 hn1 h h3
 exact Fh h1 h2 hs ha hn0 hn1 h h3
theorem xl{s:Src}(hs:s.Ok)(ha:s.at_≤999999990)(hn0: -1000000000≤n)(hn1:n≤1000000000)  : MQ h1 h2 31 [.c (.pt 0 0 0),eI n] [(0,bZ s)] (bb (eB (decide ((s.pick n).1=0))) [(0,bZ (s.pick n).2)]):=by
 refine MC.shift 500 Z (MC.keep [500] (bs:=[bZ (s.pick n).2]) Z Z (jH 9 [500] h1 h2 Tryz.func31 Z fun O hF=>?_))
 refine b0 ?_
 refine ae (js Z (ba (ab Z (au O [500] (bin:=[bZ s]) Z Z Z Z (fR (s:=s) (n:=n) h1 h2 hs ha hn0 hn1) Z Z Z Z Z Z (B0:=8000) Z Z (aq ?_)))))
 refine ab Z (jr ?_)
 refine⟨.inl Z,_,b9,_,Z,Z,Z⟩
variable{xs:List Int}
theorem zV{s:Src}(hs:s.Ok)(ha:s.at_≤999999990)(hx0:1≤xs.length)(hx1:xs.length≤1000):MQ h1 h2 39 [.c (.pt 0 0 0),ce xs] [(0,bZ s)] (bb (eI (xs.getD (s.pick xs.length).1.toNat default)) [(0,bZ (s.pick xs.length).2)]):=by
 refine MC.shift 500 Z (MC.keep [500] (bs:=[bZ (s.pick xs.length).2]) Z Z (jH 12 [500] h1 h2 Tryz.func39 Z fun O hF=>?_))
 have hp:=cM hs (n:=xs.length) (by omega)
 refine b0 ?_
 refine ae (js Z (ba (aH Z ?_)))
 first|refine dh Z ?_|refine js Z ?_|refine dv Z Z ?_
 refine au O [500] (bin:=[bZ s]) Z Z Z Z (fR (s:=s) (n:=xs.length) h1 h2 hs ha (by omega) (by omega)) Z Z Z Z Z Z (B0:=10000) Z Z (aq ?_)
 refine av (bN O Z Z Z Z Z Z Z Z hp.1 (m7 hp.1 hp.2)) Z (ab Z (jr ?_))
 refine⟨.inl Z,_,b9,_,Z,Z,Z⟩
theorem DM:MQ h1 h2 19 [.c (.d (bys xs))] [] (bb (.c (.pt 0 0 0)) [(0,bZ ⟨xs,0,0⟩)]):=by
 refine MC.shift 500 Z (MC.keep [500] (bs:=[bZ ⟨xs,0,0⟩]) Z Z (jB 6 h1 h2 Tryz.func19 Z fun O hF=>?_))
 refine ae (js Z (ba (ab Z (jx Z (aq ?_)))))
 refine js Z (jr ?_)
 refine⟨.inl Z,_,aa 5 500 Z Z,_,Z,Z,Z⟩
def t6:Nat→Src→List Int→List Int×Src
  | 0,s,xs=>(xs,s)
  | k+1,s,xs=>t6 k (s.pick 5).2 (xs++[(s.pick 5).1-2])
theorem AA: ∀{k:Nat} {s:Src} {xs:List Int},(t6 k s xs).2.at_≤s.at_+2*k
 | 0,s,xs=>da _
 | k+1,s,xs=>by
  have h1:=AA (k:=k) (s:=(s.pick 5).2) (xs:=xs++[(s.pick 5).1-2])
  have h2:=cg (s:=s) (n:=5)
  rw[t6];omega
theorem wh: ∀{k:Nat} {s:Src} {xs:List Int},s.Ok→(t6 k s xs).2.Ok
 | 0,s,xs,h=>h
 | k+1,s,xs,h=>by rw[t6];exact wh h.pick
def yk(t:Tm)(s:Src):Tm×Src:=if(s.pick 30).1=0 then(⟨[1000000,-1000000].getD (((s.pick 30).2.pick 2).1.toNat) default,t.xs⟩,((s.pick 30).2.pick 2).2)else(t,(s.pick 30).2)
def zy(l:List Int×Src):Tm×Src:=yk (mf ((l.2.pick 9).1-4) l.1).1 (l.2.pick 9).2
def mP(s:Src):Tm×Src:=zy (t6 (s.pick 5).1.toNat (s.pick 5).2 [])
theorem DL{s:Src}(hs:s.Ok)(ha:s.at_≤999999900):MQ h1 h2 21 [.c (.pt 0 0 0)] [(0,bZ s)] (bb (db (mP s).1) [(0,bZ (mP s).2)]):=by
 refine MC.shift 500 Z (MC.keep [500] (bs:=[bZ (mP s).2]) Z Z (jH 35 [500] h1 h2 Tryz.func21 Z fun O hF=>?_))
 refine b0 ?_
 obtain⟨R,hR⟩: ∃R,R=mP s:=⟨_,rfl⟩
 rw[←hR]
 have hp0:=cM hs (n:=5) (by omega)
 have hat0:=cg (s:=s) (n:=5)
 refine ae (jl Z (aq ?_))
 refine ba (aU (bO O Z Z Z) Z (aq ?_))
 refine js Z (jn (af (ae (js Z (au O [500] (bin:=[bZ s]) Z Z Z Z (fR (s:=s) (n:=5) h1 h2 hs (by omega) (by omega) (by omega)) Z Z Z Z Z Z (B0:=10000) Z Z (aq ?_))))))
 refine js Z (jn (ao (aw (X:=Nat×Src×List Int) (fun x=>⟨[(0,.c (.pt 500 0 0)),(2,.c (.pt 2 0 0)),(3,.c (.rs 900 0 x.2.2.length)),(4,eI (x.1:Nat))],[(2,.box [.d (.int .i64 0),.d .nils]),(500,bZ x.2.1),(900,aO x.2.2)]⟩) (fun x=>x.2.1.Ok∧mP s=zy (t6 x.1 x.2.1 x.2.2)∧x.2.2.length+x.1≤4∧x.2.1.at_+2*x.1≤s.at_+10) (fun x=>x.1) ((s.pick 5).1.toNat,(s.pick 5).2,[]) (((am [2,500,7] (e':=[(0,_),(2,_),(3,_),(4,_)]) Z Z ⟨Z,Z,Z,Z,ap⟩ Z).trans (aa 7 900 Z Z)).trans (Ent.to ⟨Z,Z,Z,by rw[Int.toNat_of_nonneg hp0.1];rfl,ap⟩ Z)) ?_ (fun x hi=>?_))))
 exact⟨hs.pick,Z,by simp only[List.length_nil];omega,by simp only;omega⟩
 refine af (ae (ab Z (jn (ah Z (fun z11=>?_) (fun z11=>?_)))))
 refine aj (af (ao (ak (ab Z ?_))))
 have hp:=cM hi.1 (n:=5) (by omega)
 have hat:=cg (s:=x.2.1) (n:=5)
 have hk:=bK z11
 refine au O [500] (bin:=[bZ x.2.1]) Z Z Z Z (fR (s:=x.2.1) (n:=5) h1 h2 hi.1 (by omega) (by omega) (by omega)) Z Z Z Z Z Z (B0:=17000) Z Z (aq ?_)
 refine av (bi O Z Z (by omega) (by omega)) Z (aU (bO O Z Z Z) Z (aq ?_))
 refine aU (cJ (zs:=(x.2.2++[(x.2.1.pick 5).1-2]).map fun n=>[.int .i64 n]) (n:=(x.2.2++[(x.2.1.pick 5).1-2]).length) O Z Z Z Z Z Z Z Z Z Z Z Z Z Z Z Z (.row Z (bQ _).symm) Z Z (by decide) Z (by simp;omega) (by simp;omega) (by simp) (by simp)) Z (aq ?_)
 refine aq ?_
 refine js Z (jn (ak (js Z ?_)))
 first|refine ji Z ?_|refine dv Z Z ?_
 refine js Z (jn ?_)
 obtain⟨k,hk1⟩: ∃k,x.1=k+1:=⟨x.1-1,by omega⟩
 refine⟨(k,(x.2.1.pick 5).2,x.2.2++[(x.2.1.pick 5).1-2]),((am [2,500,19] (e':=[(0,_),(2,_),(3,_),(4,_)]) Z Z ⟨Z,Z,Z,Z,ap⟩ Z).trans (aa 19 900 Z Z)).trans (Ent.to ⟨Z,Z,Z,?_,ap⟩ Z),⟨hi.1.pick,by rw[hi.2.1,hk1,t6],by simp only[cG,dL];omega,by simp only;omega⟩,by simp only;omega⟩
 exact congrArg (fun z=>some (eI z)) (by simp only;omega)
 refine bg (ae ?_)
 have hk:=cu z11
 obtain⟨k,s1,xs1⟩:=x
 simp only at hi hk
 obtain rfl:k=0:=by omega
 obtain⟨hi1,hi2,hi3,hi4⟩:=hi
 rw[show mP s=zy (xs1,s1)from hi2]at hR
 have hp1:=cM hi1 (n:=9) (by omega)
 have hat1:=cg (s:=s1) (n:=9)
 have hat2:=cg (s:=(s1.pick 9).2) (n:=30)
 refine ar (Ent.freeze 900 (e':=[(3,_),(0,_),(2,_)]) Z (.cons Z (.c (.row Z (bQ _).symm)) (fe [0,2] Z)) (aZ Z (aZ Z (.skip .nil)))) ?_
 refine js Z (au O [500] (bin:=[bZ s1]) Z Z Z Z (fR (s:=s1) (n:=9) h1 h2 hi1 (by omega) (by omega) (by omega)) Z Z Z Z Z Z (B0:=23000) Z Z (aq ?_))
 refine av (bi O Z Z (by omega) (by omega)) Z (js Z (an O Z Z Z Z (p8 (c:=(s1.pick 9).1-4) (xs:=xs1) h1 h2) (ac Z) Z Z Z Z (B0:=26000) Z Z (aH Z (jl Z (aq ?_)))))
 refine jo Z (aq ?_)
 refine js Z (jn (af (ae (js Z (au O [500] (bin:=[bZ (s1.pick 9).2]) Z Z Z Z (xl (s:=(s1.pick 9).2) (n:=30) h1 h2 hi1.pick (by omega) (by omega) (by omega)) Z Z Z Z Z Z (B0:=30000) Z Z (aq ?_))))))
 refine jn (ah Z (fun z29=>?_) (fun z29=>?_))
 refine ak (js Z (aU (bO O Z Z Z) Z (aq ?_)))
 refine ar (am [2,5,500,31] (e':=[(30,_),(5,_),(0,_),(31,_),(2,_)]) Z Z ⟨Z,Z,Z,Z,Z,ap⟩ Z) (ar (Ent.freeze 31 (e':=[(30,_),(5,_),(0,_),(31,_),(2,_)]) Z (.cons Z (.keep Z) (.cons Z (.keep Z) (.cons Z (.keep Z) (.cons Z (.c (.row Z Z)) (fe [2] Z))))) (aZ Z (aZ Z (aZ Z (.skip .nil))))) ?_)
 refine au O [500] (bin:=[bZ ((s1.pick 9).2.pick 30).2]) Z Z Z Z (zV (s:=((s1.pick 9).2.pick 30).2) (xs:=[1000000,-1000000]) h1 h2 hi1.pick.pick (by omega) (by decide) (by decide)) Z Z Z Z Z Z (B0:=33000) Z Z (aq ?_)
 refine js Z (jo Z (aq ?_))
 refine ba (js Z (jo Z (aq ?_)))
 refine jr ?_
 have ho:((s1.pick 9).2.pick 30).1=0:=bK z29
 rw[show R=_ from hR.trans (if_pos ho)]
 refine⟨.inl Z,_,b9,_,Z,Z,Z⟩
 refine aj (ae (js Z (jo Z (aq ?_))))
 refine jr ?_
 have ho: ¬((s1.pick 9).2.pick 30).1=0:=cu z29
 rw[show R=_ from hR.trans (if_neg ho)]
 refine⟨.inl Z,_,b9,_,Z,Z,Z⟩
theorem CJ{t:Tm}{s:Src}:(yk t s).2.at_≤s.at_+4:=by
 have h1:=cg (s:=s) (n:=30)
 have h2:=cg (s:=(s.pick 30).2) (n:=2)
 unfold yk;split
 show(((s.pick 30).2.pick 2).2).at_≤_;omega
 show((s.pick 30).2).at_≤_;omega
theorem CI{t:Tm}{s:Src}(h:s.Ok):(yk t s).2.Ok:=by
 unfold yk;split
 exact h.pick.pick
 exact h.pick
theorem s9{s:Src}(h:s.Ok):(mP s).2.at_≤s.at_+16:=by
 have h0:=cM h (n:=5) (by omega)
 have h1:=cg (s:=s) (n:=5)
 have h2:=AA (k:=(s.pick 5).1.toNat) (s:=(s.pick 5).2) (xs:=[])
 have h3:=cg (s:=(t6 (s.pick 5).1.toNat (s.pick 5).2 []).2) (n:=9)
 have h4:=CJ (t:=(mf (((t6 (s.pick 5).1.toNat (s.pick 5).2 []).2.pick 9).1-4) (t6 (s.pick 5).1.toNat (s.pick 5).2 []).1).1) (s:=((t6 (s.pick 5).1.toNat (s.pick 5).2 []).2.pick 9).2)
 unfold mP zy
 omega
theorem mE{s:Src}(h:s.Ok):(mP s).2.Ok:=CI (wh h.pick).pick
def zi:Nat→Src→List Tm→List Tm×Src
  | 0,s,ts=>(ts,s)
  | k+1,s,ts=>zi k (mP s).2 (ts++[(mP s).1])
def jp(s:Src):List Tm×Src:=zi (s.pick 3).1.toNat (s.pick 3).2 []
theorem AC: ∀{k:Nat} {s:Src} {ts:List Tm},s.Ok→(zi k s ts).2.at_≤s.at_+16*k
 | 0,s,ts,_=>da _
 | k+1,s,ts,h=>by
  have h1:=AC (k:=k) (ts:=ts++[(mP s).1]) (mE h)
  have h2:=s9 h
  rw[zi];omega
theorem AB: ∀{k:Nat} {s:Src} {ts:List Tm},s.Ok→(zi k s ts).2.Ok
 | 0,s,ts,h=>h
 | k+1,s,ts,h=>by rw[zi];exact AB (mE h)
theorem tH{s:Src}(h:s.Ok):(jp s).2.at_≤s.at_+50:=by
 have h0:=cM h (n:=3) (by omega)
 have h1:=cg (s:=s) (n:=3)
 have h2:=AC (k:=(s.pick 3).1.toNat) (ts:=[]) (h.pick (n:=3))
 unfold jp;omega
theorem pQ{s:Src}(h:s.Ok):(jp s).2.Ok:=AB h.pick
theorem DK{s:Src}(hs:s.Ok)(ha:s.at_≤999999800):MQ h1 h2 41 [.c (.pt 0 0 0)] [(0,bZ s)] (bb (.c (.d (fC (jp s).1))) [(0,bZ (jp s).2)]):=by
 refine MC.shift 500 Z (MC.keep [500] (bs:=[bZ (jp s).2]) Z Z (jH 18 [500] h1 h2 Tryz.func41 Z fun O hF=>?_))
 refine b0 ?_
 obtain⟨R,hR⟩: ∃R,R=jp s:=⟨_,rfl⟩
 rw[←hR]
 have hp0:=cM hs (n:=3) (by omega)
 have hat0:=cg (s:=s) (n:=3)
 refine ae (js Z (ba (aU (bO O Z Z Z) Z (aq ?_))))
 refine js Z (jn (af (ae (js Z (au O [500] (bin:=[bZ s]) Z Z Z Z (fR (s:=s) (n:=3) h1 h2 hs (by omega) (by omega) (by omega)) Z Z Z Z Z Z (B0:=8000) Z Z (aq ?_))))))
 refine js Z (jn (ao (aw (X:=Nat×Src×List Tm) (fun x=>⟨[(0,.c (.pt 500 0 0)),(3,.c (.rs 900 0 x.2.2.length)),(4,eI (x.1:Nat))],[(500,bZ x.2.1),(900,aN x.2.2)]⟩) (fun x=>x.2.1.Ok∧jp s=zi x.1 x.2.1 x.2.2∧x.2.2.length+x.1≤2∧x.2.1.at_+16*x.1≤s.at_+40) (fun x=>x.1) ((s.pick 3).1.toNat,(s.pick 3).2,[]) ((dr 5 Z).trans (((am [500,5] (e':=[(0,_),(3,_),(4,_)]) Z Z ⟨Z,Z,Z,ap⟩ Z).trans (aa 5 900 Z Z)).trans (Ent.to ⟨Z,Z,by rw[Int.toNat_of_nonneg hp0.1];rfl,ap⟩ Z))) ?_ (fun x hi=>?_))))
 exact⟨hs.pick,Z,by simp only[List.length_nil];omega,by simp only;omega⟩
 refine af (ae (ab Z (jn (ah Z (fun z9=>?_) (fun z9=>?_)))))
 refine aj (af (ao (ak (ab Z ?_))))
 have hat:=s9 hi.1
 have hk:=bK z9
 refine au O [500] (bin:=[bZ x.2.1]) Z Z Z Z (DL (s:=x.2.1) h1 h2 hi.1 (by omega)) Z Z Z Z Z Z (B0:=15000) Z Z (aq ?_)
 refine aU (bp O Z Z Z Z Z Z Z Z Z Z Z) Z (aq ?_)
 refine aU (cU (own:=false) (xs:=x.2.2.map Tm.cells) (ys:=[Tm.cells (mP x.2.1).1]) (zs:=(x.2.2++[(mP x.2.1).1]).map Tm.cells) (n:=(x.2.2++[(mP x.2.1).1]).length) O Z (.row Z (bQ _).symm) (.whole Z Z (.inr ⟨Z,Z⟩)) (by simp) Z (by simp;omega) (by simp;omega) (by simp) (by simp)) Z (aq ?_)
 refine aq ?_
 refine js Z (jn (ak (js Z ?_)))
 first|refine ji Z ?_|refine dv Z Z ?_
 refine js Z (jn ?_)
 obtain⟨k,hk1⟩: ∃k,x.1=k+1:=⟨x.1-1,by omega⟩
 refine⟨(k,(mP x.2.1).2,x.2.2++[(mP x.2.1).1]),((am [500,16] (e':=[(0,_),(3,_),(4,_)]) Z Z ⟨Z,Z,Z,ap⟩ Z).trans (aa 16 900 Z Z)).trans (Ent.to ⟨Z,Z,?_,ap⟩ Z),⟨mE hi.1,by rw[hi.2.1,hk1,zi],by simp only[cG,dL];omega,by simp only;omega⟩,by simp only;omega⟩
 exact congrArg (fun z=>some (eI z)) (by simp only;omega)
 refine bg (ae ?_)
 have hk:=cu z9
 obtain⟨k,s1,ts1⟩:=x
 simp only at hi hk
 obtain rfl:k=0:=by omega
 rw[show R=(ts1,s1)from hR.trans hi.2.1]
 refine ar (Ent.freeze 900 (e':=[(3,_),(0,_)]) Z (.cons Z (.c (.row Z (bQ _).symm)) (fe [0] Z)) (aZ Z (.skip .nil))) ?_
 refine ab Z (jr ?_)
 refine⟨.inl Z,_,b9,_,Z,Z,Z⟩
theorem BJ{p:Pm}{t:Tr}{i:Nat}(hb:(gp p t i).bad=true): ∀{n:Nat},i≤n→(gp p t n).bad=true:=fun{n} hn=>by
 induction n with
 | zero=>
  obtain rfl:i=0:=by omega
  exact hb
 | succ n ih=>
  rcases Nat.lt_or_ge n i with h1|h1
  obtain rfl:i=n+1:=by omega
  exact hb
  have:=ih h1
  rw[gp,kP,oh this];exact this
theorem tO{p:Pm}{t:Tr}{n:Nat}(hb:(gp p t n).bad=false){i:Nat}(hi:i≤n):(gp p t i).bad=false:=by
 cases h:(gp p t i).bad with
 | false=>rfl
 | true=>rw[BJ h hi]at hb;cases hb
theorem yc{p:Pm}{t:Tr}{n:Nat}(hb:(gp p t (n+1)).bad=false):(kP bT p t n g0).bad=false∧(gp p t (n+1)).paths=(gp p t n).paths++(kP bT p t n g0).paths∧(gp p t (n+1)).conds=(gp p t n).conds++(kP bT p t n g0).conds:=by
 have hn:=tO hb (Nat.le_succ n)
 have hl:=(Ab (p:=p) (t:=t) n).2 hn
 rw[gp]at hb ⊢
 have s0:Sim (gp p t n).paths (gp p t n).conds (gp p t n) g0:=⟨fun _=>⟨rfl,by simp[g0],by simp[g0],hl⟩,fun h=>absurd (hn.symm.trans h) (by decide)⟩
 have s:=r5 (la:=bT) (E:=t2 p.body p.post) (b:=p.body) (t:=t) (pre:=p.pre) (n:=n) s0
 obtain⟨a1,a2,a3,a4⟩:=s.ok hb
 exact⟨a1,a2,a3⟩
theorem yJ{la:dM}{s:Sm}{w:Pw}{g:Gs}(h:w.vars.length=4):(cd la s w g).1.vars.length=4:=by
 unfold cd
 split
 simp[Pw.set,h]
 split
 split
 simp[Pw.set,h]
 simp[n4,h]
 split
 exact h
 split
 exact h
 split
 exact h
 exact h
theorem AL{p:Pm}{t:Tr}: ∀{n m:Nat},n≤m→(gp p t m).bad=false→(gp p t n).paths <+: (gp p t m).paths∧(gp p t n).conds <+: (gp p t m).conds
 | n,0,hn,hb=>by obtain rfl:n=0:=(by omega);exact⟨List.prefix_refl _,List.prefix_refl _⟩
 | n,m+1,hn,hb=>by
  rcases Nat.lt_or_ge n (m+1)with h1|h1
  obtain⟨_,a2,a3⟩:=yc hb
  have ih:=AL (n:=n) (m:=m) (by omega) (tO hb (Nat.le_succ m))
  rw[a2,a3]
  exact⟨ih.1.trans (List.prefix_append _ _),ih.2.trans (List.prefix_append _ _)⟩
  obtain rfl:n=m+1:=by omega
  exact⟨List.prefix_refl _,List.prefix_refl _⟩
theorem tp{c:Int}{xs:List Int}(h:xs.length≤4):((mf c xs).1).term=true:=by
 unfold mf
 split
 rename_i h1
 have:=gE xs
 unfold Tm.term
 rw[h1,Bool.true_and]
 exact decide_eq_true (by show((bM xs).length:Int)≤4;omega)
 rfl
theorem xX: ∀{k:Nat} {s:Src} {xs:List Int},(t6 k s xs).1.length=xs.length+k
 | 0,s,xs=>rfl
 | k+1,s,xs=>by rw[t6,xX,cG,dL];omega
theorem vT{t:Tm}(h:t.term=true){c:Int}(hc: -1000000≤c∧c≤1000000):(⟨c,t.xs⟩:Tm).term=true:=by
 have hn:num c=true:=by unfold num;rw[decide_eq_true hc.1,decide_eq_true hc.2];rfl
 unfold Tm.term Tm.ok at h ⊢
 cases h1:num t.c with
 | false=>rw[h1]at h;simp at h
 | true=>rw[h1]at h;rw[hn];exact h
theorem nF{s:Src}(h:s.Ok):(mP s).1.term=true:=by
 have h0:=cM h (n:=5) (by omega)
 have hl:=xX (k:=(s.pick 5).1.toNat) (s:=(s.pick 5).2) (xs:=[])
 have ht:((mf (((t6 (s.pick 5).1.toNat (s.pick 5).2 []).2.pick 9).1-4) (t6 (s.pick 5).1.toNat (s.pick 5).2 []).1).1).term=true:=tp (by rw[hl,List.length_nil];omega)
 unfold mP zy yk
 split
 rename_i ho
 have ho2:=cM (s:=(((t6 (s.pick 5).1.toNat (s.pick 5).2 []).2.pick 9).2.pick 30).2) (n:=2) (wh h.pick).pick.pick (by omega)
 refine vT ht ?_
 generalize ((((t6 (s.pick 5).1.toNat (s.pick 5).2 []).2.pick 9).2.pick 30).2.pick 2).1=z at ho2
 rcases(show z=0∨z=1 by omega)with rfl|rfl<;>decide
 exact ht
theorem sv: ∀{k:Nat} {s:Src} {ts:List Tm},s.Ok→(∀t∈ts,t.term=true)→(∀t∈(zi k s ts).1,t.term=true)∧(zi k s ts).1.length=ts.length+k
 | 0,s,ts,h,ht=>⟨ht,rfl⟩
 | k + 1,s,ts,h,ht=>by
  have:=sv (k:=k) (ts:=ts++[(mP s).1]) (mE h) (fun t hm=>by
   rcases List.mem_append.1 hm with h1|h1
   · exact ht t h1
   · rw[List.mem_singleton.1 h1];exact nF h)
  rw[zi]
  refine⟨this.1,?_⟩
  rw[this.2,cG,dL];omega
theorem jN{ts:List Tm}(h: ∀t∈ts,t.term=true)(hl:ts.length≤6):terms ts 6=true:=by
 unfold terms
 rw[List.all_eq_true.2 h,Bool.true_and]
 exact decide_eq_true (by omega)
theorem rf{s:Src}(h:s.Ok):terms (jp s).1 6=true:=by
 have h0:=cM h (n:=3) (by omega)
 have:=sv (k:=(s.pick 3).1.toNat) (ts:=[]) (h.pick (n:=3)) (fun t ht=>by cases ht)
 exact jN this.1 (by show(zi _ _ _).1.length≤6;rw[this.2,List.length_nil];omega)
abbrev z0:Tm:=⟨0,[]⟩
abbrev jm:Sm:=⟨1,0,0,z0,z0,[]⟩
abbrev jk(v:Int)(t:Tm):Sm:=⟨2,v,0,t,z0,[]⟩
abbrev Eb(v:Int)(i:Tm):Sm:=⟨3,v,0,z0,i,[]⟩
abbrev BY(i t:Tm):Sm:=⟨4,0,0,t,i,[]⟩
abbrev zJ(e:Int):Sm:=⟨5,0,e,z0,z0,[]⟩
abbrev pF(t:Tm):Sm:=⟨6,0,0,t,z0,[]⟩
abbrev Jc(t:Tm):Sm:=⟨7,0,0,t,z0,[]⟩
abbrev kU(t:Tm)(fs:List Tm):Sm:=⟨8,0,0,t,z0,fs⟩
theorem rT:bz jm=true:=by decide
theorem rS{v:Int}{t:Tm}(hv:0≤v∧v≤3)(h:t.term=true):bz (jk v t)=true:=by
 simp[bz,rJ,yf,zg,t8,t9,pX,h,hv,terms,Tm.zero,show(z0:Tm).term=true by decide]
theorem D5{v:Int}{t:Tm}(hv:0≤v∧v≤3)(h:t.term=true):bz (Eb v t)=true:=by
 simp[bz,rJ,yf,zg,t8,t9,pX,h,hv,terms,Tm.zero,show(z0:Tm).term=true by decide]
theorem D4{i t:Tm}(hi:i.term=true)(h:t.term=true):bz (BY i t)=true:=by
 simp[bz,rJ,yf,zg,t8,t9,pX,h,hi,terms,Tm.zero]
theorem AK{e:Int}(h:0≤e∧e≤3):bz (zJ e)=true:=by
 simp[bz,rJ,yf,zg,t8,t9,pX,h,terms,Tm.zero,show(z0:Tm).term=true by decide]
theorem qQ{t:Tm}(h:t.term=true):bz (pF t)=true:=by
 simp[bz,rJ,yf,zg,t8,t9,pX,h,terms,Tm.zero,show(z0:Tm).term=true by decide]
theorem Hl{t:Tm}(h:t.term=true):bz (Jc t)=true:=by
 simp[bz,rJ,yf,zg,t8,t9,pX,h,terms,Tm.zero,show(z0:Tm).term=true by decide]
theorem C8{t:Tm}{fs:List Tm}(h:t.term=true)(hf:terms fs 6=true):bz (kU t fs)=true:=by
 simp[bz,rJ,yf,zg,t8,t9,pX,h,hf,Tm.zero,show(z0:Tm).term=true by decide]
theorem pG{p:Pm}(h1:terms p.pre 6=true)(h2: ∀s∈p.body,bz s=true)(h3:1≤p.body.length∧p.body.length≤30)(h4:sV p.body 0=p.body.length)(h5:terms p.post 6=true):ii p=true:=by
 unfold ii kH
 rw[h1,h5,List.all_eq_true.2 h2,decide_eq_true (show(1:Int)≤p.body.length by omega),decide_eq_true (show(p.body.length:Int)≤30 by omega),decide_eq_true h4]
 rfl
def rK(low tm:Tm)(s:Src):Sm×Src:=
  if(s.pick 4).1=0 then(Eb (1+((s.pick 4).2.pick 3).1) low,((s.pick 4).2.pick 3).2)
  else if(s.pick 4).1=1 then(zJ ((s.pick 4).2.pick 4).1,((s.pick 4).2.pick 4).2)
  else if(s.pick 4).1=2 then(pF low,(s.pick 4).2)else(BY low tm,(s.pick 4).2)
def mV(post:List Tm)(s:Src):List Tm×Src:=if(s.pick 4).1=0 then jp (s.pick 4).2 else(post,(s.pick 4).2)
def yo(r:Int)(pre:List Tm)(m:Sm×Src):Pm×Src:=
  ⟨⟨pre,[jm,jk 0 ⟨(m.2.pick 2).1,[]⟩,kU ⟨r-1,[-1]⟩ [⟨0,[1]⟩,⟨r,[-1]⟩],jm,m.1,jk 0 ⟨1,[1]⟩],(mV [⟨-r,[1]⟩] (m.2.pick 2).2).1⟩,(mV [⟨-r,[1]⟩] (m.2.pick 2).2).2⟩
def Eh(r:Int)(f:List Tm×Src):Pm×Src:=yo r f.1 (rK ⟨0,[1]⟩ (mP f.2).1 (mP f.2).2)
def yh(s:Src):Pm×Src:=Eh (3+(s.pick 6).1) (jp (s.pick 6).2)
theorem zT{low tm:Tm}{s:Src}(h:s.Ok)(hl:low.term=true)(ht:tm.term=true):bz (rK low tm s).1=true∧(rK low tm s).1.kind∈[3,4,5,6]∧(rK low tm s).2.Ok:=by
 have h1:=cM (h.pick (n:=4)) (n:=3) (by omega)
 have h2:=cM (h.pick (n:=4)) (n:=4) (by omega)
 unfold rK
 split
 exact⟨D5 (by omega) hl,by simp,h.pick.pick⟩
 split
 exact⟨AK (by omega),by simp,h.pick.pick⟩
 split
 exact⟨qQ hl,by simp,h.pick⟩
 exact⟨D4 hl ht,by simp,h.pick⟩
theorem CZ{post:List Tm}{s:Src}(h:s.Ok)(hp:terms post 6=true):terms (mV post s).1 6=true∧(mV post s).2.Ok:=by
 unfold mV;split
 exact⟨rf h.pick,pQ h.pick⟩
 exact⟨hp,h.pick⟩
theorem zP{r k:Int}(h: -1000000≤r∧r≤1000000)(hk:k=1∨k= -1):(⟨r,[k]⟩:Tm).term=true:=by
 refine vT (t:=⟨0,[k]⟩) ?_ h
 rcases hk with rfl|rfl<;>decide
theorem HW{r:Int}(h: -1000000≤r∧r≤1000000):(⟨r,[]⟩:Tm).term=true:=vT (t:=⟨0,[]⟩) (by decide) h
theorem Ay{s:Src}(h:s.Ok):ii (yh s).1=true∧(yh s).2.Ok:=by
 have h0:=cM h (n:=6) (by omega)
 have hf:=rf (h.pick (n:=6))
 have hfo:=pQ (h.pick (n:=6))
 have hm:=zT (low:=⟨0,[1]⟩) (mE hfo) (by decide) (nF hfo)
 unfold yh Eh
 generalize rK ⟨0,[1]⟩ (mP (jp (s.pick 6).2).2).1 (mP (jp (s.pick 6).2).2).2=m at hm
 generalize (jp (s.pick 6).2).1=pre at hf
 generalize (s.pick 6).1=a at h0
 have h2:=cM hm.2.2 (n:=2) (by omega)
 have he:=CZ (post:=[⟨-(3+a),[1]⟩]) (hm.2.2.pick (n:=2)) (jN (fun t ht=>by rw[List.mem_singleton.1 ht];exact zP (by omega) (.inl Z)) (by simp))
 refine⟨?_,he.2⟩
 refine pG hf (fun x hx=>?_) ⟨by show 1≤6;decide,by show 6≤30;decide⟩ ?_ he.1
 simp only[yo,List.mem_cons,List.not_mem_nil,or_false]at hx
 rcases hx with rfl|rfl|rfl|rfl|rfl|rfl
 exact rT
 exact rS (by decide) (HW (by omega))
 exact C8 (zP (by omega) (.inr Z)) (jN (fun t ht=>by
  simp only[List.mem_cons,List.not_mem_nil,or_false]at ht
  rcases ht with rfl|rfl
  · decide
  · exact zP (by omega) (.inr Z)) (by simp))
 exact rT
 exact hm.1
 exact rS (by decide) (by decide)
 obtain⟨⟨k,v,e,t,i,fs⟩,s'⟩:=m
 have hk:=hm.2.1
 simp only[List.mem_cons,List.not_mem_nil,or_false]at hk
 rcases hk with rfl|rfl|rfl|rfl<;>rfl
def mh(c:Int)(v:Nat)(n:Int):Tm:=(mf c (List.replicate v 0++[n])).1
theorem ga{c n:Int}{v:Nat}(h:v≤3):(mh c v n).term=true:=tp (by rw[cG,List.length_replicate,dL];omega)
def qa(off:Int)(p:Pm)(s:Src):Pm×Src:=
  if(s.pick 5).1=0 then(⟨[],[jm,jk 2 (mh 0 1 2),Jc (mh (-1) 2 1),pF (mh (-1-off) 1 1),pF (mh 0 1 (-1))],[]⟩,(s.pick 5).2)
  else if(s.pick 5).1=1 then(⟨[],[Jc (mh (-(((s.pick 5).2.pick 9).1-4)) 1 1),jk 0 (mh (-(((s.pick 5).2.pick 9).1-4)) 1 1),jk 0 (mh (((s.pick 5).2.pick 9).1-4-off) 1 (-1))],[mh 0 0 1]⟩,((s.pick 5).2.pick 9).2)
  else if(s.pick 5).1=2 then(⟨[mh 0 1 1,mh (7+off) 1 (-1)],[jm,Eb 2 (mh 0 1 1),jm,BY (mh 0 1 1) (mh 1 2 1),jm,zJ ((s.pick 5).2.pick 4).1,jk 3 (mh (((s.pick 5).2.pick 4).2.pick 3).1 2 1)],[(mf 0 [0,0,-1,1]).1]⟩,(((s.pick 5).2.pick 4).2.pick 3).2)
  else(p,(s.pick 5).2)
def Cj(xs:List Int):Pm:=(qa (if((yh ⟨xs,0,0⟩).2.pick 4).1=0 then 1 else 0) (yh ⟨xs,0,0⟩).1 ((yh ⟨xs,0,0⟩).2.pick 4).2).1
theorem Da{off:Int}{p:Pm}{s:Src}(h:s.Ok)(hp:ii p=true):ii (qa off p s).1=true:=by
 have h4:=cM (h.pick (n:=5)) (n:=4) (by omega)
 unfold qa
 split
 refine pG Z (fun x hx=>?_) ⟨by show 1≤5;decide,by show 5≤30;decide⟩ Z Z
 simp only[List.mem_cons,List.not_mem_nil,or_false]at hx
 rcases hx with rfl|rfl|rfl|rfl|rfl
 exact rT
 exact rS (by decide) (ga (by decide))
 exact Hl (ga (by decide))
 exact qQ (ga (by decide))
 exact qQ (ga (by decide))
 split
 refine pG Z (fun x hx=>?_) ⟨by show 1≤3;decide,by show 3≤30;decide⟩ Z (jN (fun t ht=>by rw[List.mem_singleton.1 ht];exact ga (by decide)) (by simp))
 simp only[List.mem_cons,List.not_mem_nil,or_false]at hx
 rcases hx with rfl|rfl|rfl
 exact Hl (ga (by decide))
 exact rS (by decide) (ga (by decide))
 exact rS (by decide) (ga (by decide))
 split
 refine pG (jN (fun t ht=>?_) (by simp)) (fun x hx=>?_) ⟨by show 1≤7;decide,by show 7≤30;decide⟩ Z (jN (fun t ht=>by rw[List.mem_singleton.1 ht];exact tp (by decide)) (by simp))
 simp only[List.mem_cons,List.not_mem_nil,or_false]at ht
 rcases ht with rfl|rfl<;>exact ga (by decide)
 simp only[List.mem_cons,List.not_mem_nil,or_false]at hx
 rcases hx with rfl|rfl|rfl|rfl|rfl|rfl|rfl
 exact rT
 exact D5 (by decide) (ga (by decide))
 exact rT
 exact D4 (ga (by decide)) (ga (by decide))
 exact rT
 exact AK (by omega)
 exact rS (by decide) (ga (by decide))
 exact hp
theorem C9{xs:List Int}(h: ∀n∈xs,0≤n∧n≤255):ii (Cj xs)=true:=by
 have h0:(⟨xs,0,0⟩:Src).Ok:=⟨h⟩
 have h1:=Ay h0
 exact Da h1.2.pick h1.1
theorem AX{k:Nat}:(List.replicate (k+1) [D.int .i64 0])[0+k]? = some [D.int .i64 0]:=by simp
theorem AW{k:Nat}{n:Int}:(List.replicate (k+1) [D.int .i64 0]).set (0+k) [D.int .i64 n]=((List.replicate k 0++[n]:List Int)).map fun n=>[D.int .i64 n]:=by
 rw[List.replicate_succ',Nat.zero_add,List.set_append_right _ _ (by simp)];simp
theorem i7{c:Int}{k:Nat}(hk:k<10):MQ h1 h2 22 [eI c,eI k,eI n] [] (Plain (db (mh c k n))):=by
 refine MC.data (jB 24 h1 h2 Tryz.func22 Z fun O hF=>?_)
 refine ae (jl Z (aq ?_))
 refine ba (js Z ?_)
 first|refine ji Z ?_|refine dv Z Z ?_
 refine aU (gn O Z Z Z Z Z Z Z Z Z (by first|omega|(simp at *;omega)) (by first|omega|(simp at *;omega)) (by first|omega|(simp at *;omega)) (by first|omega|(dsimp only;omega)|(simp only[bG]at *;omega)) (by first|omega|(simp at *;omega)) Z Z Z) Z (aq ?_)
 refine js Z (ba (aH Z ?_))
 first|refine jD Z Z ?_|refine nN Z Z ?_|refine dv Z Z ?_
 refine aU (ca (ex:=[.int .i64 0]) (xs':=((List.replicate k 0++[n]:List Int)).map (fun n:Int=>[D.int .i64 n])) O Z Z Z Z Z Z Z Z Z Z Z Z Z Z AX AW) Z (aq ?_)
 refine ba (ar (am [6,12] (e':=[(0,_),(6,_),(7,_)]) Z Z ⟨Z,Z,Z,ap⟩ Z) (ar (Ent.freeze 12 (e':=[(0,_),(6,_),(7,_)]) Z (.cons Z (.keep Z) (.cons Z (.keep Z) (.cons Z (.c (.row Z (by simp))) .nil))) (aZ Z (.skip .nil))) ?_))
 refine ab Z (an O Z Z Z Z (p8 (c:=c) (xs:=List.replicate k 0++[n]) h1 h2) (ac Z) Z Z Z Z (B0:=21000) Z Z (aH Z (jl Z (aq ?_))))
 refine jo Z (aq ?_)
 refine js Z (ba (js Z (jo Z (aq ?_))))
 refine jr ?_
 refine aJ Z ?_
 exact .v (.agg (aE Z))
abbrev xc(ss:List Sm):B:=.row false 8 (ss.map Sm.cells)
abbrev iX:Tm:=⟨0,[1]⟩
theorem Az{low tm:Tm}{s:Src}:(rK low tm s).2.at_≤s.at_+4:=by
 have h1:=cg (s:=s) (n:=4)
 have h2:=cg (s:=(s.pick 4).2) (n:=3)
 have h3:=cg (s:=(s.pick 4).2) (n:=4)
 unfold rK;split
 show(((s.pick 4).2.pick 3).2).at_≤_;omega
 split
 show(((s.pick 4).2.pick 4).2).at_≤_;omega
 split
 show((s.pick 4).2).at_≤_;omega
 show((s.pick 4).2).at_≤_;omega
theorem Il{s:Src}(hs:s.Ok)(ha:s.at_≤999999500):MQ h1 h2 30 [.c (.pt 0 0 0)] [(0,bZ s)] (bb (kK (yh s).1) [(0,bZ (yh s).2)]):=by
 refine MC.shift 500 Z (MC.keep [500] (bs:=[bZ (yh s).2]) Z Z (jH 88 [500] h1 h2 Tryz.func30 Z fun O hF=>?_))
 refine b0 ?_
 obtain⟨R,hR⟩: ∃R,R=yh s:=⟨_,rfl⟩
 rw[←hR]
 have hp0:=cM hs (n:=6) (by omega)
 have hat0:=cg (s:=s) (n:=6)
 refine ae (jl Z (aq ?_))
 refine ba (aU (bp O Z Z Z Z Z Z Z Z Z Z Z) Z (aq ?_))
 refine ar (am [2,500,9] (e':=[(9,_),(0,_),(2,_)]) Z Z ⟨Z,Z,Z,ap⟩ Z) (ar (Ent.freeze 9 (e':=[(9,_),(0,_),(2,_)]) Z (.cons Z (.c (.row Z Z)) (fe [0,2] Z)) (aZ Z (aZ Z (.skip .nil)))) ?_)
 refine aq ?_
 refine aq ?_
 refine js Z (jl Z (aq ?_))
 refine jo Z (aq ?_)
 refine ba (js Z (au O [500] (bin:=[bZ s]) Z Z Z Z (fR (s:=s) (n:=6) h1 h2 hs (by omega) (by omega) (by omega)) Z Z Z Z Z Z (B0:=13000) Z Z (aq ?_)))
 refine av (bi O Z Z (by omega) (by omega)) Z ?_
 obtain⟨r,hr⟩: ∃r,r=3+(s.pick 6).1:=⟨_,rfl⟩
 rw[←hr]
 refine aU (bp O Z Z Z Z Z Z Z Z Z Z Z) Z (aq ?_)
 refine ar (am [2,3,500,14] (e':=[(14,_),(13,_),(0,_),(2,_),(3,_)]) Z Z ⟨Z,Z,Z,Z,Z,ap⟩ Z) (ar (Ent.freeze 14 (e':=[(14,_),(13,_),(0,_),(2,_),(3,_)]) Z (.cons Z (.c (.row Z Z)) (fe [13,0,2,3] Z)) (aZ Z (aZ Z (aZ Z (.skip .nil))))) ?_)
 refine aq ?_
 refine aq ?_
 refine js Z (jl Z (aq ?_))
 refine jo Z (aq ?_)
 refine ba (ab Z (av (bi O Z Z (by omega) (by omega)) Z (aU (bp O Z Z Z Z Z Z Z Z Z Z Z) Z (aq ?_))))
 refine ar (am [2,3,4,500,19] (e':=[(19,_),(18,_),(0,_),(2,_),(3,_),(4,_)]) Z Z ⟨Z,Z,Z,Z,Z,Z,ap⟩ Z) (ar (Ent.freeze 19 (e':=[(19,_),(18,_),(0,_),(2,_),(3,_),(4,_)]) Z (.cons Z (.c (.row Z Z)) (fe [18,0,2,3,4] Z)) (aZ Z (aZ Z (aZ Z (aZ Z (.skip .nil)))))) ?_)
 refine aq ?_
 refine aq ?_
 refine js Z (jl Z (aq ?_))
 refine jo Z (aq ?_)
 refine ba (aU (bp O Z Z Z Z Z Z Z Z Z Z Z) Z (aq ?_))
 refine ar (am [2,3,4,5,500,21] (e':=[(21,_),(0,_),(2,_),(3,_),(4,_),(5,_)]) Z Z ⟨Z,Z,Z,Z,Z,Z,ap⟩ Z) (ar (Ent.freeze 21 (e':=[(21,_),(0,_),(2,_),(3,_),(4,_),(5,_)]) Z (.cons Z (.c (.row Z Z)) (fe [0,2,3,4,5] Z)) (aZ Z (aZ Z (aZ Z (aZ Z (aZ Z (.skip .nil))))))) ?_)
 refine aq ?_
 refine aq ?_
 refine js Z (jl Z (aq ?_))
 refine jo Z (aq ?_)
 refine ba (js Z (au O [500] (bin:=[bZ (s.pick 6).2]) Z Z Z Z (DK (s:=(s.pick 6).2) h1 h2 hs.pick (by omega)) Z Z Z Z Z Z (B0:=25000) Z Z (aq ?_)))
 have hf1:=pQ (hs.pick (n:=6))
 have hf2:=tH (hs.pick (n:=6))
 obtain⟨f,hf⟩: ∃f,f=jp (s.pick 6).2:=⟨_,rfl⟩
 rw[←hf]at hf1 hf2 ⊢
 refine js Z (jl Z (aq ?_))
 refine jo Z (aq ?_)
 refine jn (af (fZ [_,_,_,_,_,_,_,_,_] [pn [] 0 1,pn [] 0 1,aF,pe [2] 0,pn [1,2,3] 1 1,pn [] 0 1,pn [5] 0 1,pe (rg 0 7) 1,pn (rg 0 8) 2 2] [3,7] [_,_,_] (ai (kc Z (V Z)) (ai (kc Z (V Z)) (kc Z (ai (ct O [500] (bin:=[bZ f.2]) Z Z Z Z (DL (s:=f.2) h1 h2 hf1 (by omega)) Z Z Z Z Z (B0:=30000) Z Z Z Z Z Z) (kc Z (ai (kc Z (V Z)) (ai (kc Z (V Z)) (ai (lr O Z Z Z Z Z Z Z Z Z Z Z Z Z) (kc Z trivial))))))))) ?_))
 refine jw [8,7,25,6,22,0,2,3,4,5] Z (b0 ?_)
 refine af (ae ?_)
 have hq1:=mE hf1
 have hq2:=s9 hf1
 obtain⟨q,hq⟩: ∃q,q=mP f.2:=⟨_,rfl⟩
 rw[←hq]at hq1 hq2 ⊢
 refine ar ((am [2,4,5,6,7,33,500] (e':=[(0,_),(2,_),(4,_),(5,_),(6,_),(7,_),(8,_)]) Z Z ⟨Z,Z,Z,Z,Z,Z,Z,ap⟩ Z)) (ar (Ent.rowLe 33 Z (.cons (aQ (aQ (aQ (aQ (.cons (.nil (sz:=1)) (aQ (.cons (.nil (sz:=1)) (.cons (.nil (sz:=2)) .nil)))))))) (.cons (aQ (aQ (aQ (aQ (aQ (aQ (aQ (.cons (.nil (sz:=2)) .nil)))))))) (.cons (aQ (aQ (aQ (aQ (aQ (aQ (.cons (.nil (sz:=1)) (.cons (.nil (sz:=2)) .nil)))))))) .nil)))) (ar (Ent.to (e':=[(0,.c (.pt 500 0 0)),(2,.c (.pt 2 0 0)),(4,.c (.pt 4 0 0)),(5,.c (.pt 5 0 0)),(6,.c (.pt 6 0 0)),(7,.c (.pt 7 0 0)),(8,.c (.rs 33 0 3))]) (H':=[(2,.box [.d .nils,.d .nils,.d .nils]),(4,.box [.d (.int .i64 r),.d (cY [-1])]),(5,.box [.d (.int .i64 (r-1)),.d (cY [-1])]),(6,.box [.d (.int .i64 0),.d (cY [1])]),(7,.box [.d (fC f.1),.d .nils,.d .nils]),(33,xc [jm,BY iX q.1,jk 0 ⟨1,[1]⟩]),(500,bZ q.2)]) ⟨Z,Z,Z,Z,Z,Z,Z,ap⟩ Z) (js Z ?_)))
 have hq3:=cg (s:=q.2) (n:=4)
 refine au O [500] (bin:=[bZ q.2]) Z Z Z Z (fR (s:=q.2) (n:=4) h1 h2 hq1 (by omega) (by omega) (by omega)) Z Z Z Z Z Z (B0:=36000) Z Z (aq ?_)
 refine jn (nb ⟨[(0,.c (.pt 500 0 0)),(2,.c (.pt 2 0 0)),(4,.c (.pt 4 0 0)),(5,.c (.pt 5 0 0)),(6,.c (.pt 6 0 0)),(7,.c (.pt 7 0 0)),(8,.c (.rs 33 0 3))],[(2,.box [.d .nils,.d .nils,.d .nils]),(4,.box [.d (.int .i64 r),.d (cY [-1])]),(5,.box [.d (.int .i64 (r-1)),.d (cY [-1])]),(6,.box [.d (.int .i64 0),.d (cY [1])]),(7,.box [.d (fC f.1),.d .nils,.d .nils]),(33,xc [jm,(rK iX q.1 q.2).1,jk 0 ⟨1,[1]⟩]),(500,bZ (rK iX q.1 q.2).2)]⟩ ?_ ?_)
 refine ao (ae (ab Z (jn (ah Z (fun z36=>?_) (fun z36=>?_)))))
 refine jw [37,35,34,0,2,4,5,6,7,8] Z ?_
 have hp3:=cM (hq1.pick (n:=4)) (n:=3) (by omega)
 refine fZ [_,_,_,_,_,_,_,_] [pn [] 0 1,aF,pe [1] 0,pn [1,2] 1 1,pn [] 0 1,pn (rg 1 4) 1 1,pn (rg 0 6) 1 1,pe (rg 0 7) 1] [2,7] [_,_,_] (ai (kc Z (V Z)) (kc Z (ai (ct O [500] (bin:=[bZ (q.2.pick 4).2]) Z Z Z Z (fR (s:=(q.2.pick 4).2) (n:=3) h1 h2 hq1.pick (by omega) (by omega) (by omega)) Z Z Z Z Z (B0:=41000) Z Z Z Z Z Z) (ai (bi O Z Z (by omega) (by omega)) (ai (kc Z (V Z)) (kc Z (ai (eF (c:=(0:Int)≤1∧(1:Int)<((3:Nat):Int)) (v:=.c (.pt 33 1 0)) O Z Z (by decide)) (ai (cR O Z Z Z Z Z Z Z Z Z Z Z Z Z Z Z Z Z Z) trivial)))))))) ?_
 rw[show rK iX q.1 q.2=_ from if_pos (bK z36)]
 exact⟨Z,(am [2,4,5,6,7,33,500] (e':=[(0,_),(2,_),(4,_),(5,_),(6,_),(7,_),(8,_)]) Z Z ⟨Z,Z,Z,Z,Z,Z,Z,ap⟩ Z).trans ((Ent.rowLe 33 Z (.cons (aQ (aQ (aQ (aQ (aQ (aQ (aQ (.cons .refl .nil)))))))) (.cons (aQ (aQ (aQ (aQ (.cons (.nil (sz:=1)) (aQ (aQ (.cons (.nil (sz:=2)) .nil)))))))) (.cons (aQ (aQ (aQ (aQ (aQ (aQ (aQ (.cons .refl .nil)))))))) .nil)))).trans (Ent.to ⟨Z,Z,Z,Z,Z,Z,Z,ap⟩ Z))⟩
 refine ae (ab Z (jn (ah Z (fun z45=>?_) (fun z45=>?_))))
 refine ak (ab Z (au O [500] (bin:=[bZ (q.2.pick 4).2]) Z Z Z Z (fR (s:=(q.2.pick 4).2) (n:=4) h1 h2 hq1.pick (by omega) (by omega) (by omega)) Z Z Z Z Z Z (B0:=50000) Z Z (aq ?_)))
 refine js Z (av (eF (c:=(0:Int)≤1∧(1:Int)<((3:Nat):Int)) (v:=.c (.pt 33 1 0)) O Z Z (by decide)) Z (aU (ca O Z Z Z Z Z Z Z Z Z Z Z Z Z Z Z Z) Z (aq ?_)))
 refine jn ?_
 rw[show rK iX q.1 q.2=_ from(if_neg (cu z36)).trans (if_pos (bK z45))]
 exact⟨Z,(am [2,4,5,6,7,33,500] (e':=[(0,_),(2,_),(4,_),(5,_),(6,_),(7,_),(8,_)]) Z Z ⟨Z,Z,Z,Z,Z,Z,Z,ap⟩ Z).trans ((Ent.rowLe 33 Z (.cons (aQ (aQ (aQ (aQ (aQ (aQ (aQ (.cons .refl .nil)))))))) (.cons (aQ (aQ (aQ (aQ (.cons (.nil (sz:=1)) (aQ (.cons (.nil (sz:=1)) (.cons (.nil (sz:=2)) .nil)))))))) (.cons (aQ (aQ (aQ (aQ (aQ (aQ (aQ (.cons .refl .nil)))))))) .nil)))).trans (Ent.to ⟨Z,Z,Z,Z,Z,Z,Z,ap⟩ Z))⟩
 refine ae (ab Z (jn (ah Z (fun z52=>?_) (fun z52=>?_))))
 refine ak (aH Z (av (eF (c:=(0:Int)≤1∧(1:Int)<((3:Nat):Int)) (v:=.c (.pt 33 1 0)) O Z Z (by decide)) Z (aU (ca O Z Z Z Z Z Z Z Z Z Z Z Z Z Z Z Z) Z (aq ?_))))
 refine jn ?_
 rw[show rK iX q.1 q.2=_ from(if_neg (cu z36)).trans ((if_neg (cu z45)).trans (if_pos (bK z52)))]
 exact⟨Z,(am [2,4,5,6,7,33,500] (e':=[(0,_),(2,_),(4,_),(5,_),(6,_),(7,_),(8,_)]) Z Z ⟨Z,Z,Z,Z,Z,Z,Z,ap⟩ Z).trans ((Ent.rowLe 33 Z (.cons (aQ (aQ (aQ (aQ (aQ (aQ (aQ (.cons .refl .nil)))))))) (.cons (aQ (aQ (aQ (aQ (aQ (aQ (.cons (.nil (sz:=1)) (.cons (.nil (sz:=2)) .nil)))))))) (.cons (aQ (aQ (aQ (aQ (aQ (aQ (aQ (.cons .refl .nil)))))))) .nil)))).trans (Ent.to ⟨Z,Z,Z,Z,Z,Z,Z,ap⟩ Z))⟩
 refine aj ?_
 rw[show rK iX q.1 q.2=_ from(if_neg (cu z36)).trans ((if_neg (cu z45)).trans (if_neg (cu z52)))]
 exact⟨Z,(am [2,4,5,6,7,33,500] (e':=[(0,_),(2,_),(4,_),(5,_),(6,_),(7,_),(8,_)]) Z Z ⟨Z,Z,Z,Z,Z,Z,Z,ap⟩ Z).trans (Ent.to ⟨Z,Z,Z,Z,Z,Z,Z,ap⟩ Z)⟩
 refine af ?_
 have hm1:=(zT (low:=iX) hq1 (by decide) (show q.1.term=true from hq ▸ nF hf1)).2.2
 have hm2:=Az (low:=iX) (tm:=q.1) (s:=q.2)
 refine sJ O _ [_,_,_,_,_,_,_,_,_,_,_,_,_] [pn [] 0 1,aF,pe [1] 0,pn [1,2] 1 1,pn [1,2,3] 1 1,pn [] 0 1,pn [] 0 1,pn [] 0 1,pn [6,7] 0 1,pn (rg 5 4) 0 1,pe (rg 0 10) 1,pn (rg 0 11) 2 2,pe (rg 0 12) 2] [2,10,12] 0 [_,_,_,_] [] Z Z (by decide) (by decide) (by decide) Z (by kernel_rfl) (ai (ai (ai (aI (me (V Z) Z Z)) Z) (ai (aI (me (V Z) Z Z)) Z)) (ai (ai (aB (.inl (V Z)) (.inl (V Z))) Z) (ai (ai (aB (aI (ct O [500] (bin:=[bZ (rK iX q.1 q.2).2]) Z Z Z Z (fR (s:=(rK iX q.1 q.2).2) (n:=2) h1 h2 hm1 (by omega) (by omega) (by omega)) Z Z Z Z Z (B0:=61000) Z Z Z Z Z Z)) (aI (ct O [500] (bin:=[bZ (rK iX q.1 q.2).2]) Z Z Z Z (fR (s:=(rK iX q.1 q.2).2) (n:=2) h1 h2 hm1 (by omega) (by omega) (by omega)) Z Z Z Z Z (B0:=61000) Z Z Z Z Z Z))) Z) (ai (ai (aB (.inl (V Z)) (.inl (V Z))) Z) (ai (ai (aB (.inl (V Z)) (.inl (V Z))) Z) (ai (ai (ai (aB (.inl (V Z)) (.inl (V Z))) Z) (ai (aB (.inl (V Z)) (.inl (V Z))) Z)) (ai (ai (ai (aB (.inl (V Z)) (.inl (V Z))) Z) (ai (aB (.inl (V Z)) (.inl (V Z))) Z)) (ai (ai (ai (aB (.inl (V Z)) (.inl (V Z))) Z) (ai (aB (.inl (V Z)) (.inl (V Z))) Z)) (ai (ai (ai (aB (.inr (hZ O Z Z Z Z Z Z Z Z Z Z Z Z Z (by repeat' (first|exact .nil|refine .skip ?_|refine bh Z ?_|refine .cons Z (.box (FMs.keep Z)) ?_)))) (.inr (hZ O Z Z Z Z Z Z Z Z Z Z Z Z Z (by repeat' (first|exact .nil|refine .skip ?_|refine bh Z ?_|refine .cons Z (.box (FMs.keep Z)) ?_))))) Z) (ai (aB (.inr (hZ O Z Z Z Z Z Z Z Z Z Z Z Z Z (by repeat' (first|exact .nil|refine .skip ?_|refine bh Z ?_|refine .cons Z (.box (FMs.keep Z)) ?_)))) (.inr (hZ O Z Z Z Z Z Z Z Z Z Z Z Z Z (by repeat' (first|exact .nil|refine .skip ?_|refine bh Z ?_|refine .cons Z (.box (FMs.keep Z)) ?_))))) Z)) (ai (ai (ai (aB (.inl (V Z)) (.inl (V Z))) Z) (ai (aB (.inl (V Z)) (.inl (V Z))) Z)) (ai (ai (aB trivial (aI (lr O Z Z Z Z Z Z Z Z Z Z Z Z Z))) Z) (ai (ai (aB trivial (.inl (V Z))) Z) (ai (ai (aB trivial (aI (eS Z Z Z))) Z) trivial))))))))))))) ?_
 refine jw [0,2,4,5,6,7,8] Z (b0 ?_)
 refine ae ?_
 obtain⟨m,hm⟩: ∃m,m=rK iX q.1 q.2:=⟨_,rfl⟩
 rw[←hm]at hm1 hm2 ⊢
 refine ar (am [2,4,7,33,500,68] (e':=[(0,_),(2,_),(4,_),(7,_),(8,_)]) Z Z ⟨Z,Z,Z,Z,Z,ap⟩ Z) (ar (Ent.rowLe 68 Z (.cons (aQ (aQ (aQ (aQ (.cons (.nil (sz:=1)) (aQ (.cons (.nil (sz:=1)) (.cons (.nil (sz:=2)) .nil)))))))) (.cons (aQ (aQ (aQ (aQ (.cons (.nil (sz:=1)) (aQ (.cons (.nil (sz:=1)) (.cons (.nil (sz:=2)) .nil)))))))) (.cons (aQ (aQ (aQ (aQ (aQ (aQ (.cons (.nil (sz:=1)) (.cons .refl .nil)))))))) .nil)))) (ar (Ent.to (e':=[(0,.c (.pt 500 0 0)),(2,.c (.pt 2 0 0)),(4,.c (.pt 4 0 0)),(7,.c (.pt 7 0 0)),(8,.c (.rs 33 0 3))]) (H':=[(2,.box [.d .nils,.d .nils,.d .nils]),(4,.box [.d (.int .i64 r),.d (cY [-1])]),(7,.box [.d (fC f.1),.rs 68 0 3,.d .nils]),(33,xc [jm,m.1,jk 0 ⟨1,[1]⟩]),(500,bZ (m.2.pick 2).2),(68,xc [jm,jk 0 ⟨(m.2.pick 2).1,[]⟩,kU ⟨r-1,[-1]⟩ [iX,⟨r,[-1]⟩]])]) ⟨Z,Z,Z,Z,Z,ap⟩ Z) (aH Z (aU (cU (own:=false) (xs:=([jm,jk 0 ⟨(m.2.pick 2).1,[]⟩,kU ⟨r-1,[-1]⟩ [iX,⟨r,[-1]⟩]]:List Sm).map Sm.cells) (ys:=([jm,m.1,jk 0 ⟨1,[1]⟩]:List Sm).map Sm.cells) (zs:=([jm,jk 0 ⟨(m.2.pick 2).1,[]⟩,kU ⟨r-1,[-1]⟩ [iX,⟨r,[-1]⟩],jm,m.1,jk 0 ⟨1,[1]⟩]:List Sm).map Sm.cells) (n:=6) O Z (.row Z Z) (.whole Z Z (.inr ⟨Z,Z⟩)) (by simp) Z (by simp;omega) (by simp) Z Z) Z (aq ?_)))))
 refine aq ?_
 refine js Z (jo Z (aq ?_))
 refine ba (ab Z (av (bi O Z Z (by omega) (by omega)) Z ?_))
 rw[show(0:Int)-r= -r from Int.zero_sub r]
 refine aU (bp O Z Z Z Z Z Z Z Z Z Z Z) Z (aq ?_)
 refine ar (am [2,7,73,500,78] (e':=[(78,_),(77,_),(0,_),(2,_),(7,_)]) Z Z ⟨Z,Z,Z,Z,Z,ap⟩ Z) (ar (Ent.freeze 78 (e':=[(78,_),(77,_),(0,_),(2,_),(7,_)]) Z (.cons Z (.c (.row Z Z)) (fe [77,0,2,7] Z)) (aZ Z (aZ Z (bh Z (aZ Z (.skip .nil)))))) ?_)
 refine aq ?_
 refine aq ?_
 refine js Z (aU (bp O Z Z Z Z Z Z Z Z Z Z Z) Z (aq ?_))
 refine aq ?_
 refine js Z (jo Z (aq ?_))
 refine jn (af (ae (ar (am [2,7,73,80,500] (e':=[(0,_),(2,_),(7,_)]) Z Z ⟨Z,Z,Z,ap⟩ Z) (ar (Ent.freeze 73 (e':=[(0,_),(2,_),(7,_)]) Z (fe [0,2,7] Z) (aZ Z (.cons Z (.box (dw Z (.cons (.row Z Z) (fk Z)))) (.skip (bh Z (aZ Z .nil)))))) ?_))))
 refine ar (Ent.freeze 80 (e':=[(0,_),(2,_),(7,_)]) Z (fe [0,2,7] Z) (aZ Z (.cons Z (.box (dw Z (dw Z (.cons (.row Z Z) .nil)))) (.skip (aZ Z .nil))))) ?_
 refine ar (Ent.to (e':=[(0,.c (.pt 500 0 0)),(2,.c (.pt 2 0 0)),(7,.c (.pt 7 0 0))]) (H':=[(2,.box [.d .nils,.d .nils,.d .nils]),(7,.box [.d (fC f.1),.d (kI [jm,jk 0 ⟨(m.2.pick 2).1,[]⟩,kU ⟨r-1,[-1]⟩ [iX,⟨r,[-1]⟩],jm,m.1,jk 0 ⟨1,[1]⟩]),.d (fC [⟨-r,[1]⟩])]),(500,bZ (m.2.pick 2).2)]) ⟨Z,Z,Z,ap⟩ Z) ?_
 have hm3:=cg (s:=m.2) (n:=2)
 have hm4:=cg (s:=(m.2.pick 2).2) (n:=4)
 refine js Z (au O [500] (bin:=[bZ (m.2.pick 2).2]) Z Z Z Z (xl (s:=(m.2.pick 2).2) (n:=4) h1 h2 hm1.pick (by omega) (by omega) (by omega)) Z Z Z Z Z Z (B0:=84000) Z Z (aq ?_))
 refine jn (ah Z (fun z83=>?_) (fun z83=>?_))
 refine ak (js Z (au O [500] (bin:=[bZ ((m.2.pick 2).2.pick 4).2]) Z Z Z Z (DK (s:=((m.2.pick 2).2.pick 4).2) h1 h2 hm1.pick.pick (by omega)) Z Z Z Z Z Z (B0:=86000) Z Z (aq ?_)))
 refine js Z (jo Z (aq ?_))
 refine ba (js Z (jo Z (aq ?_)))
 refine jr ?_
 have ho:=bK z83
 have hR2:R=yo r f.1 m:=by rw[hR,hm,hq,hf,hr];rfl
 rw[show R=⟨⟨f.1,[jm,jk 0 ⟨(m.2.pick 2).1,[]⟩,kU ⟨r-1,[-1]⟩ [iX,⟨r,[-1]⟩],jm,m.1,jk 0 ⟨1,[1]⟩],(jp ((m.2.pick 2).2.pick 4).2).1⟩,(jp ((m.2.pick 2).2.pick 4).2).2⟩from hR2.trans (by unfold yo mV;rw[if_pos ho])]
 refine⟨.inl Z,_,b9,_,Z,Z,Z⟩
 refine aj (ae (js Z (jo Z (aq ?_))))
 refine jr ?_
 have ho:=cu z83
 have hR2:R=yo r f.1 m:=by rw[hR,hm,hq,hf,hr];rfl
 rw[show R=⟨⟨f.1,[jm,jk 0 ⟨(m.2.pick 2).1,[]⟩,kU ⟨r-1,[-1]⟩ [iX,⟨r,[-1]⟩],jm,m.1,jk 0 ⟨1,[1]⟩],[⟨-r,[1]⟩]⟩,((m.2.pick 2).2.pick 4).2⟩from hR2.trans (by unfold yo mV;rw[if_neg ho])]
 refine⟨.inl Z,_,b9,_,Z,Z,Z⟩
theorem EW{s:Src}(h:s.Ok):(yh s).2.at_≤s.at_+130:=by
 have h0:=cg (s:=s) (n:=6)
 have hf:=tH (h.pick (n:=6))
 have hfo:=pQ (h.pick (n:=6))
 have ht:=s9 hfo
 have hm:=Az (low:=iX) (tm:=(mP (jp (s.pick 6).2).2).1) (s:=(mP (jp (s.pick 6).2).2).2)
 have hmo:=(zT (low:=iX) (mE hfo) (by decide) (nF hfo)).2.2
 unfold yh Eh
 generalize rK ⟨0,[1]⟩ (mP (jp (s.pick 6).2).2).1 (mP (jp (s.pick 6).2).2).2=m at hm hmo
 have h2:=cg (s:=m.2) (n:=2)
 have h3:=cg (s:=(m.2.pick 2).2) (n:=4)
 have h4:=tH ((hmo.pick (n:=2)).pick (n:=4))
 show(mV _ (m.2.pick 2).2).2.at_≤_
 unfold mV;split
 omega
 simp only;omega
theorem Ip(hx: ∀n∈xs,0≤n∧n≤255):MQ h1 h2 14 [.c (.d (bys xs))] [] (Plain (kK (Cj xs))):=by
 refine MC.data (jB 97 h1 h2 Tryz.func14 Z fun O hF=>?_)
 obtain⟨R,hR⟩: ∃R,R=Cj xs:=⟨_,rfl⟩
 rw[←hR]
 have hs:(⟨xs,0,0⟩:Src).Ok:=⟨hx⟩
 have ha:(⟨xs,0,0⟩:Src).at_=0:=rfl
 refine ae (jl Z (aq ?_))
 refine ba (js Z (au O [] (bin:=[]) Z Z Z Z (DM (xs:=xs) h1 h2) Z Z Z Z Z Z (B0:=12000) Z Z (aq ?_)))
 refine js Z (ba (js Z (au O [12000] (bin:=[bZ ⟨xs,0,0⟩]) Z Z Z Z (Il (s:=⟨xs,0,0⟩) h1 h2 hs (by omega)) Z Z Z Z Z Z (B0:=14000) Z Z (aq ?_))))
 have hd1:=(Ay hs).2
 have hd2:=EW hs
 obtain⟨d,hd⟩: ∃d,d=yh ⟨xs,0,0⟩:=⟨_,rfl⟩
 rw[←hd]at hd1 hd2 ⊢
 refine jl Z (aq ?_)
 refine jo Z (aq ?_)
 refine ba (js Z (jn (af (ae (js Z ?_)))))
 have hp1:=cg (s:=d.2) (n:=4)
 have hp2:=cg (s:=(d.2.pick 4).2) (n:=5)
 refine au O [12000] (bin:=[bZ d.2]) Z Z Z Z (xl (s:=d.2) (n:=4) h1 h2 hd1 (by omega) (by omega) (by omega)) Z Z Z Z Z Z (B0:=16000) Z Z (aq ?_)
 refine jn ?_
 obtain⟨off,hoff⟩: ∃off:Int,off=if(d.2.pick 4).1=0 then 1 else 0:=⟨_,rfl⟩
 refine nb ⟨[(2,.c (.pt 2 0 0)),(3,.c (.pt 12000 0 0)),(4,.c (.pt 4 0 0)),(5,eI off)],[(2,.box [.d .nils,.d .nils,.d .nils]),(4,.box [.d (fC d.1.pre),.d (kI d.1.body),.d (fC d.1.post)]),(12000,bZ (d.2.pick 4).2)]⟩ ?_ ?_
 refine ah Z (fun z15=>?_) (fun z15=>?_)
 refine ak (js Z (jn ?_))
 have ho:off=1:=hoff.trans (if_pos (bK z15))
 exact⟨Z,(am [2,4,12000] (e':=[(2,_),(3,_),(4,_),(5,_)]) Z Z ⟨Z,Z,Z,Z,ap⟩ Z).trans (Ent.to ⟨Z,Z,Z,by rw[ho];rfl,ap⟩ Z)⟩
 refine aj ?_
 have ho:off=0:=hoff.trans (if_neg (cu z15))
 exact⟨Z,(am [2,4,12000] (e':=[(2,_),(3,_),(4,_),(5,_)]) Z Z ⟨Z,Z,Z,Z,ap⟩ Z).trans (Ent.to ⟨Z,Z,Z,by rw[ho];rfl,ap⟩ Z)⟩
 refine af (ae (js Z (au O [12000] (bin:=[bZ (d.2.pick 4).2]) Z Z Z Z (fR (s:=(d.2.pick 4).2) (n:=5) h1 h2 hd1.pick (by omega) (by omega) (by omega)) Z Z Z Z Z Z (B0:=18000) Z Z (aq ?_))))
 refine jn (nb ⟨[(2,.c (.pt 2 0 0)),(4,.c (.pt 4 0 0))],[(2,.box [.d .nils,.d .nils,.d .nils]),(4,.box [.d (fC (qa off d.1 (d.2.pick 4).2).1.pre),.d (kI (qa off d.1 (d.2.pick 4).2).1.body),.d (fC (qa off d.1 (d.2.pick 4).2).1.post)])]⟩ ?_ ?_)
 refine ao (ae (ab Z (jn (ah Z (fun z18=>?_) (fun z18=>?_)))))
 refine ae (aU (bp O Z Z Z Z Z Z Z Z Z Z Z) Z (aq ?_))
 refine ar (am [2,4,12000,20] (e':=[(20,_),(2,_),(3,_),(4,_),(5,_)]) Z Z ⟨Z,Z,Z,Z,Z,ap⟩ Z) (ar (Ent.freeze 20 (e':=[(20,_),(2,_),(3,_),(4,_),(5,_)]) Z (.cons Z (.c (.row Z Z)) (fe [2,3,4,5] Z)) (aZ Z (aZ Z (aZ Z (.skip .nil))))) ?_)
 refine aq ?_
 refine aq ?_
 refine js Z (jo Z (aq ?_))
 refine ba (js Z (an O Z Z Z Z (i7 (c:=0) (k:=1) (n:=2) h1 h2 (by decide)) (ac Z) Z Z Z Z (B0:=24000) Z Z (js Z (an O Z Z Z Z (i7 (c:= -1) (k:=2) (n:=1) h1 h2 (by decide)) (ac Z) Z Z Z Z (B0:=26000) Z Z (ab Z ?_)))))
 have hof:0≤off∧off≤1:=by rw[hoff];split<;>decide
 refine av (bi O Z Z (by omega) (by omega)) Z (an O Z Z Z Z (i7 (c:= -1-off) (k:=1) (n:=1) h1 h2 (by decide)) (ac Z) Z Z Z Z (B0:=30000) Z Z (js Z (an O Z Z Z Z (i7 (c:=0) (k:=1) (n:= -1) h1 h2 (by decide)) (ac Z) Z Z Z Z (B0:=32000) Z Z (js Z (aU (bp O Z Z Z Z Z Z Z Z Z Z Z) Z (aq ?_))))))
 refine ar (Ent.rowLe 33 Z (.cons (aQ (aQ (aQ (aQ (.cons (.nil (sz:=1)) (aQ (.cons (.nil (sz:=1)) (.cons (.nil (sz:=2)) .nil)))))))) (.cons (aQ (aQ (aQ (aQ (aQ (aQ (.cons (.nil (sz:=1)) (.cons (.nil (sz:=2)) .nil)))))))) (.cons (aQ (aQ (aQ (aQ (aQ (aQ (.cons (.nil (sz:=1)) (.cons (.nil (sz:=2)) .nil)))))))) (.cons (aQ (aQ (aQ (aQ (aQ (aQ (.cons (.nil (sz:=1)) (.cons (.nil (sz:=2)) .nil)))))))) (.cons (aQ (aQ (aQ (aQ (aQ (aQ (.cons (.nil (sz:=1)) (.cons (.nil (sz:=2)) .nil)))))))) .nil)))))) (ar (am [2,4,12000,33] (e':=[(33,_),(2,_),(3,_),(4,_),(5,_)]) Z Z ⟨Z,Z,Z,Z,Z,ap⟩ Z) (ar (Ent.freeze 33 (e':=[(33,_),(2,_),(3,_),(4,_),(5,_)]) Z (.cons Z (.c (.row Z Z)) (fe [2,3,4,5] Z)) (aZ Z (aZ Z (aZ Z (.skip .nil))))) ?_))
 refine aq ?_
 refine aq ?_
 refine js Z (jo Z (aq ?_))
 refine jn (ak (aU (bp O Z Z Z Z Z Z Z Z Z Z Z) Z (aq ?_)))
 refine ar (am [2,4,12000,35] (e':=[(35,_),(2,_),(3,_),(4,_),(5,_)]) Z Z ⟨Z,Z,Z,Z,Z,ap⟩ Z) (ar (Ent.freeze 35 (e':=[(35,_),(2,_),(3,_),(4,_),(5,_)]) Z (.cons Z (.c (.row Z Z)) (fe [2,3,4,5] Z)) (aZ Z (aZ Z (aZ Z (.skip .nil))))) ?_)
 refine aq ?_
 refine aq ?_
 refine js Z (jo Z (aq ?_))
 refine jn ?_
 rw[show qa off d.1 (d.2.pick 4).2=_ from if_pos (bK z18)]
 exact⟨Z,(am [2,4] (e':=[(2,_),(4,_)]) Z Z ⟨Z,Z,ap⟩ Z).trans (Ent.to ⟨Z,Z,ap⟩ Z)⟩
 refine ae (ab Z (jn (ah Z (fun z37=>?_) (fun z37=>?_))))
 refine ae (js Z (au O [12000] (bin:=[bZ ((d.2.pick 4).2.pick 5).2]) Z Z Z Z (fR (s:=((d.2.pick 4).2.pick 5).2) (n:=9) h1 h2 hd1.pick.pick (by omega) (by omega) (by omega)) Z Z Z Z Z Z (B0:=41000) Z Z (aq ?_)))
 have hp3:=cM ((hd1.pick (n:=4)).pick (n:=5)) (n:=9) (by omega)
 refine av (bi O Z Z (by omega) (by omega)) Z (js Z (ba ?_))
 obtain⟨z,hz⟩: ∃z,z=((((d.2.pick 4).2.pick 5).2.pick 9).1-4):=⟨_,rfl⟩
 rw[←hz]
 refine aU (bp O Z Z Z Z Z Z Z Z Z Z Z) Z (aq ?_)
 refine ar (am [2,4,12000,42] (e':=[(42,_),(2,_),(3,_),(4,_),(5,_),(6,_)]) Z Z ⟨Z,Z,Z,Z,Z,Z,ap⟩ Z) (ar (Ent.freeze 42 (e':=[(42,_),(2,_),(3,_),(4,_),(5,_),(6,_)]) Z (.cons Z (.c (.row Z Z)) (fe [2,3,4,5,6] Z)) (aZ Z (aZ Z (aZ Z (.skip .nil))))) ?_)
 refine aq ?_
 refine aq ?_
 refine js Z (jo Z (aq ?_))
 refine ba (js Z (av (bi O Z Z (by omega) (by omega)) Z ?_))
 rw[show(0:Int)-z= -z from Int.zero_sub _]
 refine an O Z Z Z Z (i7 (c:= -z) (k:=1) (n:=1) h1 h2 (by decide)) (ac Z) Z Z Z Z (B0:=47000) Z Z (ab Z (av (bi O Z Z (by omega) (by omega)) Z ?_))
 rw[show(0:Int)-z= -z from Int.zero_sub _]
 refine an O Z Z Z Z (i7 (c:= -z) (k:=1) (n:=1) h1 h2 (by decide)) (ac Z) Z Z Z Z (B0:=51000) Z Z (aH Z ?_)
 have hof:0≤off∧off≤1:=by rw[hoff];split<;>decide
 refine av (bi O Z Z (by omega) (by omega)) Z (an O Z Z Z Z (i7 (c:=z-off) (k:=1) (n:= -1) h1 h2 (by decide)) (ac Z) Z Z Z Z (B0:=56000) Z Z (js Z (aU (bp O Z Z Z Z Z Z Z Z Z Z Z) Z (aq ?_))))
 refine ar (Ent.rowLe 57 Z (.cons (aQ (aQ (aQ (aQ (aQ (aQ (.cons (.nil (sz:=1)) (.cons (.nil (sz:=2)) .nil)))))))) (.cons (aQ (aQ (aQ (aQ (aQ (aQ (.cons (.nil (sz:=1)) (.cons (.nil (sz:=2)) .nil)))))))) (.cons (aQ (aQ (aQ (aQ (aQ (aQ (.cons (.nil (sz:=1)) (.cons (.nil (sz:=2)) .nil)))))))) .nil)))) (ar (am [2,4,12000,57] (e':=[(57,_),(2,_),(3,_),(4,_),(5,_)]) Z Z ⟨Z,Z,Z,Z,Z,ap⟩ Z) (ar (Ent.freeze 57 (e':=[(57,_),(2,_),(3,_),(4,_),(5,_)]) Z (.cons Z (.c (.row Z Z)) (fe [2,3,4,5] Z)) (aZ Z (aZ Z (aZ Z (.skip .nil))))) ?_))
 refine aq ?_
 refine aq ?_
 refine js Z (jo Z (aq ?_))
 refine jn (ak (an O Z Z Z Z (i7 (c:=0) (k:=0) (n:=1) h1 h2 (by decide)) (ac Z) Z Z Z Z (B0:=60000) Z Z (aU (bp O Z Z Z Z Z Z Z Z Z Z Z) Z (aq ?_))))
 refine ar (am [2,4,12000,60] (e':=[(60,_),(2,_),(3,_),(4,_),(5,_)]) Z Z ⟨Z,Z,Z,Z,Z,ap⟩ Z) (ar (Ent.freeze 60 (e':=[(60,_),(2,_),(3,_),(4,_),(5,_)]) Z (.cons Z (.c (.row Z Z)) (fe [2,3,4,5] Z)) (aZ Z (aZ Z (aZ Z (.skip .nil))))) ?_)
 refine aq ?_
 refine aq ?_
 refine js Z (jo Z (aq ?_))
 refine jn ?_
 subst hz
 rw[show qa off d.1 (d.2.pick 4).2=_ from(if_neg (cu z18)).trans (if_pos (bK z37))]
 exact⟨Z,(am [2,4] (e':=[(2,_),(4,_)]) Z Z ⟨Z,Z,ap⟩ Z).trans (Ent.to ⟨Z,Z,ap⟩ Z)⟩
 refine ae (ab Z (jn (ah Z (fun z62=>?_) (fun z62=>?_))))
 refine ae (js Z (au O [12000] (bin:=[bZ ((d.2.pick 4).2.pick 5).2]) Z Z Z Z (fR (s:=((d.2.pick 4).2.pick 5).2) (n:=4) h1 h2 hd1.pick.pick (by omega) (by omega) (by omega)) Z Z Z Z Z Z (B0:=66000) Z Z (aq ?_)))
 have hp4:=cg (s:=((d.2.pick 4).2.pick 5).2) (n:=4)
 refine js Z (ba (an O Z Z Z Z (i7 (c:=0) (k:=1) (n:=1) h1 h2 (by decide)) (ac Z) Z Z Z Z (B0:=67000) Z Z (js Z ?_)))
 have hof:0≤off∧off≤1:=by rw[hoff];split<;>decide
 refine av (bi O Z Z (by omega) (by omega)) Z (an O Z Z Z Z (i7 (c:=7+off) (k:=1) (n:= -1) h1 h2 (by decide)) (ac Z) Z Z Z Z (B0:=70000) Z Z (aU (bp O Z Z Z Z Z Z Z Z Z Z Z) Z (aq ?_)))
 refine ar (am [2,4,12000,70] (e':=[(70,_),(2,_),(3,_),(4,_),(5,_),(7,_)]) Z Z ⟨Z,Z,Z,Z,Z,Z,ap⟩ Z) (ar (Ent.freeze 70 (e':=[(70,_),(2,_),(3,_),(4,_),(5,_),(7,_)]) Z (.cons Z (.c (.row Z Z)) (fe [2,3,4,5,7] Z)) (aZ Z (aZ Z (aZ Z (.skip .nil))))) ?_)
 refine aq ?_
 refine aq ?_
 refine js Z (jo Z (aq ?_))
 refine ba (js Z (an O Z Z Z Z (i7 (c:=0) (k:=1) (n:=1) h1 h2 (by decide)) (ac Z) Z Z Z Z (B0:=74000) Z Z (ab Z (an O Z Z Z Z (i7 (c:=0) (k:=1) (n:=1) h1 h2 (by decide)) (ac Z) Z Z Z Z (B0:=77000) Z Z (an O Z Z Z Z (i7 (c:=1) (k:=2) (n:=1) h1 h2 (by decide)) (ac Z) Z Z Z Z (B0:=78000) Z Z (az Z (js Z (au O [12000] (bin:=[bZ (((d.2.pick 4).2.pick 5).2.pick 4).2]) Z Z Z Z (fR (s:=(((d.2.pick 4).2.pick 5).2.pick 4).2) (n:=3) h1 h2 hd1.pick.pick.pick (by omega) (by omega) (by omega)) Z Z Z Z Z Z (B0:=84000) Z Z (aq ?_)))))))))
 refine an O Z Z Z Z (i7 (c:=((((d.2.pick 4).2.pick 5).2.pick 4).2.pick 3).1) (k:=2) (n:=1) h1 h2 (by decide)) (ac Z) Z Z Z Z (B0:=85000) Z Z (js Z (aU (bp O Z Z Z Z Z Z Z Z Z Z Z) Z (aq ?_)))
 refine ar (Ent.rowLe 86 Z (.cons (aQ (aQ (aQ (aQ (.cons (.nil (sz:=1)) (aQ (.cons (.nil (sz:=1)) (.cons (.nil (sz:=2)) .nil)))))))) (.cons (aQ (aQ (aQ (aQ (.cons (.nil (sz:=1)) (aQ (aQ (.cons (.nil (sz:=2)) .nil)))))))) (.cons (aQ (aQ (aQ (aQ (.cons (.nil (sz:=1)) (aQ (.cons (.nil (sz:=1)) (.cons (.nil (sz:=2)) .nil)))))))) (.cons (aQ (aQ (aQ (aQ (aQ (aQ (aQ (.cons (.nil (sz:=2)) .nil)))))))) (.cons (aQ (aQ (aQ (aQ (.cons (.nil (sz:=1)) (aQ (.cons (.nil (sz:=1)) (.cons (.nil (sz:=2)) .nil)))))))) (.cons (aQ (aQ (aQ (aQ (.cons (.nil (sz:=1)) (aQ (.cons (.nil (sz:=1)) (.cons (.nil (sz:=2)) .nil)))))))) (.cons (aQ (aQ (aQ (aQ (aQ (aQ (.cons (.nil (sz:=1)) (.cons (.nil (sz:=2)) .nil)))))))) .nil)))))))) (ar (am [2,4,12000,86] (e':=[(86,_),(2,_),(3,_),(4,_)]) Z Z ⟨Z,Z,Z,Z,ap⟩ Z) (ar (Ent.freeze 86 (e':=[(86,_),(2,_),(3,_),(4,_)]) Z (.cons Z (.c (.row Z Z)) (fe [2,3,4] Z)) (aZ Z (aZ Z (aZ Z (.skip .nil))))) ?_))
 refine aq ?_
 refine aq ?_
 refine js Z (jo Z (aq ?_))
 refine ba (aU (bp O Z Z Z Z Z Z Z Z Z Z Z) Z (aq ?_))
 refine ar (am [2,4,12000,89] (e':=[(89,_),(2,_),(3,_),(4,_)]) Z Z ⟨Z,Z,Z,Z,ap⟩ Z) (ar (Ent.freeze 89 (e':=[(89,_),(2,_),(3,_),(4,_)]) Z (.cons Z (.c (.row Z Z)) (fe [2,3,4] Z)) (aZ Z (aZ Z (aZ Z (.skip .nil))))) ?_)
 refine aq ?_
 refine aq ?_
 refine an O Z Z Z Z (p8 (c:=0) (xs:=[0,0,-1,1]) h1 h2) (ac Z) Z Z Z Z (B0:=91000) Z Z (aH Z (jl Z (aq ?_)))
 refine jo Z (aq ?_)
 refine js Z (jn (ak (js Z (aU (bp O Z Z Z Z Z Z Z Z Z Z Z) Z (aq ?_)))))
 refine ar (am [2,4,8,12000,94] (e':=[(94,_),(2,_),(4,_)]) Z Z ⟨Z,Z,Z,ap⟩ Z) (ar (Ent.freeze 94 (e':=[(94,_),(2,_),(4,_)]) Z (.cons Z (.c (.row Z Z)) (fe [2,4] Z)) (aZ Z (aZ Z (aZ Z (aZ Z (.skip .nil)))))) ?_)
 refine aq ?_
 refine aq ?_
 refine js Z (jo Z (aq ?_))
 refine jn ?_
 rw[show qa off d.1 (d.2.pick 4).2=_ from(if_neg (cu z18)).trans ((if_neg (cu z37)).trans (if_pos (bK z62)))]
 exact⟨Z,(am [2,4] (e':=[(2,_),(4,_)]) Z Z ⟨Z,Z,ap⟩ Z).trans (Ent.to ⟨Z,Z,ap⟩ Z)⟩
 refine aj ?_
 rw[show qa off d.1 (d.2.pick 4).2=_ from(if_neg (cu z18)).trans ((if_neg (cu z37)).trans (if_neg (cu z62)))]
 exact⟨Z,(am [2,4] (e':=[(2,_),(4,_)]) Z Z ⟨Z,Z,ap⟩ Z).trans (Ent.to ⟨Z,Z,ap⟩ Z)⟩
 refine ae (js Z (jo Z (aq ?_)))
 refine jr ?_
 refine aJ Z ?_
 rw[show R=(qa off d.1 (d.2.pick 4).2).1 by rw[hR,hoff,hd];rfl]
 exact .v (.agg (aE Z))
variable{ys:List Int}
theorem xm:MQ h1 h2 5 [.c (.d (bys xs)),.c (.d (bys ys))] [] (Plain (eB (bif decide ((1048576:Int)<xs.length)then true else decide ((1048576:Int)<ys.length)))):=by
 refine aL ?_ Z
 refine jB 13 h1 h2 Tryz.func5 Z fun O hF=>?_
 refine ae (js Z (ba (js Z ?_)))
 first|refine dh Z ?_|refine js Z ?_|refine dv Z Z ?_
 refine ab Z (aA 3 Z Z Z (fun hx=>ax hx Z (dD hx (cf O Z Z Z Z Z Z Z Z) Z (ax hx Z (AN.nil)))) Z Z ?_)
 first|refine av (aG O Z Z Z Z Z) Z ?_|refine av (Val.pickB O Z Z Z Z Z) Z ?_|refine av (ay O Z Z Z Z Z) Z ?_
 refine js Z (jr ?_)
 refine aJ Z ?_
 rfl
def cK(ts:List Tm)(vars:List Int):Bool:=ts.all fun t=>decide (0≤aS t vars)
theorem xP{ts:List Tm}{vars:List Int}{i:Nat}(h:i<ts.length)(hn:aS (ts.getD i default) vars<0):cK ts vars=false:=by
 unfold cK
 rw[List.all_eq_false]
 refine⟨ts[i],List.getElem_mem h,?_⟩
 rw[aD h]at hn
 rw[decide_eq_false (by omega)];exact Bool.false_ne_true
theorem uS{ts:List Tm}{vars:List Int}(h: ∀j,j<ts.length→0≤aS (ts.getD j default) vars):cK ts vars=true:=by
 unfold cK
 rw[List.all_eq_true]
 intro t ht
 obtain⟨j,hj,rfl⟩:=List.mem_iff_getElem.1 ht
 have:=h j hj
 rw[aD hj]at this
 exact decide_eq_true this
theorem uw{ts:List Tm}(h: ∀t∈ts,t.term=true){i:Nat}(hi:i<ts.length):(ts.getD i default).term=true:=by
 rw[aD hi];exact h _ (List.getElem_mem hi)
variable{ts:List Tm}{vars:List Int}
theorem Im{cells:List Int}(ht: ∀t∈ts,t.term=true)(hv:c9 vars 4=true):MQ h1 h2 24 [cb ts,ptr [cY vars,cY cells]] [] (Plain (eB (cK ts vars))):=by
 refine aL ?_ Z
 refine jB 18 h1 h2 Tryz.func24 Z fun O hF=>?_
 have hl:ts.length≤L:=by have:=hF;simp[As.fact,A.fact,M.fact,D.fact,Ds.fact]at this;omega
 refine ae (js Z (jn (af (ae (js Z (jn (ao (aw (X:=Nat) (fun i=>⟨[(0,cb ts),(1,ptr [cY vars,cY cells]),(5,eI i)],[]⟩) (fun i=>i≤ts.length∧∀j,j<i→0≤aS (ts.getD j default) vars) (fun i=>ts.length-i) 0 (Ent.to ⟨Z,Z,Z,ap⟩ Z) ?_ (fun i hi=>?_)))))))))
 exact⟨cT _,fun j hj=>absurd hj (Nat.not_lt_zero j)⟩
 refine af (ae (ab Z ?_))
 first|refine dh Z ?_|refine js Z ?_|refine dv Z Z ?_
 refine js Z (jn (ah Z (fun z9=>?_) (fun z9=>?_)))
 try simp only[bG]at z9
 refine aj (af (ao (ae (ab Z ?_))))
 first|refine jD Z Z ?_|refine nN Z Z ?_|refine dv Z Z ?_
 refine js Z (bP Z (Kf (t:=ts.getD i default) (vars:=vars) (cells:=cells) h1 h2 (uw ht (by omega)) hv) 17000 Z (js Z (jn (ah Z (fun z17=>?_) (fun z17=>?_)))))
 try simp only[bG]at z17
 refine ae (js Z (jr ?_))
 refine aJ Z ?_
 rw[xP (i:=i) (by omega) (by simpa using z17)]
 try simp only[bG]at z17
 refine aj (ak (js Z ?_))
 first|refine ji Z ?_|refine dv Z Z ?_
 refine js Z (jn ?_)
 refine⟨i+1,Ent.to ⟨Z,Z,Z,ap⟩ Z,⟨by omega,fun j hj=>?_⟩,by omega⟩
 rcases Nat.lt_or_ge j i with h|h
 exact hi.2 j h
 obtain rfl:j=i:=by omega
 have:=z17;simp at this;exact this
 try simp only[bG]at z9
 refine bg (ae (js Z (jr ?_)))
 refine aJ Z ?_
 obtain rfl:i=ts.length:=by omega
 rw[uS hi.2]
def pw:Nat→Src→List Int→List Int×Src
  | 0,s,xs=>(xs,s)
  | k+1,s,xs=>pw k (s.pick 9).2 (xs++[(s.pick 9).1-2])
theorem wg: ∀{k:Nat} {s:Src} {xs:List Int},(pw k s xs).2.at_≤s.at_+2*k
 | 0,s,xs=>da _
 | k+1,s,xs=>by
  have h1:=wg (k:=k) (s:=(s.pick 9).2) (xs:=xs++[(s.pick 9).1-2])
  have h2:=cg (s:=s) (n:=9)
  rw[pw];omega
theorem wd: ∀{k:Nat} {s:Src} {xs:List Int},s.Ok→(pw k s xs).2.Ok
 | 0,s,xs,h=>h
 | k+1,s,xs,h=>by rw[pw];exact wd h.pick
theorem tG: ∀{k:Nat} {s:Src} {xs:List Int},(pw k s xs).1.length=xs.length+k
 | 0,s,xs=>rfl
 | k+1,s,xs=>by rw[pw,tG,cG,dL];omega
theorem we: ∀{k:Nat} {s:Src} {xs:List Int},s.Ok→(∀n∈xs,-2≤n∧n≤6)→∀n∈(pw k s xs).1,-2≤n∧n≤6
 | 0,s,xs,h,hx=>hx
 | k+1,s,xs,h,hx=>by
  have h0:=cM h (n:=9) (by omega)
  rw[pw]
  refine we h.pick (fun n hn=>?_)
  rcases List.mem_append.1 hn with h1|h1
  exact hx n h1
  rw[List.mem_singleton.1 h1];omega
abbrev po(xs:List Int):B:=.row false 1 (xs.map fun n=>[D.int .i64 n])
def B4(vs cs:List Int)(s:Src):Sx×Src:=if(s.pick 8).1=0 then(⟨vs.set 0 ([1000000000,-1000000000].getD (((s.pick 8).2.pick 2).1.toNat) default),cs⟩,((s.pick 8).2.pick 2).2)else(⟨vs,cs⟩,(s.pick 8).2)
def B5(vs:List Int)(c:List Int×Src):Sx×Src:=B4 vs c.1 c.2
def yn(v:List Int×Src):Sx×Src:=B5 v.1 (pw 8 v.2 [])
def pV(s:Src):Sx×Src:=yn (pw 4 s [])
theorem Io{s:Src}(hs:s.Ok)(ha:s.at_≤999999800):MQ h1 h2 23 [.c (.pt 0 0 0)] [(0,bZ s)] (bb (.agg [.rs 1 0 (pV s).1.vars.length,.rs 2 0 (pV s).1.cells.length]) [(0,bZ (pV s).2),(1,po (pV s).1.vars),(2,po (pV s).1.cells)]):=by
 refine MC.shift 500 Z (MC.keep [500,501,502] (bs:=[bZ (pV s).2,po (pV s).1.vars,po (pV s).1.cells]) Z Z (jH 42 [500] h1 h2 Tryz.func23 Z fun O hF=>?_))
 refine b0 ?_
 obtain⟨R,hR⟩: ∃R,R=pV s:=⟨_,rfl⟩
 rw[←hR]
 refine ae (jl Z (aq ?_))
 refine ba (aU (bp O Z Z Z Z Z Z Z Z Z Z Z) Z (aq ?_))
 refine aq ?_
 refine aU (bp O Z Z Z Z Z Z Z Z Z Z Z) Z (aq ?_)
 refine aq ?_
 refine js Z (jl Z (aq ?_))
 refine jo Z (aq ?_)
 refine jn (af (ae (js Z (jn (ao (aw (X:=Nat×Src×List Int) (fun x=>⟨[(0,.c (.pt 500 0 0)),(2,.c (.pt 2 0 0)),(3,.c (.pt 3 0 0)),(4,eI (x.1:Nat))],[(2,.box [.d .nils,.d .nils]),(3,.box [.rs 900 0 x.2.2.length,.rs 7 0 0]),(7,po []),(500,bZ x.2.1),(900,po x.2.2)]⟩) (fun x=>x.2.1.Ok∧pw 4 s []=pw (4-x.1) x.2.1 x.2.2∧x.2.2.length=x.1∧x.1≤4∧x.2.1.at_≤s.at_+2*x.1) (fun x=>4-x.1) (0,s,[]) ((aa 6 900 Z Z).trans ((am [2,3,7,500,900] (e':=[(0,_),(2,_),(3,_),(4,_)]) Z Z ⟨Z,Z,Z,Z,ap⟩ Z).trans (Ent.to ⟨Z,Z,Z,Z,ap⟩ Z))) ?_ (fun x hi=>?_)))))))
 exact⟨hs,Z,Z,cT _,da _⟩
 refine af (ae (ab Z (jn (ah Z (fun z10=>?_) (fun z10=>?_)))))
 refine aj (af (ao ?_))
 have hk:=bK z10
 have hp:=cM hi.1 (n:=9) (by omega)
 have hat:=cg (s:=x.2.1) (n:=9)
 refine kJ [_,_,_,_,_,_,_,_,_] [pn [] 0 2,pn [0] 0 2,aF,pe [2] 0,pn [2,3] 1 1,pe [2,3,4] 1,pe (rg 0 6) 2,pn (rg 0 7) 3 3,pe (rg 0 8) 3] [3,5,6,8] [_,_,_,_,_] [[],[],[900],[]] (ai (ka Z Z (ka Z Z (kw Z Z))) (ai (ka Z Z (ka Z Z (kw Z Z))) (ka Z Z (ai (ai (aI (ct O [500] (bin:=[bZ x.2.1]) Z Z Z Z (fR (s:=x.2.1) (n:=9) h1 h2 hi.1 (by omega) (by omega) (by omega)) Z Z Z Z Z (B0:=17000) Z Z Z Z Z Z)) Z) (ai (ai (bi O Z Z (by omega) (by omega)) Z) (ai (ai (aI (lr O Z Z Z Z Z Z Z Z Z Z Z Z Z)) Z) (ai (ai (cp (own:=false) (xs:=x.2.2.map (fun n:Int=>[D.int .i64 n])) (ys:=[[.int .i64 ((x.2.1.pick 9).1-2)]]) (zs:=(x.2.2++[(x.2.1.pick 9).1-2]).map (fun n:Int=>[D.int .i64 n])) (n:=(x.2.2++[(x.2.1.pick 9).1-2]).length) O Z Z Z Z Z Z Z Z Z Z Z Z Z Z Z Z (.row Z (bQ _).symm) (.whole Z Z (.inr ⟨Z,Z⟩)) (by simp) Z (by simp;omega) (by simp;omega) (by simp) (by simp) Z) Z) (ka Z Z (ai (ai (aI (eS Z Z Z)) Z) trivial))))))))) ?_
 refine jw [10,9,0,2,3,4] Z (b0 ?_)
 refine ak (js Z ?_)
 first|refine ji Z ?_|refine dv Z Z ?_
 refine js Z (jn ?_)
 refine⟨(x.1+1,(x.2.1.pick 9).2,x.2.2++[(x.2.1.pick 9).1-2]),((aa 19 900 Z Z).trans (am [2,3,7,500,900] (e':=[(0,_),(2,_),(3,_),(4,_)]) Z Z ⟨Z,Z,Z,Z,ap⟩ Z)).trans (Ent.to ⟨Z,Z,Z,?_,ap⟩ Z),⟨hi.1.pick,?_,by simp only[cG,dL];omega,by simp only;omega,by simp only;omega⟩,by simp only;omega⟩
 exact congrArg (fun z=>some (eI z)) (by simp only;omega)
 rw[hi.2.1,show 4-x.1=(4-(x.1+1))+1 by omega,pw]
 refine bg (af (ae (js Z (jn (ao ?_)))))
 have hk:=cu z10
 obtain⟨k1,s1,xs1⟩:=x
 simp only at hi hk
 obtain rfl:k1=4:=by omega
 obtain⟨ho1,ho2,ho3,ho4,ho5⟩:=hi
 rw[show pV s=yn (xs1,s1)from congrArg yn ho2]at hR
 refine aw (X:=Nat×Src×List Int) (fun y=>⟨[(0,.c (.pt 500 0 0)),(2,.c (.pt 2 0 0)),(3,.c (.pt 3 0 0)),(5,eI (y.1:Nat))],[(2,.box [.d .nils,.d .nils]),(3,.box [.rs 900 0 xs1.length,.rs 901 0 y.2.2.length]),(500,bZ y.2.1),(900,po xs1),(901,po y.2.2)]⟩) (fun y=>y.2.1.Ok∧pw 8 s1 []=pw (8-y.1) y.2.1 y.2.2∧y.2.2.length=y.1∧y.1≤8∧y.2.1.at_≤s1.at_+2*y.1) (fun y=>8-y.1) (0,s1,[]) ((aa 7 901 Z Z).trans ((am [2,3,500,900,901] (e':=[(0,_),(2,_),(3,_),(5,_)]) Z Z ⟨Z,Z,Z,Z,ap⟩ Z).trans (Ent.to ⟨Z,Z,Z,Z,ap⟩ Z))) ?_ (fun y hi=>?_)
 exact⟨ho1,Z,Z,cT _,da _⟩
 refine af (ae (ab Z (jn (ah Z (fun z22=>?_) (fun z22=>?_)))))
 refine aj (af (ao ?_))
 have hk:=bK z22
 have hp:=cM hi.1 (n:=9) (by omega)
 have hat:=cg (s:=y.2.1) (n:=9)
 refine kJ [_,_,_,_,_,_,_,_,_] [pn [] 0 2,pn [0] 0 2,aF,pe [2] 0,pn [2,3] 1 1,pe [2,3,4] 1,pe (rg 0 6) 2,pn (rg 0 7) 3 3,pe (rg 0 8) 3] [3,5,6,8] [_,_,_,_,_] [[],[],[901],[]] (ai (ka Z Z (ka Z Z (kw Z Z))) (ai (ka Z Z (ka Z Z (kw Z Z))) (ka Z Z (ai (ai (aI (ct O [500] (bin:=[bZ y.2.1]) Z Z Z Z (fR (s:=y.2.1) (n:=9) h1 h2 hi.1 (by omega) (by omega) (by omega)) Z Z Z Z Z (B0:=29000) Z Z Z Z Z Z)) Z) (ai (ai (bi O Z Z (by omega) (by omega)) Z) (ai (ai (aI (lr O Z Z Z Z Z Z Z Z Z Z Z Z Z)) Z) (ai (ai (cp (own:=false) (xs:=y.2.2.map (fun n:Int=>[D.int .i64 n])) (ys:=[[.int .i64 ((y.2.1.pick 9).1-2)]]) (zs:=(y.2.2++[(y.2.1.pick 9).1-2]).map (fun n:Int=>[D.int .i64 n])) (n:=(y.2.2++[(y.2.1.pick 9).1-2]).length) O Z Z Z Z Z Z Z Z Z Z Z Z Z Z Z Z (.row Z (bQ _).symm) (.whole Z Z (.inr ⟨Z,Z⟩)) (by simp) Z (by simp;omega) (by simp;omega) (by simp) (by simp) Z) Z) (ka Z Z (ai (ai (aI (eS Z Z Z)) Z) trivial))))))))) ?_
 refine jw [22,21,0,2,3,5] Z (b0 ?_)
 refine ak (js Z ?_)
 first|refine ji Z ?_|refine dv Z Z ?_
 refine js Z (jn ?_)
 refine⟨(y.1+1,(y.2.1.pick 9).2,y.2.2++[(y.2.1.pick 9).1-2]),((aa 31 901 Z Z).trans (am [2,3,500,900,901] (e':=[(0,_),(2,_),(3,_),(5,_)]) Z Z ⟨Z,Z,Z,Z,ap⟩ Z)).trans (Ent.to ⟨Z,Z,Z,?_,ap⟩ Z),⟨hi.1.pick,?_,by simp only[cG,dL];omega,by simp only;omega,by simp only;omega⟩,by simp only;omega⟩
 exact congrArg (fun z=>some (eI z)) (by simp only;omega)
 rw[hi.2.1,show 8-y.1=(8-(y.1+1))+1 by omega,pw]
 refine bg (af (ae ?_))
 have hk:=cu z22
 obtain⟨k2,s2,ys2⟩:=y
 simp only at hi hk
 obtain rfl:k2=8:=by omega
 obtain⟨hq1,hq2,hq3,hq4,hq5⟩:=hi
 rw[show yn (xs1,s1)=B4 xs1 ys2 s2 from congrArg (B5 xs1) hq2]at hR
 have hat2:=cg (s:=s2) (n:=8)
 refine js Z (au O [500] (bin:=[bZ s2]) Z Z Z Z (xl (s:=s2) (n:=8) h1 h2 hq1 (by omega) (by omega) (by omega)) Z Z Z Z Z Z (B0:=35000) Z Z (aq ?_))
 refine jn (ah Z (fun z34=>?_) (fun z34=>?_))
 refine sJ O _ [_,_,_,_,_,_,_] [pn [] 0 1,pn [0] 0 1,aF,aF,pe [2,3] 0,pn (rg 0 5) 1 1,pe (rg 0 6) 1] [4,6] 0 [_,_,_] [] Z Z (by decide) (by decide) (by decide) Z (by kernel_rfl) (ai (ai (ai (aI (me (V Z) Z Z)) Z) (ai (aI (me (V Z) Z Z)) Z)) (ai (ai (ai (aB trivial (.inl (V Z))) Z) (ai (aB trivial (.inl (V Z))) Z)) (ai (ai (aB (.inl (V Z)) (.inl (V Z))) Z) (ai (ai (aB (.inr (hZ O Z Z Z Z Z Z Z Z Z Z Z Z Z (by repeat' (first|exact .nil|refine .skip ?_|refine bh Z ?_|refine .cons Z (.box (FMs.keep Z)) ?_)))) (.inr (hZ O Z Z Z Z Z Z Z Z Z Z Z Z Z (by repeat' (first|exact .nil|refine .skip ?_|refine bh Z ?_|refine .cons Z (.box (FMs.keep Z)) ?_))))) Z) (ai (ai (aB (aI (ct O [500] (bin:=[bZ (s2.pick 8).2]) Z Z Z Z (zV (s:=(s2.pick 8).2) (xs:=[1000000000,-1000000000]) h1 h2 hq1.pick (by omega) (by decide) (by decide)) Z Z Z Z Z (B0:=40000) Z Z Z Z Z Z)) (aI (ct O [500] (bin:=[bZ (s2.pick 8).2]) Z Z Z Z (zV (s:=(s2.pick 8).2) (xs:=[1000000000,-1000000000]) h1 h2 hq1.pick (by omega) (by decide) (by decide)) Z Z Z Z Z (B0:=40000) Z Z Z Z Z Z))) Z) (ai (ai (aB trivial (.inl (eF (c:=(0:Int)≤0∧(0:Int)<((xs1.length:Nat):Int)) (v:=.c (.pt 900 0 0)) O Z Z (by omega)))) Z) (ai (ai (aB trivial (aI (cR (ex:=[.int .i64 (xs1.getD 0 default)]) (xs':=(xs1.set 0 ([1000000000,-1000000000].getD (((s2.pick 8).2.pick 2).1.toNat) default)).map (fun n:Int=>[D.int .i64 n])) O Z Z Z Z Z Z Z Z Z Z Z Z Z Z Z (dO (by omega)) (by rw[List.map_set];rfl) Z))) Z) trivial))))))) ?_
 refine jw [34,33,22,21,0,2,3,5] Z (b0 ?_)
 refine ae (js Z (jo Z (aq ?_)))
 refine jr ?_
 have ho:=bK z34
 rw[show R=(⟨xs1.set 0 ([1000000000,-1000000000].getD (((s2.pick 8).2.pick 2).1.toNat) default),ys2⟩,((s2.pick 8).2.pick 2).2)from hR.trans (if_pos ho)]
 simp only[List.length_set]
 refine⟨.inl trivial,_,(aa 900 501 Z Z).trans (aa 901 502 Z Z),_,Z,Z,Z⟩
 refine aj (ae (js Z (jo Z (aq ?_))))
 refine jr ?_
 have ho:=cu z34
 rw[show R=(⟨xs1,ys2⟩,(s2.pick 8).2)from hR.trans (if_neg ho)]
 refine⟨.inl Z,_,(aa 900 501 Z Z).trans (aa 901 502 Z Z),_,Z,Z,Z⟩
def pk:Nat→Src→List Int→List Int×Src
  | 0,s,vs=>(vs,s)
  | k+1,s,vs=>pk k (s.pick 13).2 (vs.set (3-k) ((s.pick 13).1-4))
def rF:Nat→List Tm→Src→List Int→List Int
  | 0,_,_,vs=>vs
  | n+1,ts,s,vs=>if cK ts vs=true then vs else rF n ts (pk 4 s vs).2 (pk 4 s vs).1
def nW(ys:List Int)(ts:List Tm):Sx:=⟨rF 30 ts (pV ⟨ys,0,0⟩).2 (pV ⟨ys,0,0⟩).1.vars,(pV ⟨ys,0,0⟩).1.cells⟩
theorem tv{vs:List Int}{n:Nat}(hl:vs.length=n)(h: ∀v∈vs,mO v=true):c9 vs n=true:=by
 unfold c9
 rw[decide_eq_true (by omega),List.all_eq_true.2 h];rfl
theorem uI{vs:List Int}{n:Nat}(h:c9 vs n=true):vs.length=n:=by
 unfold c9 at h
 cases hl:decide ((vs.length:Int)=n)with
 | true=>have:=bK hl;omega
 | false=>rw[hl]at h;simp at h
theorem Bi{vs:List Int}{n:Nat}(h:c9 vs n=true): ∀v∈vs,mO v=true:=by
 unfold c9 at h
 cases ha:vs.all mO with
 | true=>exact List.all_eq_true.1 ha
 | false=>rw[ha]at h;simp at h
theorem wk{v:Int}(h: -1000000000≤v∧v≤1000000000):mO v=true:=by
 unfold mO;simp;omega
theorem qt{vs:List Int}{n j:Nat}{v:Int}(h:c9 vs n=true)(hv: -1000000000≤v∧v≤1000000000):c9 (vs.set j v) n=true:=
  tv (by rw[List.length_set];exact uI h) (fun u hu=>by
 rcases List.mem_or_eq_of_mem_set hu with h1|h1
 exact Bi h u h1
 rw[h1];exact wk hv)
theorem Ax{s:Src}(h:s.Ok):c9 (pV s).1.vars 4=true∧c9 (pV s).1.cells 8=true∧(pV s).2.Ok:=by
 have a1:=wd (k:=4) (xs:=[]) h
 have a2:=we (k:=4) (xs:=[]) h (fun n hn=>by cases hn)
 have a3:=tG (k:=4) (s:=s) (xs:=[])
 have b1:=wd (k:=8) (xs:=[]) a1
 have b2:=we (k:=8) (xs:=[]) a1 (fun n hn=>by cases hn)
 have b3:=tG (k:=8) (s:=(pw 4 s []).2) (xs:=[])
 unfold pV yn B5
 generalize pw 8 (pw 4 s []).2 []=c at b1 b2 b3
 generalize pw 4 s []=v at a1 a2 a3
 have hv:c9 v.1 4=true:=tv (by rw[a3];rfl) (fun u hu=>wk (by have:=a2 u hu;omega))
 have hc:c9 c.1 8=true:=tv (by rw[b3];rfl) (fun u hu=>wk (by have:=b2 u hu;omega))
 have hp:=cM (b1.pick (n:=8)) (n:=2) (by omega)
 unfold B4;split
 refine⟨qt hv ?_,hc,b1.pick.pick⟩
 generalize ((c.2.pick 8).2.pick 2).1=z at hp
 rcases(show z=0∨z=1 by omega)with rfl|rfl<;>decide
 exact⟨hv,hc,b1.pick⟩
theorem EV{s:Src}:(pV s).2.at_≤s.at_+30:=by
 have h1:=wg (k:=4) (s:=s) (xs:=[])
 have h2:=wg (k:=8) (s:=(pw 4 s []).2) (xs:=[])
 unfold pV yn B5
 generalize pw 8 (pw 4 s []).2 []=c at h2
 have h3:=cg (s:=c.2) (n:=8)
 have h4:=cg (s:=(c.2.pick 8).2) (n:=2)
 unfold B4;split
 show(((c.2.pick 8).2.pick 2).2).at_≤_;omega
 show((c.2.pick 8).2).at_≤_;omega
theorem zM: ∀{k:Nat} {s:Src} {vs:List Int},s.Ok→c9 vs 4=true→c9 (pk k s vs).1 4=true∧(pk k s vs).2.Ok
 | 0,s,vs,h,hv=>⟨hv,h⟩
 | k+1,s,vs,h,hv=>by
  have hp:=cM h (n:=13) (by omega)
  rw[pk];exact zM h.pick (qt hv (by omega))
theorem xC: ∀{n:Nat} {ts:List Tm} {s:Src} {vs:List Int},s.Ok→c9 vs 4=true→c9 (rF n ts s vs) 4=true
 | 0,ts,s,vs,h,hv=>hv
 | n+1,ts,s,vs,h,hv=>by
  rw[rF];split
  exact hv
  exact xC (zM h hv).2 (zM h hv).1
theorem x8{ys:List Int}{ts:List Tm}(h: ∀n∈ys,0≤n∧n≤255):zk (nW ys ts)=true:=by
 obtain⟨a,b,c⟩:=Ax (s:=⟨ys,0,0⟩) ⟨h⟩
 have:=xC (n:=30) (ts:=ts) c a
 unfold zk nW
 simp only[this,b];rfl
theorem A3{n:Nat}{ts:List Tm}{s:Src}{vs:List Int}(h:n=0∨cK ts vs=true):rF n ts s vs=vs:=by
 rcases h with rfl|h
 rfl
 cases n with
 | zero=>rfl
 | succ n=>rw[rF,if_pos h]
theorem BH{a b:Bool}(h:(bif a then !b else false)=true):a=true∧b=false:=by cases a<;>cases b<;>simp_all
theorem C5{n:Nat}{b:Bool}{p:Prop}(h:p∧n≤30)(hc:(bif decide ((n:Int)<30)then !b else false)=false):30-n=0∨b=true:=by
 cases b with
 | true=>exact .inr Z
 | false=>
  left
  cases hd:decide ((n:Int)<30)with
  | true=>rw[hd]at hc;cases hc
  | false=>have:=cu hd;omega
theorem zW(hy: ∀n∈ys,0≤n∧n≤255)(ht: ∀t∈ts,t.term=true):MQ h1 h2 7 [.c (.d (bys ys)),cb ts] [] (Plain (GR (nW ys ts))):=by
 refine MC.data (jB 34 h1 h2 Tryz.func7 Z fun O hF=>?_)
 obtain⟨R,hR⟩: ∃R,R=nW ys ts:=⟨_,rfl⟩
 rw[←hR]
 have hs:(⟨ys,0,0⟩:Src).Ok:=⟨hy⟩
 have ha:(⟨ys,0,0⟩:Src).at_=0:=rfl
 refine ae (jl Z (aq ?_))
 refine ba (js Z (au O [] (bin:=[]) Z Z Z Z (DM (xs:=ys) h1 h2) Z Z Z Z Z Z (B0:=11000) Z Z (aq ?_)))
 refine js Z (ba (js Z (au O [11000] (bin:=[bZ ⟨ys,0,0⟩]) Z Z Z Z (Io (s:=⟨ys,0,0⟩) h1 h2 hs (by omega)) Z Z Z Z Z Z (B0:=13000) Z Z (aq ?_))))
 obtain⟨hd1,hd2,hd3⟩:=Ax hs
 have hd4:=EV (s:=⟨ys,0,0⟩)
 rw[show nW ys ts=⟨rF 30 ts (pV ⟨ys,0,0⟩).2 (pV ⟨ys,0,0⟩).1.vars,(pV ⟨ys,0,0⟩).1.cells⟩from Z]at hR
 obtain⟨d,hd⟩: ∃d,d=pV ⟨ys,0,0⟩:=⟨_,rfl⟩
 rw[←hd]at hd1 hd2 hd3 hd4 hR ⊢
 obtain⟨C,hC⟩: ∃C,C=d.1.cells:=⟨_,rfl⟩
 rw[←hC]at hR ⊢
 refine jl Z (aq ?_)
 refine jo Z (aq ?_)
 refine jn (af (ae (js Z (jn (ao (aw (X:=Nat×Src×List Int) (fun x=>⟨[(1,cb ts),(4,.c (.pt 4 0 0)),(5,.c (.pt 11000 0 0)),(6,.c (.pt 6 0 0)),(7,eI (x.1:Nat))],[(4,.box [.d .nils,.d .nils]),(6,.box [.rs 900 0 x.2.2.length,.rs 901 0 C.length]),(900,po x.2.2),(901,po C),(11000,bZ x.2.1)]⟩) (fun x=>x.2.1.Ok∧c9 x.2.2 4=true∧rF 30 ts d.2 d.1.vars=rF (30-x.1) ts x.2.1 x.2.2∧x.1≤30∧x.2.1.at_≤d.2.at_+8*x.1) (fun x=>30-x.1) (0,d.2,d.1.vars) (((aa 13001 900 Z Z).trans (aa 13002 901 Z Z)).trans ((am [4,6,900,901,11000] (e':=[(1,_),(4,_),(5,_),(6,_),(7,_)]) Z Z ⟨Z,Z,Z,Z,Z,ap⟩ Z).trans (Ent.to ⟨Z,Z,Z,Z,Z,ap⟩ (by rw[hC];rfl)))) ?_ (fun x hi=>?_)))))))
 exact⟨hd3,hd1,Z,cT _,da _⟩
 refine af (ae (aH Z (aA 3 Z Z Z (fun hx=>ax hx Z (bA O hx Z Z Z Z (Im (ts:=ts) (vars:=x.2.2) (cells:=C) h1 h2 ht hi.2.1) (.cons (.c .d) (.cons (.c (.pb Z (.cons (.whole Z (bQ _).symm) (.cons (.whole Z (bQ _).symm) .nil)))) .nil)) Z Z Z Z Z Z Z (B0:=18000) Z (ax hx Z (AN.nil)))) Z Z ?_)))
 first|refine av (ay O Z Z Z Z Z) Z ?_|refine av (aG O Z Z Z Z Z) Z ?_|refine av (Val.pickB O Z Z Z Z Z) Z ?_
 refine jn (ah Z (fun z19=>?_) (fun z19=>?_))
 refine aj (af (ao (ae (js Z (jn (ao ?_))))))
 have hi0:=hi
 refine aw (X:=Nat×Src×List Int) (fun y=>⟨[(1,cb ts),(4,.c (.pt 4 0 0)),(5,.c (.pt 11000 0 0)),(6,.c (.pt 6 0 0)),(7,eI (x.1:Nat)),(8,eI (y.1:Nat))],[(4,.box [.d .nils,.d .nils]),(6,.box [.rs 900 0 y.2.2.length,.rs 901 0 C.length]),(900,po y.2.2),(901,po C),(11000,bZ y.2.1)]⟩) (fun y=>y.2.1.Ok∧c9 y.2.2 4=true∧pk 4 x.2.1 x.2.2=pk (4-y.1) y.2.1 y.2.2∧y.1≤4∧y.2.1.at_≤x.2.1.at_+2*y.1) (fun y=>4-y.1) (0,x.2.1,x.2.2) ((am [4,6,900,901,11000] (e':=[(1,_),(4,_),(5,_),(6,_),(7,_),(8,_)]) Z Z ⟨Z,Z,Z,Z,Z,Z,ap⟩ Z).trans (Ent.to ⟨Z,Z,Z,Z,Z,Z,ap⟩ Z)) ?_ (fun y hi=>?_)
 exact⟨hi.1,hi.2.1,Z,cT _,da _⟩
 refine af (ae (ab Z (jn (ah Z (fun z23=>?_) (fun z23=>?_)))))
 refine aj (af (ao ?_))
 have hk:=bK z23
 have hvl:y.2.2.length=4:=uI (n:=4) hi.2.1
 have hp:=cM hi.1 (n:=13) (by omega)
 have hat:=cg (s:=y.2.1) (n:=13)
 refine fZ [_,_,_,_,_,_,_,_] [pn [] 0 1,pn [0] 0 1,pn [] 0 1,aF,pe [3] 0,pn [3,4] 1 1,pn (rg 0 6) 1 1,pe (rg 0 7) 1] [4,7] [_,_,_] (ai (kc Z (V Z)) (ai (kc Z (V Z)) (ai (kc Z (V Z)) (kc Z (ai (ct O [11000] (bin:=[bZ y.2.1]) Z Z Z Z (fR (s:=y.2.1) (n:=13) h1 h2 hi.1 (by omega) (by omega) (by omega)) Z Z Z Z Z (B0:=31000) Z Z Z Z Z Z) (ai (bi O Z Z (by omega) (by omega)) (ai (eF (c:=(0:Int)≤(y.1:Nat)∧((y.1:Nat):Int)<((y.2.2.length:Nat):Int)) (v:=.c (.pt 900 (0+y.1) 0)) O Z Z (by omega)) (ai (cR (ex:=[.int .i64 (y.2.2.getD y.1 default)]) (xs':=(y.2.2.set y.1 ((y.2.1.pick 13).1-4)).map (fun n:Int=>[D.int .i64 n])) O Z Z Z Z Z Z Z Z Z Z Z Z Z Z Z (vJ (by omega)) (by rw[Nat.zero_add,List.map_set];rfl) Z) trivial)))))))) ?_
 refine jw [23,22,1,4,5,6,7,8] Z (b0 ?_)
 refine ak (js Z ?_)
 first|refine ji Z ?_|refine dv Z Z ?_
 refine js Z (jn ?_)
 refine⟨(y.1+1,(y.2.1.pick 13).2,y.2.2.set y.1 ((y.2.1.pick 13).1-4)),(am [4,6,900,901,11000] (e':=[(1,_),(4,_),(5,_),(6,_),(7,_),(8,_)]) Z Z ⟨Z,Z,Z,Z,Z,Z,ap⟩ Z).trans (Ent.to ⟨Z,Z,Z,Z,Z,?_,ap⟩ ?_),⟨hi.1.pick,qt hi.2.1 (by omega),?_,by simp only;omega,by simp only;omega⟩,by simp only;omega⟩
 exact congrArg (fun z=>some (eI z)) (by simp only;omega)
 simp only[List.length_set];rfl
 rw[hi.2.2.1,show 4-y.1=(4-(y.1+1))+1 by omega,pk,show 3-(4-(y.1+1))=y.1 by omega]
 refine bg (ak ?_)
 have hk:=cu z23
 obtain⟨hk1,hk2⟩:=BH z19
 have hk3:=bK hk1
 refine js Z ?_
 first|refine ji Z ?_|refine dv Z Z ?_
 refine js Z (jn ?_)
 obtain⟨j,s1,v1⟩:=y
 simp only at hi hk
 obtain rfl:j=4:=by omega
 obtain⟨hi1,hi2,hi3,hi4,hi5⟩:=hi
 refine⟨(x.1+1,s1,v1),(am [4,6,900,901,11000] (e':=[(1,_),(4,_),(5,_),(6,_),(7,_)]) Z Z ⟨Z,Z,Z,Z,Z,ap⟩ Z).trans (Ent.to ⟨Z,Z,Z,Z,?_,ap⟩ Z),⟨hi1,hi2,?_,by simp only;omega,by simp only;omega⟩,by simp only;omega⟩
 exact congrArg (fun z=>some (eI z)) (by simp only;omega)
 rw[hi0.2.2.1,show 30-x.1=(30-(x.1+1))+1 by omega,rF,if_neg (by rw[hk2];decide),show pk 4 x.2.1 x.2.2=(v1,s1)from hi3]
 refine bg (ae (js Z (jo Z (aq ?_))))
 refine jr ?_
 refine aJ Z ?_
 have hx:=A3 (s:=x.2.1) (C5 (p:=True) ⟨trivial,hi.2.2.2.1⟩ z19)
 rw[show R=⟨x.2.2,C⟩from hR.trans (by rw[hi.2.2.1,hx])]
 exact .v (.agg (.cons (.whole Z (bQ _).symm) (.cons (.whole Z (bQ _).symm) .nil)))
theorem lZ{ts:List Tm}{n:Int}(h:terms ts n=true): ∀t∈ts,t.term=true:=by
 unfold terms at h
 cases ha:ts.all Tm.term with
 | true=>exact List.all_eq_true.1 ha
 | false=>rw[ha]at h;simp at h
theorem A2{s:Sx}(h:zk s=true):c9 s.vars 4=true:=by
 unfold zk at h
 cases ha:c9 s.vars 4 with
 | true=>rfl
 | false=>rw[ha]at h;simp at h
theorem Iq{t:Tm}(h:t.term=true)(hv:c9 vars 4=true):MQ h1 h2 13 [db t,ce vars] [] (Plain (eI (aS t vars))):=by
 refine aL ?_ Z
 refine jB 35 h1 h2 Tryz.func13 Z fun O hF=>?_
 have ht:=ql h
 have hs:=gb hv
 have hlen:t.xs.length≤vars.length:=by omega
 refine ae (jx Z (js Z (ba (aH Z (jn (af (ae (js Z (jn (ao (aw (X:=Nat) (fun i=>⟨[(1,ce vars),(2,.c (.pt 2 0 0)),(5,eI (t.c+dZ (t.xs.take i) (vars.take i))),(6,eI i)],[(2,.box [.d (.int .i64 t.c),.d (cY t.xs)])]⟩) (fun i=>i≤t.xs.length) (fun i=>t.xs.length-i) 0 (Ent.to ⟨Z,Z,by show some (eI t.c)=_;simp[dZ],Z,ap⟩ Z) ?_ (fun i hi=>?_))))))))))))
 exact cT _
 refine af (ae (aH Z ?_))
 first|refine dh Z ?_|refine js Z ?_|refine dv Z Z ?_
 refine ab Z (aA 4 Z Z Z (fun hx=>ax hx Z (ax hx Z (dD hx (cf O Z Z Z Z Z Z Z Z) Z (ax hx Z (AN.nil))))) Z Z ?_)
 first|refine av (ay O Z Z Z Z Z) Z ?_|refine av (aG O Z Z Z Z Z) Z ?_|refine av (Val.pickB O Z Z Z Z Z) Z ?_
 refine jn (ah Z (fun z19=>?_) (fun z19=>?_))
 refine aj (af (ao ?_))
 obtain⟨hb1,hb2⟩:=Ki z19
 have hi2:=bK hb1
 have hd:=ta ht.2.1 hs.1 hi (Nat.le_trans hi hlen)
 have hds:=lj (xs:=t.xs) (ys:=vars) (i:=i) (by omega) (by omega)
 have hn:=I7.1 ht.1
 have hm:=s5 (I7.1 (List.all_eq_true.1 ht.2.1 _ (List.getElem_mem (show i<t.xs.length by omega)))) (Ja.1 (List.all_eq_true.1 hs.1 _ (List.getElem_mem (show i<vars.length by omega))))
 rw[←aD (show i<t.xs.length by omega),←aD (show i<vars.length by omega)]at hm
 refine fZ [_,_,_,_,_,_,_,_,_,_,_,_,_] [aF,aF,ag [1],aF,ag [1,2,3],ag (rg 1 4),aF,aF,ag [6,7],ag [6,7,8],ag (rg 1 9),ag (rg 0 11),ag (rg 0 12)] [] [_] (cw Z (ai (vN Z) (kc Z (kc Z (kc Z (ai (vN Z) (kc Z (ai (bi O Z Z (Int.le_trans (by decide) hm.1) (Int.le_trans hm.2 (by decide))) (ai (bi O Z Z (show(-9223372036854775808:Int)≤t.c+dZ (t.xs.take i) (vars.take i)+t.xs.getD i default*vars.getD i default by omega) (show t.c+dZ (t.xs.take i) (vars.take i)+t.xs.getD i default*vars.getD i default≤9223372036854775807 by omega)) (kc Z trivial)))))))))) ?_
 refine jw [5,19,1,2,6] Z (b0 ?_)
 refine ak (js Z ?_)
 first|refine ji Z ?_|refine dv Z Z ?_
 refine js Z (jn ?_)
 refine⟨i+1,Ent.to ⟨Z,Z,?_,Z,ap⟩ Z,by omega,by omega⟩
 exact congrArg (fun z=>some (eI z)) (by rw[hds];show t.c+dZ (t.xs.take i) (vars.take i)+t.xs.getD i default*vars.getD i default=_;omega)
 refine bg (ae (ab Z (jr ?_)))
 refine aJ Z ?_
 have hn:=IZ z19
 obtain rfl:i=t.xs.length:=by
  rcases Nat.lt_or_ge i t.xs.length with hlt|hge
  exact absurd ⟨decide_eq_true (by omega),decide_eq_true (by omega)⟩ hn
  omega
 rw[pR (da _)];rfl
theorem DN(ht: ∀t∈ts,t.term=true)(hv:c9 vars 4=true):MQ h1 h2 11 [cb ts,ce vars] [] (Plain (eB (cK ts vars))):=by
 refine aL ?_ Z
 refine jB 19 h1 h2 Tryz.func11 Z fun O hF=>?_
 have hl:ts.length≤L:=by have:=hF;simp[As.fact,A.fact,M.fact,D.fact,Ds.fact]at this;omega
 refine ae (js Z (jn (af (ae (js Z (jn (ao (aw (X:=Nat) (fun i=>⟨[(0,cb ts),(1,ce vars),(5,eI i)],[]⟩) (fun i=>i≤ts.length∧∀j,j<i→0≤aS (ts.getD j default) vars) (fun i=>ts.length-i) 0 (Ent.to ⟨Z,Z,Z,ap⟩ Z) ?_ (fun i hi=>?_)))))))))
 exact⟨cT _,fun j hj=>absurd hj (Nat.not_lt_zero j)⟩
 refine af (ae (ab Z ?_))
 first|refine dh Z ?_|refine js Z ?_|refine dv Z Z ?_
 refine js Z (jn (ah Z (fun z9=>?_) (fun z9=>?_)))
 try simp only[bG]at z9
 refine aj (af (ao (ae (ab Z ?_))))
 first|refine jD Z Z ?_|refine nN Z Z ?_|refine dv Z Z ?_
 refine ab Z (bP Z (Iq (t:=ts.getD i default) (vars:=vars) h1 h2 (uw ht (by omega)) hv) 18000 Z (js Z (jn (ah Z (fun z18=>?_) (fun z18=>?_)))))
 try simp only[bG]at z18
 refine ae (js Z (jr ?_))
 refine aJ Z ?_
 rw[xP (i:=i) (by omega) (by simpa using z18)]
 try simp only[bG]at z18
 refine aj (ak (js Z ?_))
 first|refine ji Z ?_|refine dv Z Z ?_
 refine js Z (jn ?_)
 refine⟨i+1,Ent.to ⟨Z,Z,Z,ap⟩ Z,⟨by omega,fun j hj=>?_⟩,by omega⟩
 rcases Nat.lt_or_ge j i with h|h
 exact hi.2 j h
 obtain rfl:j=i:=by omega
 have:=z18;simp at this;exact this
 try simp only[bG]at z9
 refine bg (ae (js Z (jr ?_)))
 refine aJ Z ?_
 obtain rfl:i=ts.length:=by omega
 rw[uS hi.2]
theorem eE{ys:List Int}:dZ [] ys=0:=by cases ys<;>rfl
theorem g9{xs:List Int}:dZ xs []=0:=by cases xs<;>rfl
theorem sA: ∀{xs ys:List Int},dZ (xs++[0]) ys=dZ xs ys
 | [],[]=>rfl
 | [],y::ys=>by
  show 0*y+dZ [] ys=0
  rw[eE];omega
 | x::xs,[]=>rfl
 | x::xs,y::ys=>by
  show x*y+dZ (xs++[0]) ys=x*y+dZ xs ys
  rw[sA]
theorem qI{ys:List Int}: ∀{n:Nat} {xs:List Int},xs.length=n→dZ (bM xs) ys=dZ xs ys
 | 0,xs,h=>by
  obtain rfl:=List.length_eq_zero_iff.1 h
  rfl
 | n+1,xs,h=>by
  have hne:xs≠[]:=by intro e;rw[e]at h;cases h
  have e:=(List.dropLast_concat_getLast hne).symm
  by_cases h0:xs.getLast hne=0
  rw[h0]at e
  rw[e,lS,sA]
  exact qI (n:=n) (by rw[List.length_dropLast];omega)
  rw[e,rZ h0]
theorem tI{m:Int}{f g:Nat→Int}: ∀{ks:List Nat} {ys:List Int},dZ (ks.map fun k=>m*f k+g k) ys=m*dZ (ks.map f) ys+dZ (ks.map g) ys
 | [],ys=>by simp only[List.map_nil,eE];omega
 | k::ks,[]=>by simp only[g9];omega
 | k::ks,y::ys=>by
  simp only[List.map_cons,dZ]
  rw[tI,Int.add_mul,Int.mul_add,Int.mul_assoc]
  omega
theorem gd: ∀{n:Nat} {xs ys:List Int},xs.length≤n→dZ ((List.range n).map fun k=>xs.getD k 0) ys=dZ xs ys
 | 0,xs,ys,h=>by
  obtain rfl:=List.length_eq_zero_iff.1 (Nat.le_zero.1 h)
  rfl
 | n+1,xs,[],h=>by rw[g9,g9]
 | n+1,[],y::ys,h=>by
  rw[List.range_succ_eq_map,List.map_cons,List.map_map]
  have:=gd (n:=n) (xs:=[]) (ys:=ys) (cT _)
  show 0*y+dZ ((List.range n).map _) ys=0
  rw[eE]at this
  rw[show dZ ((List.range n).map ((fun k=>([]:List Int).getD k 0)∘Nat.succ)) ys=dZ ((List.range n).map fun k=>([]:List Int).getD k 0) ys from Z,this]
  omega
 | n+1,x::xs,y::ys,h=>by
  rw[List.range_succ_eq_map,List.map_cons,List.map_map]
  have:=gd (n:=n) (xs:=xs) (ys:=ys) (by simpa using h)
  show x*y+dZ ((List.range n).map ((fun k=>(x::xs).getD k 0)∘Nat.succ)) ys=x*y+dZ xs ys
  rw[←this];rfl
theorem qJ{ys:List Int}: ∀{ts:List Tm} {ms:List Int},(∀t∈ts,t.xs.length≤10)→dZ (bU ts ms) ys=bD (fun t=>dZ t.xs ys) ts ms
 | [],ms,h=>by
  have h0:bU [] ms=(List.range 10).map fun k=>([]:List Int).getD k 0:=by
   unfold bU;exact List.map_congr_left fun k _=>by simp[bD]
  rw[h0,gd (cT _),eE];rfl
 | t :: ts,[],h=>by
  have h0:bU (t::ts) []=(List.range 10).map fun k=>([]:List Int).getD k 0:=by
   unfold bU;exact List.map_congr_left fun k _=>by simp[bD]
  rw[h0,gd (cT _),eE];rfl
 | t::ts,m::ms,h=>by
  have h1:bU (t::ts) (m::ms)=(List.range 10).map fun k=>m*t.xs.getD k 0+bD (kb k) ts ms:=rfl
  rw[h1,tI (f:=fun k=>t.xs.getD k 0) (g:=fun k=>bD (kb k) ts ms),gd (h t (by simp))]
  have h2:=qJ (ys:=ys) (ts:=ts) (ms:=ms) (fun u hu=>h u (by simp[hu]))
  unfold bU at h2
  rw[h2];rfl
theorem qM{f g:Tm→Int}: ∀{ts:List Tm} {ms:List Int},bD f ts ms+bD g ts ms=bD (fun t=>f t+g t) ts ms
 | [],ms=>by simp[bD]
 | t::ts,[]=>by simp[bD]
 | t::ts,m::ms=>by
  simp only[bD]
  rw[←qM,Int.mul_add];omega
theorem vd{f:Tm→Int}: ∀{ts:List Tm} {ms:List Int},bD f ts ms=dZ ms (ts.map f)
 | [],ms=>by rw[List.map_nil,g9];simp[bD]
 | t::ts,[]=>by simp[bD,dZ]
 | t::ts,m::ms=>by simp only[bD,List.map_cons,dZ];rw[vd]
theorem Gz{t:Tm}(h:t.ok=true):t.xs.length≤10:=by
 unfold Tm.ok at h
 cases h1:decide ((10:Int)<t.xs.length)with
 | true=>rw[h1]at h;simp at h
 | false=>have:=cu h1;omega
theorem xK{c:Int}{xs v:List Int}(h:(mf c xs).2=true):aS (mf c xs).1 v=c+dZ xs v:=by
 unfold mf at h ⊢
 split
 show c+dZ (bM xs) v=_
 rw[qI Z]
 rename_i hn;rw[if_neg hn]at h;cases h
theorem jO{t:Tm}{vs:List Tm}{v:List Int}(hv: ∀u∈vs,u.ok=true)(h:(aR t vs).2=true):aS (aR t vs).1 v=aS t (vs.map fun u=>aS u v):=by
 unfold aR at h ⊢
 rw[xK h,qJ (fun u hu=>Gz (hv u hu)),Int.add_assoc,qM,vd]
 rfl
theorem qr{t:Tm}{v:List Int}(ht:t.ok=true)(h:(aX t).2=true):aS (aX t).1 v= -aS t v-1:=by
 unfold aX yi at h ⊢
 rw[xK h]
 have h1:mg t (-1) ⟨1,[]⟩ (-1)=(List.range 10).map fun k=> -1*t.xs.getD k 0+([]:List Int).getD k 0:=by
  unfold mg;exact List.map_congr_left fun k _=>by simp
 rw[h1,tI (f:=fun k=>t.xs.getD k 0) (g:=fun k=>([]:List Int).getD k 0),gd (Gz ht),gd (cT _),eE]
 unfold aS
 show -1*t.c+ -1*1+(-1*dZ t.xs v+0)=_
 omega
def BZ:List Tr→RS→Bool×RS
  | [],r=>(true,r)
  | t::ts,r=>if(bm t r).1=true then BZ ts (bm t r).2 else(false,(bm t r).2)
def flat:Tr→Bool
  | .node s a [x,y]=>flat x&&flat y
  | .node s a []=>!decide (s.kind=3)
  | .node s a _=>false
theorem GH{r:RS}:(bc r).2.vars=r.vars∧(bc r).2.events=r.events:=by
 unfold bc;split<;>exact⟨rfl,rfl⟩
structure At(v:List Int)(w:Pw)(r:RS):Prop where
  vars:r.vars=w.vars.map fun u=>aS u v
  ev:r.events=w.ev
  hold:cK w.facts v=true
theorem j0{ts:List Tm}{t:Tm}{v:List Int}:cK (ts++[t]) v=(cK ts v&&decide (0≤aS t v)):=by
 unfold cK;rw[List.all_append];simp
structure PsAt(frm:Int)(w:Pw)(ts:List Tr)(ps:List Pth):Prop where
  all: ∀p∈ps,p.frm=frm∧p.to= -1∧p.ends.length=w.vars.length∧w.facts <+: p.facts
  run : ∀(v:List Int) (r:RS),At v w r→(BZ ts r).1=true→∃i,i<ps.length∧(∀j (hj:j<ps.length),cK ps[j].facts v=decide (j=i))∧
    ∀(hi:i<ps.length),ps[i].ev=(BZ ts r).2.events∧(ps[i].ends.map fun u=>aS u v)=(BZ ts r).2.vars
def Kj(b:List Sm):Prop:= ∀(rest:List Sm) (m:Int),0≤m→fQ (b++rest) (m+1)=(fQ rest m).map (· + b.length)
structure BdOk(b:List Sm):Prop where
  st: ∀x∈b,bz x=true
  ends:Kj b
  pos:1≤b.length
theorem oY{t:Tm}(h:t.term=true):t.xs.length≤4:=by
 unfold Tm.term at h
 rw[bS]at h
 have:=bK h.2;omega
theorem sB{f:Tm→Int}: ∀{ts:List Tm} {ms:List Int},(∀t∈ts,f t=0)→bD f ts ms=0
 | [],ms,h=>by simp[bD]
 | t::ts,[],h=>by simp[bD]
 | t::ts,m::ms,h=>by
  simp only[bD]
  rw[h t (by simp),sB (fun u hu=>h u (by simp[hu]))];omega
theorem qA{xs:List Int}{k:Nat}(h:xs.length≤k):xs.getD k 0=0:=by
 rw[List.getD_eq_getElem?_getD,List.getElem?_eq_none h];rfl
theorem r8{g:Nat→Int}{k:Nat}(h:g k=0):((List.range 10).map g).getD k 0=0:=by
 rw[List.getD_eq_getElem?_getD,List.getElem?_map]
 rcases Nat.lt_or_ge k 10 with h1|h1
 rw[List.getElem?_range h1];exact h
 rw[List.getElem?_eq_none (by rw[List.length_range];exact h1)];rfl
structure TmW(w:Pw):Prop where
  vars: ∀u∈w.vars,u.term=true
  facts: ∀u∈w.facts,u.term=true
structure PaW(P:List Pth)(i0:Nat)(v0 ev vs:List Int):Prop where
  frm: ∀r∈P,r.frm= -1∧r.to= -1∧r.ends.length=4
  facts: ∀r∈P,∀t∈r.facts,t.term=true
  ends: ∀r∈P,∀t∈r.ends,t.term=true
  lt:i0<P.length
  hold: ∀j,j<P.length→cK (P.getD j default).facts v0=decide (j=i0)
  ev:(P.getD i0 default).ev=ev
  vs:((P.getD i0 default).ends.map fun u=>aS u v0)=vs
theorem four{xs:List Int}(h:xs.length=4): ∃a b c d,xs=[a,b,c,d]:=by
 match xs,h with
 | [a,b,c,d],_=>exact⟨a,b,c,d,Z⟩
theorem xZ{g:Nat}: ∀{xs ys:List Int},(∀x∈xs,g ∣ x.natAbs)→(g:Int)*dZ (xs.map fun x=>x.tdiv g) ys=dZ xs ys
 | [],ys,_=>by rw[List.map_nil,eE,Int.mul_zero]
 | x::xs,[],_=>by rw[g9,g9,Int.mul_zero]
 | x::xs,y::ys,h=>by
  rw[List.map_cons]
  simp only[dZ]
  rw[Int.mul_add,xZ (fun z hz=>h z (by simp[hz])),←Int.mul_assoc,li (h x (by simp))]
theorem nu{ts:List Tm}{v:List Int}(h:cK ts v=true){t:Tm}(ht:t∈ts):0≤aS t v:=by
 unfold cK at h
 exact bK (List.all_eq_true.1 h t ht)
theorem qx{ts:List Tm}{v:List Int}(h: ∀t∈ts,0≤aS t v):cK ts v=true:=by
 unfold cK
 exact List.all_eq_true.2 fun t ht=>decide_eq_true (h t ht)
theorem pc{f:Tm→Int}: ∀{ts:List Tm} {ms:List Int},(∀t∈ts,0≤f t)→(∀m∈ms,0≤m)→0≤bD f ts ms
 | [],ms,_,_=>by simp[bD]
 | t::ts,[],_,_=>by simp[bD]
 | t::ts,m::ms,h1,h2=>by
  simp only[bD]
  have a:=pc (f:=f) (ts:=ts) (ms:=ms) (fun u hu=>h1 u (by simp[hu])) (fun u hu=>h2 u (by simp[hu]))
  have b:=Int.mul_nonneg (h2 m (by simp)) (h1 t (by simp))
  omega
theorem oD{ts:List Tm}{ms v:List Int}(h: ∀t∈ts,t.xs.length≤10):aS (io ts ms) v=bD (fun t=>aS t v) ts ms:=by
 show bD Tm.c ts ms+dZ (bM (bU ts ms)) v=_
 rw[qI Z,qJ h,qM];rfl
theorem yG{t:Tm}{v:List Int}(h:t.xs.length≤10):aS (ep t) v= -aS t v-1:=by
 have:=oD (ts:=[t]) (ms:=[-1]) (v:=v) (fun u hu=>by rw[List.mem_singleton.1 hu];exact h)
 simp only[bD]at this
 have e:aS (ep t) v=aS (io [t] [-1]) v-1:=by
  show bD Tm.c [t] [-1]-1+dZ (bM (bU [t] [-1])) v=bD Tm.c [t] [-1]+dZ (bM (bU [t] [-1])) v-1
  omega
 rw[e,this];omega
theorem Bh{t:Tm}:(ep t).xs.length≤10:=by
 have:=gE (bU [t] [-1])
 simp only[bU,bQ,List.length_range]at this
 exact this
theorem tV{c:List Tm}{ms v:List Int}(hl: ∀t∈c,t.xs.length≤10)(hm: ∀m∈ms,0≤m)(h:dY c ms=true)(hh:cK c v=true):False:=by
 unfold dY at h
 simp only[bS,decide_eq_true_eq]at h
 obtain⟨_,h2,h3⟩:=h
 have e:=oD (ts:=c) (ms:=ms) (v:=v) hl
 have e2:aS (io c ms) v=bD Tm.c c ms:=by
  show bD Tm.c c ms+dZ (bM (bU c ms)) v=_
  rw[List.length_eq_zero_iff.1 h2,eE,Int.add_zero]
 have:=pc (f:=fun t=>aS t v) (ts:=c) (ms:=ms) (fun t ht=>nu hh ht) hm
 omega
theorem vo{t:Tm}{v:List Int}(h2:(f8 t).2=true)(h:0≤aS t v):0≤aS (f8 t).1 v∧(f8 t).1.xs.length=t.xs.length:=by
 unfold f8 at h2 ⊢
 split at h2
 cases h2
 rename_i hg
 rw[if_neg hg]
 refine⟨?_,by simp⟩
 show 0≤t5 t.c (bB t.xs)+dZ (t.xs.map fun x=>x.tdiv (bB t.xs)) v
 have hd:=xZ (g:=bB t.xs) (ys:=v) (fun x hx=>iC hx)
 have hf:=Aw (c:=t.c) (g:=bB t.xs) (by omega)
 unfold aS at h
 rw[←hd]at h
 generalize dZ (t.xs.map fun x=>x.tdiv (bB t.xs)) v=Y at h ⊢
 refine Int.not_lt.1 fun hn=>?_
 have h5:Y≤ -(t5 t.c (bB t.xs))-1:=by omega
 have h6:=Int.mul_le_mul_of_nonneg_left h5 (show(0:Int)≤(bB t.xs:Int) by omega)
 omega
theorem kr{v:List Int}: ∀{t:Pf} {c:List Tm},t.fine→t.okay c→(∀u∈c,u.xs.length≤10)→cK c v=false
 | .close n,c,hf,ho,hl=>by
  cases hh:cK c v with
  | false=>rfl
  | true=>
   refine(tV hl (fun m hm=>?_) ho hh).elim
   have h1:=hf.1
   unfold ic at h1
   rw[if_pos hf.2]at h1
   simp only[bS]at h1
   have h2:=h1.2
   unfold yl at h2
   simp only[bS]at h2
   have h3:=List.all_eq_true.1 h2.1 m hm
   unfold co at h3
   simp only[bS,decide_eq_true_eq]at h3
   exact h3.1
 | .tight n a,c,hf,ho,hl=>by
  cases hh:cK c v with
  | false=>rfl
  | true=>
   obtain⟨h1,h2⟩:=ho
   simp only[bS]at h1
   have hfa:=h1.1
   unfold ik ft at hfa
   simp only[bS,decide_eq_true_eq]at hfa
   have hlt:n.fact.toNat<c.length:=by omega
   have hm:c.getD n.fact.toNat default∈c:=by rw[aD hlt];exact List.getElem_mem hlt
   have ht:=vo (v:=v) h1.2 (nu hh hm)
   have := kr (v:=v) hf.2.2 h2 (fun u hu=>by
    rcases List.mem_append.1 hu with h3|h3
    · exact hl u h3
    · rw[List.mem_singleton.1 h3]
      show(f8 _).1.xs.length≤10
      rw[ht.2];exact hl _ hm)
   rw[j0,hh,decide_eq_true (show 0≤aS (pm n c).1 v from ht.1)]at this
   cases this
 | .split n a b,c,hf,ho,hl=>by
  cases hh:cK c v with
  | false=>rfl
  | true=>
   obtain⟨h1,h2,h3⟩:=ho
   have hn:=hf.1
   unfold ic at hn
   rw[if_neg (by rw[hf.2.1];decide),if_pos hf.2.1]at hn
   simp only[bS]at hn
   have htl:=Gz hn.1.2
   by_cases hc:0≤aS n.term v
   have:=kr (v:=v) hf.2.2.1 h2 (fun u hu=>by
    rcases List.mem_append.1 hu with h3|h3
    · exact hl u h3
    · rw[List.mem_singleton.1 h3];exact htl)
   rw[j0,hh,decide_eq_true hc]at this
   cases this
   have:=kr (v:=v) hf.2.2.2 h3 (fun u hu=>by
    rcases List.mem_append.1 hu with h3|h3
    · exact hl u h3
    · rw[List.mem_singleton.1 h3];exact Bh)
   rw[j0,hh,yG htl,decide_eq_true (by omega)]at this
   cases this
theorem wz{s:Sq}{b:Int}(hs:dW s=true)(h:(cN s b).2=true){v:List Int}(hf:cK s.facts v=true):0≤aS s.goal v:=by
 obtain⟨g1,g2,g3⟩:=fJ hs
 unfold cN at h
 split at h
 rename_i ho
 split at h
 cases h
 rename_i z hz
 have hF:Fs (s.facts++[(aX s.goal).1]):=⟨fun u hu=>by
  rcases List.mem_append.1 hu with hu|hu
  · exact g1 u hu
  · simp only[List.mem_singleton]at hu;subst hu;exact lM ho,by simp;omega⟩
 obtain⟨t,h1,h2,h3⟩:=l4 hF hz
 have:=kr (v:=v) h2 h3 (fun u hu=>by
  rcases List.mem_append.1 hu with h4|h4
  · exact Gz (g1 u h4)
  · rw[List.mem_singleton.1 h4];exact Gz (lM ho))
 rw[j0,hf,qr g3 ho,Bool.true_and]at this
 have:=cu this
 omega
 cases h
def VC(cs:List Sq):Prop:= ∀s∈cs,∀v:List Int,cK s.facts v=true→0≤aS s.goal v
theorem VC.pre{cs ds:List Sq}(h:VC ds)(hp:cs <+: ds):VC cs:=fun s hs=>h s (hp.subset hs)
theorem qC{w:Pw}: ∀{fs:List Tm} {g:Gs},g.conds <+: (fs.foldl (bE w) g).conds
 | [],g=>List.prefix_refl _
 | t::fs,g=>(List.prefix_append _ _:g.conds <+: (bE w g t).conds).trans (qC (fs:=fs) (g:=bE w g t))
theorem Gx{la:dM}{s:Sm}{w:Pw}{g:Gs}:g.conds <+: (cd la s w g).2.conds:=by
 have hc: ∀t,g.conds <+: (cy la w t g).conds:=fun t=>(List.prefix_append _ _:g.conds <+: ((bk w t g).goal w (aR t w.vars).1).conds).trans (List.prefix_append _ _)
 unfold cd
 split
 exact List.prefix_refl _
 split
 split
 exact hc _
 exact hc _
 split
 exact hc _
 split
 exact List.prefix_refl _
 split
 exact List.prefix_append _ _
 exact List.prefix_refl _
theorem ow{frm to:Int}{w:Pw}{fs:List Tm}{g:Gs}:g.conds <+: (dP frm w to fs g).conds:=qC
theorem fL{la:dM}{E:Pe}{frm:Int}: ∀{n:Nat} {r:List Fr} {w:Pw} {g:Gs},g.conds <+: (fi la E frm n r w g).conds
 | 0,r,w,g=>List.prefix_refl _
 | n + 1,r,w,g=>by
  cases hb:g.bad with
  | true=>rw[de hb];exact List.prefix_refl _
  | false=>
   match r with
   | []=>rw[gm hb];exact ow
   | .lp j::r=>rw[jv hb];exact ow
   | .st (.node s a [])::r=>rw[fA hb];exact Gx.trans fL
   | .st (.node s a [x])::r=>rw[ju hb];exact ow
   | .st (.node s a [x,y])::r=>
    by_cases hk:s.kind=1
    rw[gl hb hk];exact fL
    rw[jy hb hk]
    unfold dT
    exact(fL (n:=n) (r:=.st x::r) (w:=w.fact (aR s.sum w.vars).1) (g:=((bk w s.sum g).flag (!(aX (aR s.sum w.vars).1).2)).flag (w.fact (aR s.sum w.vars).1).long)).trans fL
   | .st (.node s a (x::y::z::ks))::r=>rw[jR hb];exact Gx.trans fL
theorem jS{la:dM}{E:Pe}{frm:Int}{n:Nat}{r:List Fr}{w:Pw}{g:Gs}(h:(fi la E frm n r w g).bad=false):g.bad=false:=by
 cases hb:g.bad with
 | false=>rfl
 | true=>rw[de hb,hb]at h;cases h
theorem si{w:Pw}: ∀{fs:List Tm} {g:Gs},(fs.foldl (bE w) g).bad=false→∀t∈fs,(aR t w.vars).2=true∧(⟨w.facts,(aR t w.vars).1⟩:Sq)∈(fs.foldl (bE w) g).conds
 | [],g,h,t,ht=>by cases ht
 | u :: fs,g,h,t,ht=>by
  have h':(fs.foldl (bE w) (bE w g u)).bad=false:=h
  rcases List.mem_cons.1 ht with rfl|ht
  have hb:(bE w g t).bad=false:=by
   cases hb:(bE w g t).bad with
   | false=>rfl
   | true=>rw[qD hb]at h';cases h'
  refine⟨?_,(qC (fs:=fs) (g:=bE w g t)).subset ?_⟩
  simp only[bE,bk,Gs.goal,Gs.flag,Bool.or_eq_false_iff,Bool.not_eq_false']at hb
  exact hb.2
  simp[bE,Gs.goal]
  exact si h' t ht
structure AtS(v:List Int)(w:Pw)(r:RS):Prop where
  vars:r.vars=w.vars.map fun u=>aS u v
  hold:cK w.facts v=true
  vsup: ∀u∈w.vars,u.xs.length≤w.sym
  fsup: ∀u∈w.facts,u.xs.length≤w.sym
  vl:v.length=10
  sy:w.sym≤10
  out:r.out=0
  ok: ∀u∈w.vars,u.ok=true
theorem xY: ∀{xs v:List Int} {k:Nat} {x:Int},xs.length≤k→dZ xs (v.set k x)=dZ xs v
 | [],v,k,x,h=>by rw[eE,eE]
 | a::xs,[],k,x,h=>by simp
 | a::xs,y::v,0,x,h=>by simp at h
 | a::xs,y::v,k+1,x,h=>by
  rw[List.set_cons_succ]
  simp only[dZ]
  rw[xY (by simpa using h)]
theorem uY{t:Tm}{v:List Int}{k:Nat}{x:Int}(h:t.xs.length≤k):aS t (v.set k x)=aS t v:=by
 unfold aS;rw[xY h]
theorem u9: ∀{k:Nat} {v:List Int},k<v.length→dZ (List.replicate k 0++[1]) v=v.getD k default
 | 0,y::v,h=>by simp[dZ,eE]
 | k+1,y::v,h=>by
  rw[List.replicate_succ,List.cons_append]
  simp only[dZ]
  rw[u9 (k:=k) (v:=v) (by simpa using h),List.getD_cons_succ];omega
theorem AY{k:Nat}{v:List Int}(h:k<v.length):aS (iV k) v=v.getD k default:=by
 unfold aS iV
 show 0+dZ _ v=_
 rw[u9 h];omega
theorem ut{m:Nat}: ∀{n:Nat} {xs:List Int},xs.length=n→(∀k,m≤k→xs.getD k 0=0)→(bM xs).length≤m
 | 0,xs,h,_=>by
  obtain rfl:=List.length_eq_zero_iff.1 h
  exact cT _
 | n + 1,xs,h,hz=>by
  have hne:xs≠[]:=by intro e;rw[e]at h;cases h
  rcases Nat.lt_or_ge n m with h4|h4
  have:=gE xs;omega
  have e:=(List.dropLast_concat_getLast hne).symm
  have h0:xs.getLast hne=0:=by
   have:=hz n h4
   rw[List.getLast_eq_getElem]
   rw[List.getD_eq_getElem?_getD,List.getElem?_eq_getElem (show n<xs.length by omega),Option.getD_some]at this
   simp only[h,Nat.add_sub_cancel];exact this
  rw[h0]at e
  rw[e,lS]
  refine ut (n:=n) (by rw[List.length_dropLast];omega) fun k hk=>?_
  have:=hz k hk
  rw[List.getD_eq_getElem?_getD]at this ⊢
  rcases Nat.lt_or_ge k xs.dropLast.length with h5|h5
  rw[List.getElem?_eq_getElem h5,List.getElem_dropLast]
  have h6:k<xs.length:=by rw[List.length_dropLast]at h5;omega
  rw[List.getElem?_eq_getElem h6]at this;exact this
  rw[List.getElem?_eq_none h5];rfl
theorem Aq{m:Nat}{c:Int}{xs:List Int}(h: ∀k,m≤k→xs.getD k 0=0):(mf c xs).1.xs.length≤m:=by
 unfold mf
 split
 exact ut Z h
 exact cT _
theorem pD{m:Nat}{t:Tm}{vs:List Tm}(h: ∀u∈vs,u.xs.length≤m):(aR t vs).1.xs.length≤m:=
  Aq fun k hk=>r8 (sB fun u hu=>qA (Nat.le_trans (h u hu) hk))
theorem xJ{m:Nat}{t:Tm}(h:t.xs.length≤m):(aX t).1.xs.length≤m:=
  Aq fun k hk=>r8 (by
    rw[qA (Nat.le_trans h hk),qA (cT _)];rfl)
def kL:List Fr→RS→Bool×RS
  | [],r=>(true,r)
  | .lp _::_,r=>(true,r)
  | .st t::R,r=>if(bm t r).1=true then kL R (bm t r).2 else(false,(bm t r).2)
def KR(E:Pe):List Fr→RS→Prop
  | [],r=>cK E.post r.vars=true
  | .lp k::_,r=>cK (E.lf k) r.vars=true
  | .st _::R,r=>KR E R r
structure Sf(q:Bool×RS)(K:RS→Prop):Prop where
  yes:q.1=true→K q.2∧q.2.out=0∧q.2.vars.length=4
  no:q.1=false→q.2.out=1∨q.2.out=4
def Gw(E:Pe)(s:Sm)(a:Int)(x:Tr)(R:List Fr):Prop:=
  ∀r:RS,r.vars.length=4→r.out=0→cK s.facts r.vars=true→Sf (kL (.st (.node s a [x])::R) r) (KR E R)
def LT(E:Pe):Tr→List Fr→Prop
  | .node s a [x,y],R=>if s.kind=1 then LT E x (.st y::R)∧LT E y R else LT E x R∧LT E y R
  | .node s a [x],R=>Gw E s a x R
  | .node s a [],R=>True
  | .node s a _,R=>False
def LG(E:Pe):List Fr→Prop
  | []=>True
  | .lp _::_=>True
  | .st t::R=>LT E t R∧LG E R
theorem A6{s:Sm}{a:Int}{x y:Tr}{R:List Fr}{r:RS}(hk:s.kind=1):kL (.st (.node s a [x,y])::R) r=kL (.st x:: .st y::R) r:=by
 simp only[kL]
 rw[gv,if_pos hk]
 by_cases h:(bm x r).1=true
 rw[if_pos h,if_pos h]
 rw[if_neg h,if_neg h,if_neg Bool.false_ne_true]
theorem CB{s:Sm}{a:Int}{x y:Tr}{R:List Fr}{r:RS}(hk: ¬s.kind=1) :
    kL (.st (.node s a [x,y])::R) r=if(bc r).1=true then(if 0≤aS s.sum r.vars then kL (.st x::R) (bc r).2 else kL (.st y::R) (bc r).2)else(false,(bc r).2):=by
 simp only[kL]
 rw[gv,if_neg hk,GH.1]
 by_cases h1:(bc r).1=true
 rw[if_pos h1,if_pos h1]
 split<;>rfl
 rw[if_neg h1,if_neg h1,if_neg Bool.false_ne_true]
theorem yA{s:Sm}{a:Int}{R:List Fr}{r:RS} :
    kL (.st (.node s a [])::R) r=if(bc r).1=true then(if(leaf s (bc r).2).1=true then kL R (leaf s (bc r).2).2 else(false,(leaf s (bc r).2).2))else(false,(bc r).2):=by
 simp only[kL]
 rw[cO]
 by_cases h1:(bc r).1=true
 rw[if_pos h1,if_pos h1]
 rw[if_neg h1,if_neg h1,if_neg Bool.false_ne_true]
theorem r4{r:RS}{K:RS→Prop}{f:Bool×RS}(h:(bc r).1=true→Sf f K):Sf (if(bc r).1=true then f else(false,(bc r).2)) K:=by
 by_cases h1:(bc r).1=true
 rw[if_pos h1];exact h h1
 rw[if_neg h1]
 refine⟨fun e=>(by cases e),fun _=>.inl ?_⟩
 unfold bc at h1 ⊢
 split
 rfl
 rename_i hn;rw[if_neg hn]at h1;exact absurd Z h1
theorem yx{r:RS}(h1:(bc r).1=true):(bc r).2.out=r.out:=by
 unfold bc at h1 ⊢
 split
 rename_i hn;rw[if_pos hn]at h1;cases h1
 rfl
theorem AtS.step{v:List Int}{w:Pw}{r:RS}(h:AtS v w r)(h1:(bc r).1=true):AtS v w (bc r).2:=⟨GH.1.trans h.vars,h.hold,h.vsup,h.fsup,h.vl,h.sy,(yx h1).trans h.out,h.ok⟩
theorem AtS.fact{v:List Int}{w:Pw}{r:RS}(h:AtS v w r){t:Tm}(ht:0≤aS t v)(hs:t.xs.length≤w.sym):AtS v (w.fact t) r:=⟨h.vars,by
  show cK (w.facts++[t]) v=true
  rw[j0,h.hold,decide_eq_true ht];rfl,h.vsup,fun u hu=>by
  rcases List.mem_append.1 hu with h1|h1
  · exact h.fsup u h1
  · rw[List.mem_singleton.1 h1];exact hs,h.vl,h.sy,h.out,h.ok⟩
theorem yL{t:Tm}{v:List Int}(h:t.xs.length≤10):aS (bT t).1 v=7-aS t v:=by
 show aS (io [⟨7,[]⟩,t] [1,-1]) v=_
 rw [oD (fun u hu=>by
  simp only[List.mem_cons,List.not_mem_nil,or_false]at hu
  rcases hu with rfl|rfl
  · exact cT _
  · exact h)]
 simp only[bD]
 have:aS ⟨7,[]⟩ v=7:=by unfold aS;rw[eE];rfl
 rw[this];omega
theorem x5{w:Pw}{t:Tm}{g:Gs}{v:List Int}(hok: ∀u∈w.vars,u.ok=true)(hb:(cy bT w t g).bad=false)(hc:VC (cy bT w t g).conds)(hh:cK w.facts v=true):ft 0 7 (aS t (w.vars.map fun u=>aS u v))=true:=by
 have hs:(aR t w.vars).2=true:=by
  simp only[cy,kT,bk,Gs.flag,Gs.goal,Bool.or_eq_false_iff,Bool.not_eq_false']at hb
  exact hb.1.2
 have h1:=hc ⟨w.facts,(aR t w.vars).1⟩ (by simp[cy,kT,Gs.goal,Gs.flag]) v hh
 have h2:=hc ⟨w.facts,(bT (aR t w.vars).1).1⟩ (by simp[cy,kT,Gs.goal,Gs.flag]) v hh
 simp only at h1 h2
 rw[yL (Gz fo)]at h2
 rw[jO hok hs]at h1 h2
 unfold ft
 rw[decide_eq_true h1,decide_eq_true (by omega)];rfl
theorem yK{s:Sm}{w:Pw}{g:Gs}{v:List Int}{r:RS}{f:RS→Bool×RS}{K:RS→Prop}(h:AtS v w r)(hb:(cd bT s w g).2.bad=false)(hc:VC (cd bT s w g).2.conds)
    (hf: ∀v' r',AtS v' (cd bT s w g).1 r'→Sf (f r') K):Sf (if(leaf s r).1=true then f (leaf s r).2 else(false,(leaf s r).2)) K:=by
 have no4:Sf (false,{r with out:=4}) K:=⟨fun e=>(by cases e),fun _=>.inr rfl⟩
 unfold cd at hb hc hf
 unfold leaf
 by_cases h2:s.kind=2
 rw[if_pos h2]at hb hc hf
 rw[if_pos h2]
 simp only[bk,Gs.flag,Bool.or_eq_false_iff,Bool.not_eq_false']at hb
 have e:=jO (v:=v) h.ok hb.2
 split
 rw[if_pos Z]
 refine hf v _ ⟨?_,h.hold,fun u hu=>?_,h.fsup,h.vl,h.sy,h.out,sZ h.ok fo⟩
 show r.vars.set s.var.toNat (aS s.sum r.vars)=(w.vars.set s.var.toNat (aR s.sum w.vars).1).map _
 rw[List.map_set,e,h.vars]
 rcases List.mem_or_eq_of_mem_set hu with h1|h1
 exact h.vsup u h1
 rw[h1];exact pD h.vsup
 rw[if_neg Bool.false_ne_true];exact no4
 rw[if_neg h2]at hb hc hf
 rw[if_neg h2]
 by_cases h3:s.kind=3
 rw[if_pos h3]at hb hc hf
 rw[if_pos h3]
 by_cases hsy:w.sym=10
 rw[if_pos hsy]at hb
 simp[Gs.flag]at hb
 rw[if_neg hsy]at hb hc hf
 have hi:=x5 h.ok hb hc h.hold
 rw[←h.vars]at hi
 rw[if_pos hi,if_pos Z]
 have hsl:w.sym<10:=by have:=h.sy;omega
 have hvl:=h.vl
 generalize r.cells.getD (aS s.index r.vars).toNat default=z
 have hmap:(w.vars.map fun u=>aS u (v.set w.sym z))=w.vars.map fun u=>aS u v:=List.map_congr_left fun u hu=>uY (h.vsup u hu)
 refine hf (v.set w.sym z) _ ⟨?_,?_,fun u hu=>?_,fun u hu=>?_,by rw[List.length_set];exact hvl,by show w.sym+1≤10;omega,h.out,sZ h.ok (Ag hsl)⟩
 show r.vars.set s.var.toNat z=(w.vars.set s.var.toNat (iV w.sym)).map _
 rw[List.map_set,hmap,←h.vars,AY (by rw[List.length_set];omega)]
 congr 1
 rw[List.getD_eq_getElem?_getD,List.getElem?_set,if_pos Z,if_pos (by omega)];rfl
 refine qx fun t ht=>?_
 rw[uY (h.fsup t ht)]
 exact nu h.hold ht
 rcases List.mem_or_eq_of_mem_set hu with h1|h1
 exact Nat.le_succ_of_le (h.vsup u h1)
 rw[h1];simp[iV,n4]
 exact Nat.le_succ_of_le (h.fsup u hu)
 rw[if_neg h3]at hb hc hf
 rw[if_neg h3]
 by_cases h4:s.kind=4
 rw[if_pos h4]at hb hc hf
 rw[if_pos h4]
 have hi:=x5 h.ok hb hc h.hold
 rw[←h.vars]at hi
 rw[if_pos hi]
 split
 rw[if_pos Z]
 exact hf v _ ⟨h.vars,h.hold,h.vsup,h.fsup,h.vl,h.sy,h.out,h.ok⟩
 rw[if_neg Bool.false_ne_true];exact no4
 rw[if_neg h4]at hb hc hf
 rw[if_neg h4]
 by_cases h5:s.kind=5
 rw[if_pos h5]at hb hc hf
 rw[if_pos h5,if_pos Z]
 exact hf v _ ⟨h.vars,h.hold,h.vsup,h.fsup,h.vl,h.sy,h.out,h.ok⟩
 rw[if_neg h5]at hb hc hf
 rw[if_neg h5]
 by_cases h6:s.kind=6
 rw[if_pos h6]at hb hc hf
 rw[if_pos h6]
 simp only[bk,Gs.flag,Gs.goal,Bool.or_eq_false_iff,Bool.not_eq_false']at hb
 have e:=jO (v:=v) h.ok hb.1.2
 have hg:=hc ⟨w.facts,(aR s.sum w.vars).1⟩ (by simp[Gs.goal,Gs.flag]) v h.hold
 simp only at hg
 rw[e,←h.vars]at hg
 rw[if_neg (show¬aS s.sum r.vars<0 by omega),if_pos Z]
 exact hf v _ (h.fact (by rw[e,←h.vars];exact hg) (pD h.vsup))
 rw[if_neg h6]at hb hc hf
 rw[if_neg h6,if_pos Z]
 exact hf v _ h
theorem AtS.four{v:List Int}{w:Pw}{r:RS}(h:AtS v w r)(h4:w.vars.length=4):r.vars.length=4:=by rw[h.vars,bQ];exact h4
theorem qG{frm to:Int}{w:Pw}{fs:List Tm}{g:Gs}{v:List Int}{r:RS}(h:AtS v w r)(hb:(dP frm w to fs g).bad=false)(hc:VC (dP frm w to fs g).conds):cK fs r.vars=true:=by
 refine qx fun t ht=>?_
 have hb':(fs.foldl (bE w) g).bad=false:=by
  simp only[dP,jL,Bool.or_eq_false_iff]at hb
  exact hb.1
 obtain⟨h1,h2⟩:=si hb' t ht
 have:=hc _ h2 v h.hold
 simp only at this
 rw[jO h.ok h1,←h.vars]at this
 exact this
theorem iD{E:Pe}{frm:Int}: ∀{n:Nat} {R:List Fr} {w:Pw} {g:Gs},aP R<n→LG E R→w.vars.length=4→(fi bT E frm n R w g).bad=false→VC (fi bT E frm n R w g).conds→
    ∀(v:List Int) (r:RS),AtS v w r→Sf (kL R r) (KR E R)
 | 0,R,w,g,hn,hL,h4,hb,hc,v,r,h=>absurd hn (Nat.not_lt_zero _)
 | n + 1,R,w,g,hn,hL,h4,hb,hc,v,r,h=>by
  have hgb:=jS hb
  match R with
  | []=>
   rw[gm hgb]at hb hc
   exact⟨fun _=>⟨qG h hb hc,h.out,h.four h4⟩,fun e=>(by cases e)⟩
  | .lp k::R=>
   rw[jv hgb]at hb hc
   exact⟨fun _=>⟨qG h hb hc,h.out,h.four h4⟩,fun e=>(by cases e)⟩
  | .st (.node s a [x])::R=>
   rw[ju hgb]at hb hc
   exact hL.1 r (h.four h4) h.out (qG h hb hc)
  | .st (.node s a [])::R=>
   rw[fA hgb]at hb hc
   rw[yA]
   have hn':aP R<n:=by
    simp only[aP,Fr.nodes]at hn
    have:1≤(Tr.node s a []).nodes:=by simp[Tr.nodes]
    omega
   refine r4 fun h1=>yK (f:=kL R) (h.step h1) (jS hb) (hc.pre fL) fun v' r' h'=>?_
   exact iD (n:=n) hn' hL.2 (yJ h4) hb hc v' r' h'
  | .st (.node s a [x,y])::R=>
   have hnn:(Tr.node s a [x,y]).nodes=1+(x.nodes+y.nodes):=by simp[Tr.nodes,Trs.nodes]
   simp only[aP,Fr.nodes]at hn
   have hLt:=hL.1
   rw[LT]at hLt
   by_cases hk:s.kind=1
   rw[if_pos hk]at hLt
   rw[gl hgb hk]at hb hc
   rw[A6 hk]
   exact iD (n:=n) (R:=.st x:: .st y::R) (by simp only[aP,Fr.nodes];omega) ⟨hLt.1,hLt.2,hL.2⟩ h4 hb hc v r h
   rw[if_neg hk]at hLt
   rw[jy hgb hk]at hb hc
   unfold dT at hb hc
   generalize hg1:((bk w s.sum g).flag (!(aX (aR s.sum w.vars).1).2)).flag (w.fact (aR s.sum w.vars).1).long=g1 at hb hc
   have hyb:=jS hb
   have hg1b:=jS hyb
   rw[←hg1]at hg1b
   simp only[bk,Gs.flag,Bool.or_eq_false_iff,Bool.not_eq_false']at hg1b
   obtain⟨⟨⟨_,hs⟩,ho⟩,_⟩:=hg1b
   have e:=jO (v:=v) h.ok hs
   have eo:=qr (v:=v) fo ho
   rw[←h.vars]at e
   have hsl:=pD (t:=s.sum) h.vsup
   rw[CB hk]
   refine r4 fun h1=>?_
   split
   rename_i hp
   exact iD (n:=n) (R:=.st x::R) (w:=w.fact (aR s.sum w.vars).1) (g:=g1) (by simp only[aP,Fr.nodes];omega) ⟨hLt.1,hL.2⟩ h4 hyb (hc.pre fL) v _ ((h.step h1).fact (by rw[e];exact hp) hsl)
   rename_i hp
   exact iD (n:=n) (R:=.st y::R) (w:=w.fact (aX (aR s.sum w.vars).1).1) (by simp only[aP,Fr.nodes];omega) ⟨hLt.2,hL.2⟩ h4 hb hc v _ ((h.step h1).fact (by rw[eo,e];omega) (xJ hsl))
  | .st (.node s a (x::y::z::ks))::R=>exact hL.1.elim
theorem Ct{vars:List Int}(h:vars.length=4):vars=(mN 4).map fun u=>aS u (vars++[0,0,0,0,0,0]):=by
 obtain⟨a,b,c,d,e⟩:=four h
 rw[e]
 show[a,b,c,d]=[aS (iV 0) _,aS (iV 1) _,aS (iV 2) _,aS (iV 3) _]
 simp[aS,iV,dZ,List.replicate]
theorem x2: ∀{xs ys zs:List Int},xs.length≤ys.length→dZ xs (ys++zs)=dZ xs ys
 | [],ys,zs,h=>by rw[eE,eE]
 | x::xs,[],zs,h=>by simp at h
 | x::xs,y::ys,zs,h=>by
  rw[List.cons_append];simp only[dZ]
  rw[x2 (by simpa using h)]
theorem xx{fs:List Tm}{r:RS}(h4:r.vars.length=4)(h0:r.out=0)(ht: ∀t∈fs,t.term=true)(hh:cK fs r.vars=true):AtS (r.vars++[0,0,0,0,0,0]) (w0 fs) r:=
  ⟨Ct h4,qx fun t hm=>by
 have:=nu hh hm
 unfold aS at this ⊢
 rw[x2 (by rw[h4];exact oY (ht t hm))]
 exact this,(show∀u∈mN 4,u.xs.length≤4 by decide),fun u hu=>oY (ht u hu),by simp[h4],(show 4≤10 by decide),h0,(show∀u∈mN 4,u.ok=true by decide)⟩
structure CondOK(N:Nat)(E:Pe)(q:Lp)(k:Nat):Prop where
  good:(dT (fi bT E k N [.st q.x,.lp k]) (fi bT E k N q.r) (w0 q.s.facts) (aR q.s.sum (mN 4)).1 (bk (w0 q.s.facts) q.s.sum g0)).bad=false
  vc:VC (dT (fi bT E k N [.st q.x,.lp k]) (fi bT E k N q.r) (w0 q.s.facts) (aR q.s.sum (mN 4)).1 (bk (w0 q.s.facts) q.s.sum g0)).conds
  terms: ∀t∈q.s.facts,t.term=true
  lf:E.lf k=q.s.facts
  nx:q.x.nodes≤30
  nr:aP q.r≤30
theorem qT{N:Nat}(hN:31≤N){E:Pe}{s:Sm}{a:Nat}{x:Tr}{R:List Fr}{k:Nat}(hC:CondOK N E ⟨s,a,x,R⟩ k)(hx:LG E [.st x,.lp k])(hR:LG E R) :
    ∀(m:Nat) (r:RS),r.vars.length=4→r.out=0→cK s.facts r.vars=true→Sf (if(er s (bm x) m r).1=true then kL R (er s (bm x) m r).2 else(false,(er s (bm x) m r).2)) (KR E R)
 | 0,r,h4,h0,hh=>by
  rw[er,if_neg Bool.false_ne_true]
  exact⟨fun e=>(by cases e),fun _=>.inl rfl⟩
 | m+1,r,h4,h0,hh=>by
  have hb:=hC.good
  have hc:=hC.vc
  unfold dT at hb hc
  simp only at hb hc
  generalize hg1:((bk (w0 s.facts) s.sum g0).flag (!(aX (aR s.sum (mN 4)).1).2)).flag ((w0 s.facts).fact (aR s.sum (mN 4)).1).long=g1 at hb hc
  have hyb:=jS hb
  have hg1b:=jS hyb
  rw[←hg1]at hg1b
  simp only[bk,Gs.flag,Bool.or_eq_false_iff,Bool.not_eq_false']at hg1b
  obtain⟨⟨⟨_,hs⟩,ho⟩,_⟩:=hg1b
  have h:=xx h4 h0 hC.terms hh
  have e:=jO (v:=r.vars++[0,0,0,0,0,0]) h.ok hs
  have eo:=qr (v:=r.vars++[0,0,0,0,0,0]) (fo (t:=s.sum) (vs:=mN 4)) ho
  rw[←h.vars]at e
  have e':aS (aR s.sum (mN 4)).1 (r.vars++[0,0,0,0,0,0])=aS s.sum r.vars:=e
  have hsl:(aR s.sum (mN 4)).1.xs.length≤4:=pD h.vsup
  have hnx:x.nodes≤30:=hC.nx
  have hnr:aP R≤30:=hC.nr
  have hE:er s (bm x) (m+1) r=if r.steps=r.fuel then(false,{r with out:=1})else if aS s.sum r.vars<0 then(true,{r with steps:=r.steps+1})else if(bm x {r with steps:=r.steps+1}).1=true then er s (bm x) m (bm x {r with steps:=r.steps+1}).2 else(false,(bm x {r with steps:=r.steps+1}).2):=by rw[er]
  rw[hE]
  have hst:AtS (r.vars++[0,0,0,0,0,0]) (w0 s.facts) {r with steps:=r.steps+1}:=⟨h.vars,h.hold,h.vsup,h.fsup,h.vl,h.sy,h.out,h.ok⟩
  by_cases hf:r.steps=r.fuel
  rw[if_pos hf,if_neg Bool.false_ne_true]
  exact⟨fun e=>(by cases e),fun _=>.inl rfl⟩
  rw[if_neg hf]
  by_cases hp:aS s.sum r.vars<0
  rw[if_pos hp,if_pos Z]
  exact iD (n:=N) (by omega) hR Z hb hc _ _ (hst.fact (by rw[eo,e'];omega) (xJ hsl))
  rw[if_neg hp]
  have hB:=iD (n:=N) (R:=[.st x,.lp k]) (by simp only[aP,Fr.nodes];omega) hx Z hyb (hc.pre fL) _ _ (hst.fact (t:=(aR s.sum (mN 4)).1) (by rw[e'];omega) hsl)
  rw[show kL [.st x,.lp k] {r with steps:=r.steps+1}=if(bm x {r with steps:=r.steps+1}).1=true then(true,(bm x {r with steps:=r.steps+1}).2)else(false,(bm x {r with steps:=r.steps+1}).2)from Z]at hB
  by_cases h1:(bm x {r with steps:=r.steps+1}).1=true
  rw[if_pos h1]at hB ⊢
  obtain⟨b1,b2,b3⟩:=hB.yes rfl
  have b1':cK (E.lf k) (bm x {r with steps:=r.steps+1}).2.vars=true:=b1
  rw[hC.lf]at b1'
  exact qT hN hC hx hR m _ b3 b2 b1'
  rw[if_neg h1]at hB ⊢
  rw[if_neg Bool.false_ne_true]
  exact⟨fun e=>(by cases e),fun _=>hB.no rfl⟩
def ir:Tr→Prop
  | .node s a [x,y]=>ir x∧ir y
  | .node s a [x]=>0≤a∧ir x
  | .node s a []=>True
  | _=>False
theorem gg{N:Nat}(hN:31≤N){E:Pe}{b:List Sm}: ∀{t:Tr} {R:List Fr},ir t→LG E R→(∀q∈bo b t R,CondOK N E q (br b q.a))→LT E t R
 | .node s a [x,y],R,hk,hR,hq=>by
  rw[LT]
  rw[e8]at hq
  rw[ir]at hk
  by_cases h1:s.kind=1
  rw[if_pos h1]at hq ⊢
  have hy:=gg hN (b:=b) hk.2 hR (fun q h=>hq q (List.mem_append_right _ h))
  exact⟨gg hN (b:=b) hk.1 ⟨hy,hR⟩ (fun q h=>hq q (List.mem_append_left _ h)),hy⟩
  rw[if_neg h1]at hq ⊢
  exact⟨gg hN (b:=b) hk.1 hR (fun q h=>hq q (List.mem_append_left _ h)),gg hN (b:=b) hk.2 hR (fun q h=>hq q (List.mem_append_right _ h))⟩
 | .node s a [x],R,hk,hR,hq=>by
  rw[LT]
  rw[jW]at hq
  rw[ir]at hk
  have hx:=gg hN (b:=b) (t:=x) (R:=[.lp (br b a.toNat)]) hk.2 trivial (fun q h=>hq q (List.mem_cons_of_mem _ h))
  have hC:=hq _ (List.mem_cons_self ..)
  intro r h4 h0 hh
  simp only[kL]
  rw[uB]
  exact qT hN hC ⟨hx,ap⟩ hR _ r h4 h0 hh
 | .node s a [],R,hk,hR,hq=>by rw[LT];trivial
 | .node s a (x::y::z::ks),R,hk,hR,hq=>by rw[ir]at hk<;>simp_all
theorem pK{b:List Sm}: ∀{t:Tr} {k k':Nat},cD b k=some (t,k')→ir t
 | .node s a [x,y],k,k',h=>by
  obtain⟨e1,rfl,e3,e4,e5⟩:=cx h
  obtain⟨k1,i1,i2⟩:=cr e4
  obtain⟨k2,i3,i4⟩:=cr i2
  rw[ir];exact⟨pK i1,pK i3⟩
 | .node s a [x],k,k',h=>by
  obtain⟨e1,rfl,e3,e4,e5⟩:=cx h
  obtain rfl:=dj h
  obtain⟨k1,i1,i2⟩:=cr e4
  rw[ir];exact⟨by omega,pK i1⟩
 | .node s a [],k,k',h=>by rw[ir];trivial
 | .node s a (x::y::z::ks),k,k',h=>by
  obtain⟨e1,rfl,e3,e4,e5⟩:=cx h
  have h2:=(c7 (b.getD k default).kind).2
  simp only[eH]at e5
  omega
theorem wr{s:Sm}(h:bz s=true): ∀t∈s.facts,t.term=true:=by
 refine lZ (n:=6) ?_
 unfold bz rJ at h
 cases ht:terms s.facts 6 with
 | true=>rfl
 | false=>rw[ht]at h;cases s.sum.term<;>cases s.index.term<;>cases decide (0≤s.kind)<;>cases decide (s.kind≤8)<;>simp at h
theorem Bm{p:Pm}{t:Tr}(ht:PtOk p t){q:Lp}(hq:q∈bo p.body t []):br p.body q.a<br p.body p.body.length∧(bo p.body t []).getD (br p.body q.a) default=q:=by
 have h:=(xa ht.tree (r:=[])).num
 have hl:=congrArg List.length h
 have h0:br p.body 0=0:=rfl
 rw[bQ,List.length_range',h0]at hl
 obtain⟨i,hi,rfl⟩:=List.mem_iff_getElem.1 hq
 have hg:((bo p.body t []).map (fun q=>br p.body q.a))[i]'(by rw[bQ];exact hi)=i:=by
  simp only[h,List.getElem_range'];omega
 rw[List.getElem_map]at hg
 rw[hg]
 exact⟨by omega,aD hi⟩
theorem rj{p:Pm}{t:Tr}{N:Nat}(hgood:(gp p t N).bad=false)(hvc:VC (gp p t N).conds){n:Nat}(hn:n+1≤N):(kP bT p t n g0).bad=false∧VC (kP bT p t n g0).conds:=by
 obtain⟨a1,a2,a3⟩:=yc (tO hgood hn)
 refine⟨a1,fun s hs=>hvc s ?_⟩
 have:=(AL hn hgood).2
 rw[a3]at this
 exact this.subset (List.mem_append_right _ hs)
theorem yH{p:Pm}{t:Tr}(ht:PtOk p t)(hgood:(gp p t (br p.body p.body.length+1)).bad=false)(hvc:VC (gp p t (br p.body p.body.length+1)).conds){q:Lp}(hq:q∈bo p.body t []):CondOK 31 (t2 p.body p.post) q (br p.body q.a):=by
 obtain⟨hn,hg⟩:=Bm ht hq
 have hL:=xa ht.tree (r:=[])
 obtain⟨h1,h2,h3,h4⟩:=hL.at_ q hq
 obtain⟨h5,h6⟩:=hL.size q hq
 have hnd:=ht.nodes
 have hr0:aP []=0:=rfl
 obtain⟨a1,a2⟩:=rj hgood hvc (n:=br p.body q.a+1) (by omega)
 rw[kP,cZ,hg]at a1 a2
 exact⟨a1,a2,by rw[h4];exact wr (ht.st _ h2),by rw[ht.e.lf _ h2 h3,h4],by omega,by omega⟩
theorem A5{p:Pm}{t:Tr}(ht:PtOk p t)(hgood:(gp p t (br p.body p.body.length+1)).bad=false)(hvc:VC (gp p t (br p.body p.body.length+1)).conds){r:RS}(h4:r.vars.length=4)(h0:r.out=0)(hh:cK p.pre r.vars=true) :
    Sf (bm t r) (fun r=>cK p.post r.vars=true):=by
 have hLT:LT (t2 p.body p.post) t []:=gg (da 31) (b:=p.body) (pK ht.tree) trivial (fun q hq=>yH ht hgood hvc hq)
 obtain⟨a1,a2⟩:=rj hgood hvc (n:=0) (by omega)
 rw[kP,cZ]at a1 a2
 have hn:=ht.nodes
 have hS:=iD (n:=31) (R:=[.st t]) (by simp only[aP,Fr.nodes];omega) ⟨hLT,ap⟩ Z a1 a2 _ r (xx h4 h0 (lZ ht.pre) hh)
 rw[show kL [.st t] r=if(bm t r).1=true then(true,(bm t r).2)else(false,(bm t r).2)from Z]at hS
 cases h:(bm t r).1 with
 | true=>
  rw[if_pos h]at hS
  exact⟨fun _=>hS.yes rfl,fun e=>(by rw[h]at e;cases e)⟩
 | false=>
  rw[if_neg (by rw[h];decide)]at hS
  exact⟨fun e=>(by rw[h]at e;cases e),fun _=>hS.no rfl⟩
theorem Hp{C:List Sq}{b:Int}(hc:im C=true)(hp: ∀s∈C,(cN s b).2=true):VC C:=fun s hs v hv=>
  wz (List.all_eq_true.1 (lI hc).1 s hs) (hp s hs) hv
theorem Db{C:List Sq}{b:Int}(hb:kN b=true)(hc:im C=true)(hp: ∀s∈C,(cN s b).2=true):sX C (C.map fun s=>(cN s b).1)=true:=by
 have hq:=(lI hc).1
 have hb60:b≤60:=by unfold kN at hb;simp only[bS,decide_eq_true_eq]at hb;exact hb.2
 have hl:(C.length:Int)≤60:=by
  unfold im at hc
  simp only[bS,decide_eq_true_eq]at hc
  exact hc.2
 unfold sX
 rw[decide_eq_true hl,Bool.true_and]
 refine r9 (bQ _) fun j hj=>?_
 rw[aD hj,aD (by rw[bQ];exact hj),List.getElem_map]
 exact(Bb (List.all_eq_true.1 hq _ (List.getElem_mem hj)) hb60 (hp _ (List.getElem_mem hj))).1
theorem E9(h0:(bif decide ((1048576:Int)<xs.length)then true else decide ((1048576:Int)<ys.length))=true):MQ h1 h2 4 [.c (.d (bys xs)),.c (.d (bys ys))] [] (Plain (eB true)):=by
 refine MC.data (jB 100 h1 h2 Tryz.func4 Z fun O hF=>?_)
 refine ae (js Z (jn (af (ae (ab Z (bP Z (xm (xs:=xs) (ys:=ys) h1 h2) 20000 Z (jn (ah Z (fun z19=>?_) (fun z19=>?_)))))))))
 refine ae (js Z (jr ?_))
 refine aJ Z ?_
 exact .v (.c .d)
 exact absurd z19 (by rw[h0];decide)
variable{p:Pm}{d2:D}
theorem AE(h0:(bif decide ((1048576:Int)<xs.length)then true else decide ((1048576:Int)<ys.length))=false)(hB:MQ h1 h2 14 [.c (.d (bys xs))] [] (Plain (kK p)))(hy: ∀n∈ys,0≤n∧n≤255)(hpt: ∀t∈p.pre,t.term=true)(hC:MQ h1 h2 15 [kK p] [] (Rows (.tup [.c (.d .nils),eB false]) []))(hQ:MQ h1 h2 16 [kK p,eI 60] [] (Rows (.tup [.c (.d .nils),eB false]) []))(hS:MQ h1 h2 17 [kK p,eI 60] [] (Plain (.tup [.c (.d d2),eB false]))):MQ h1 h2 4 [.c (.d (bys xs)),.c (.d (bys ys))] [] (Plain (eB true)):=by
 refine MC.data (jB 100 h1 h2 Tryz.func4 Z fun O hF=>?_)
 refine ae (js Z (jn (af (ae (ab Z (bP Z (xm (xs:=xs) (ys:=ys) h1 h2) 20000 Z (jn (ah Z (fun z19=>?_) (fun z19=>?_)))))))))
 exact absurd z19 (by rw[h0];decide)
 refine aj (ae (js Z (an O Z Z Z Z (hB) (ac Z) Z Z Z Z (B0:=22000) Z Z (jl Z (aq ?_)))))
 refine jo Z (aq ?_)
 refine ba (js Z (ci O (B0:=25000) Z Z Z Z (hC) (ac Z) Z Z Z Z Z Z (aq ?_)))
 refine az Z (js Z (ba (js Z (ci O (B0:=30000) Z Z Z Z (hQ) (ac Z) Z Z Z Z Z Z (aq ?_)))))
 refine az Z (js Z (ba (js Z (an O Z Z Z Z (hS) (ac Z) Z Z Z Z (B0:=35000) Z Z (az Z (js Z (jn (af (ae (az Z (bq Z (js Z (bq Z (js Z (bF Z (bF Z (bF Z (c8 Z Z Z Z Z (c8 Z Z Z Z Z (c8 Z Z Z Z Z (c8 Z Z Z Z Z (bF Z (bq Z (av (aT O Z Z Z Z Z) Z (av (aT O Z Z Z Z Z) Z (jn (ah Z (fun z52=>?_) (fun z52=>?_))))))))))))))))))))))))))))
 exact absurd z52 (by decide)
 refine aj (ae (aH Z (an O Z Z Z Z (zW (ys:=ys) (ts:=p.pre) h1 h2 hy hpt) (ac Z) Z Z Z Z (B0:=57000) Z Z (jl Z (aq ?_)))))
 refine jo Z (aq ?_)
 refine jn (af (ae (aH Z (bF Z (bF Z (bF Z (bF Z (bF Z (bF Z (av (bl O Z Z Z Z Z) Z (jn (ah Z (fun z66=>?_) (fun z66=>?_)))))))))))))
 refine ae (js Z (jr ?_))
 refine aJ Z ?_
 exact .v (.c .d)
 exact absurd z66 (by decide)
variable{C:List Sq}
theorem E8(h0:(bif decide ((1048576:Int)<xs.length)then true else decide ((1048576:Int)<ys.length))=false)(hB:MQ h1 h2 14 [.c (.d (bys xs))] [] (Plain (kK p)))(hy: ∀n∈ys,0≤n∧n≤255)(hpt: ∀t∈p.pre,t.term=true)(hC:MQ h1 h2 15 [kK p] [] (Rows (.tup [.c (.rs 0 0 C.length),eB true]) [aW C]))(hQ:MQ h1 h2 16 [kK p,eI 60] [] (Rows (.tup [.c (.d .nils),eB false]) []))(hS:MQ h1 h2 17 [kK p,eI 60] [] (Plain (.tup [.c (.d d2),eB false]))):MQ h1 h2 4 [.c (.d (bys xs)),.c (.d (bys ys))] [] (Plain (eB true)):=by
 refine MC.data (jB 100 h1 h2 Tryz.func4 Z fun O hF=>?_)
 refine ae (js Z (jn (af (ae (ab Z (bP Z (xm (xs:=xs) (ys:=ys) h1 h2) 20000 Z (jn (ah Z (fun z19=>?_) (fun z19=>?_)))))))))
 exact absurd z19 (by rw[h0];decide)
 refine aj (ae (js Z (an O Z Z Z Z (hB) (ac Z) Z Z Z Z (B0:=22000) Z Z (jl Z (aq ?_)))))
 refine jo Z (aq ?_)
 refine ba (js Z (ci O (B0:=25000) Z Z Z Z (hC) (ac Z) Z Z Z Z Z Z (aq ?_)))
 refine az Z (js Z (ba (js Z (ci O (B0:=30000) Z Z Z Z (hQ) (ac Z) Z Z Z Z Z Z (aq ?_)))))
 refine az Z (js Z (ba (js Z (an O Z Z Z Z (hS) (ac Z) Z Z Z Z (B0:=35000) Z Z (az Z (js Z (jn (af (ae (az Z (bq Z (js Z (bq Z (js Z (bF Z (bF Z (bF Z (c8 Z Z Z Z Z (c8 Z Z Z Z Z (c8 Z Z Z Z Z (c8 Z Z Z Z Z (bF Z (bq Z (av (aT O Z Z Z Z Z) Z (av (aT O Z Z Z Z Z) Z (jn (ah Z (fun z52=>?_) (fun z52=>?_))))))))))))))))))))))))))))
 exact absurd z52 (by decide)
 refine aj (ae (aH Z (an O Z Z Z Z (zW (ys:=ys) (ts:=p.pre) h1 h2 hy hpt) (ac Z) Z Z Z Z (B0:=57000) Z Z (jl Z (aq ?_)))))
 refine jo Z (aq ?_)
 refine jn (af (ae (aH Z (bF Z (bF Z (bF Z (bF Z (bF Z (bF Z (av (bl O Z Z Z Z Z) Z (jn (ah Z (fun z66=>?_) (fun z66=>?_)))))))))))))
 refine ae (js Z (jr ?_))
 refine aJ Z ?_
 exact .v (.c .d)
 exact absurd z66 (by decide)
theorem Ik{vs cs ev:List Int}{qs:List (List Nd)}{o:Int}(h0:(bif decide ((1048576:Int)<xs.length)then true else decide ((1048576:Int)<ys.length))=false)(hB:MQ h1 h2 14 [.c (.d (bys xs))] [] (Plain (kK p)))(hy: ∀n∈ys,0≤n∧n≤255)(hpt: ∀t∈p.pre,t.term=true)(hC:MQ h1 h2 15 [kK p] [] (Rows (.tup [.c (.rs 0 0 C.length),eB true]) [aW C])){m:Nat}(hm:m=qs.length)(hQ:MQ h1 h2 16 [kK p,eI 60] [] (Rows (.tup [.c (.rs 0 0 m),eB true]) [qg qs]))(hS:MQ h1 h2 17 [kK p,eI 60] [] (Plain (.tup [.c (.d d2),eB true])))(hRun:MQ h1 h2 10 [kK p,GR (nW ys p.pre),eI 600] [] (Rows (.tup [.agg [.rs 0 0 4,.rs 1 0 8],.c (.rs 2 0 ev.length),eI o,eB true]) [aO vs,aO cs,aO ev]))(hv4:vs.length=4)(z8:cs.length=8)(hare:sX C qs=true)(hnv:c9 vs 4=true)(hqt: ∀t∈p.post,t.term=true)(hsafe:cK p.pre (nW ys p.pre).vars=true→o≠2∧o≠3∧(o=0→cK p.post vs=true)):MQ h1 h2 4 [.c (.d (bys xs)),.c (.d (bys ys))] [] (Plain (eB true)):=by
 refine MC.data (jB 100 h1 h2 Tryz.func4 Z fun O hF=>?_)
 subst hm
 refine ae (js Z (jn (af (ae (ab Z (bP Z (xm (xs:=xs) (ys:=ys) h1 h2) 20000 Z (jn (ah Z (fun z19=>?_) (fun z19=>?_)))))))))
 exact absurd z19 (by rw[h0];decide)
 refine aj (ae (js Z (an O Z Z Z Z (hB) (ac Z) Z Z Z Z (B0:=22000) Z Z (jl Z (aq ?_)))))
 refine jo Z (aq ?_)
 refine ba (js Z (ci O (B0:=25000) Z Z Z Z (hC) (ac Z) Z Z Z Z Z Z (aq ?_)))
 refine az Z (js Z (ba (js Z (ci O (B0:=30000) Z Z Z Z (hQ) (ac Z) Z Z Z Z Z Z (aq ?_)))))
 refine az Z (js Z (ba (js Z (an O Z Z Z Z (hS) (ac Z) Z Z Z Z (B0:=35000) Z Z (az Z (js Z (jn (af (ae (ar (am [5,25000,30000] (e':=[(1,_),(5,_),(6,_),(7,_),(8,_),(9,_),(11,_)]) Z Z ⟨Z,Z,Z,Z,Z,Z,Z,ap⟩ Z) (ar (Ent.freeze 25000 (e':=[(1,_),(5,_),(6,_),(7,_),(8,_),(9,_),(11,_)]) Z (.cons Z (.keep Z) (.cons Z (.keep Z) (.cons Z (.c (.row Z (bQ _).symm)) (fe [7,8,9,11] Z)))) (aZ Z (.skip (bh Z .nil)))) ?_)))))))))))
 refine ar (Ent.freeze 30000 (e':=[(1,_),(5,_),(6,_),(7,_),(8,_),(9,_),(11,_)]) Z (.cons Z (.keep Z) (.cons Z (.keep Z) (.cons Z (.keep Z) (.cons Z (.keep Z) (.cons Z (.c (.row Z (bQ _).symm)) (fe [9,11] Z)))))) (aZ Z (.skip .nil))) ?_
 refine az Z (bq Z (js Z (bq Z (js Z (bq Z (js Z (bq Z (js Z (bq Z (js Z (bq Z (js Z (bq Z (js Z (bq Z (bP Z ((c47 (ss:=C) (ps:=qs) h1 h2).plain (u:=eB true) (by rw[hare])) 49000 Z (bq Z (js Z (bq Z (av (aT O Z Z Z Z Z) Z (bq Z (av (bl O Z Z Z Z Z) Z (av (aT O Z Z Z Z Z) Z (jn (ah Z (fun z52=>?_) (fun z52=>?_))))))))))))))))))))))))))
 exact absurd z52 (by decide)
 refine aj (ae (aH Z (an O Z Z Z Z (zW (ys:=ys) (ts:=p.pre) h1 h2 hy hpt) (ac Z) Z Z Z Z (B0:=57000) Z Z (jl Z (aq ?_)))))
 refine jo Z (aq ?_)
 refine jn (af (ae (aH Z (bq Z (js Z (bq Z (js Z (bq Z (js Z (bq Z (js Z (bq Z (bP Z (DN (ts:=p.pre) (vars:=(nW ys p.pre).vars) h1 h2 hpt (A2 (x8 hy))) 65000 Z (bq Z (js Z (av (aT O Z Z Z Z Z) Z (jn (ah Z (fun z66=>?_) (fun z66=>?_)))))))))))))))))))
 refine ae (js Z (jr ?_))
 refine aJ Z ?_
 exact .v (.c .d)
 refine aj (ae ?_)
 have hho:cK p.pre (nW ys p.pre).vars=true:=by have h9:(!cK p.pre (nW ys p.pre).vars)=false:=z66;simpa using h9
 obtain⟨hs1,hs2,hs3⟩:=hsafe hho
 refine ab Z (ci O (B0:=71000) Z Z Z Z (hRun) (ac Z) Z Z Z Z Z Z (aq ?_))
 refine az Z (js Z (jl Z (aq ?_)))
 refine jo Z (aq ?_)
 refine aH Z (jn (af (ae (aH Z (bq Z (js Z (bq Z (av ((V Z).cast (v':=eB false) (congrArg eB (decide_eq_false hs1))) Z (av (aT O Z Z Z Z Z) Z (js Z (bq Z (js Z (bq Z (av ((V Z).cast (v':=eB false) (congrArg eB (decide_eq_false hs2))) Z (av (aT O Z Z Z Z Z) Z (jn (ah Z (fun z84=>?_) (fun z84=>?_))))))))))))))))))
 exact absurd z84 (by decide)
 refine aj (ae (ar (am [5,13,71000,71001] (e':=[(5,_),(13,_),(15,_)]) Z Z ⟨Z,Z,Z,ap⟩ Z) (ar (Ent.freeze 71000 (e':=[(5,_),(13,_),(15,_)]) Z (fe [5,13,15] Z) (aZ Z (.cons Z (.box (.cons (.row Z (by rw[bQ,hv4])) (fk Z))) (.skip (bh Z .nil))))) ?_)))
 refine ar (Ent.freeze 71001 (e':=[(5,_),(13,_),(15,_)]) Z (fe [5,13,15] Z) (aZ Z (.cons Z (.box (dw Z (.cons (.row Z (by rw[bQ,z8])) .nil))) (.skip .nil)))) ?_
 refine aH Z ?_
 cases hb88:(!decide (o=0))with
 | true=>
  refine bF Z (bF Z (bF Z (bF Z (bF Z (c8 Z Z Z Z Z (c8 Z Z Z Z Z (c8 Z Z Z Z Z (c8 Z Z Z Z Z (c8 Z Z Z Z Z (bF Z (av (bl O Z Z Z Z Z) Z (js Z (jr ?_)))))))))))))
  refine aJ Z ?_
  exact .v (.c .d)
 | false=>
  have ho0:o=0:=by simpa using hb88
  refine bq Z (js Z (bq Z (js Z (bq Z ?_))))
  first|refine dh Z ?_|refine js Z ?_|refine dv Z Z ?_
  refine bq Z (av ((V Z).cast (v':=eB true) (congrArg eB (by simp[hv4]))) Z (bq Z (js Z (bq Z (js Z (bq Z (js Z (bq Z (js Z (bq Z (js Z (bq Z (bP Z ((DN (ts:=p.post) (vars:=vs) h1 h2 hqt hnv).plain (u:=eB true) (by rw[hs3 ho0])) 98000 Z (bq Z (av (bl O Z Z Z Z Z) Z (av (aT O Z Z Z Z Z) Z (js Z (jr ?_))))))))))))))))))
  refine aJ Z ?_
  exact .v (.c .d)
theorem Ft{L:Nat}(h1:4096≤L)(h2:L≤9223372036854775807){xs ys:List Int}:MC Tryz.prog L 5 [.c (.d (bys xs)),.c (.d (bys ys))] [] (Plain (eB (bif decide ((1048576:Int)<xs.length)then true else decide ((1048576:Int)<ys.length)))):=by
 refine aL ?_ Z
 have O:=Cn (nt:=13) h1 h2
 refine MC.body O Tryz.func5 (by kernel_rfl) Z Z (Nat.le_of_ble_eq_true Z) (fun hF=>?_)
 refine ae (js Z (ba (js Z ?_)))
 first|refine dh Z ?_|refine js Z ?_|refine dv Z Z ?_
 refine ab Z (aA 3 Z Z Z (fun hx=>ax hx Z (dD hx (cf O Z Z Z Z Z Z Z Z) Z (ax hx Z (AN.nil)))) Z Z ?_)
 first|refine av (aG O Z Z Z Z Z) Z ?_|refine av (Val.pickB O Z Z Z Z Z) Z ?_|refine av (ay O Z Z Z Z Z) Z ?_
 refine js Z (jr ?_)
 refine aJ Z ?_
 rfl
theorem Fa{L:Nat}(h1:4096≤L)(h2:L≤9223372036854775807){xs ys:List Int}(h0:(bif decide ((1048576:Int)<xs.length)then true else decide ((1048576:Int)<ys.length))=true):MC Tryz.prog L 4 [.c (.d (bys xs)),.c (.d (bys ys))] [] (Plain (eB true)):=by
 refine MC.data ?_
 have O:=Cn (nt:=100) h1 h2
 refine MC.body O Tryz.func4 (by kernel_rfl) Z Z (Nat.le_of_ble_eq_true Z) (fun hF=>?_)
 refine ae (js Z (jn (af (ae (ab Z (bP Z (Ft (xs:=xs) (ys:=ys) h1 h2) 20000 Z (jn (ah Z (fun z19=>?_) (fun z19=>?_)))))))))
 refine ae (js Z (jr ?_))
 refine aJ Z ?_
 exact .v (.c .d)
 exact absurd z19 (by rw[h0];decide)
theorem Bn{xs ys:List Int}(hx: ∀n∈xs,0≤n∧n≤255)(hy: ∀n∈ys,0≤n∧n≤255):MC Tryz.prog 1073741824 4 [.c (.d (bys xs)),.c (.d (bys ys))] [] (Plain (eB true)):=by
 cases h0:(bif decide ((1048576:Int)<xs.length)then true else decide ((1048576:Int)<ys.length))with
 | true=>exact E9 (by decide) (da _) h0
 | false =>
  have hp:=C9 hx
  have hB:=Ip (L:=1073741824) (by decide) (da _) hx
  generalize Cj xs=p at hp hB
  obtain⟨t,ht,htd⟩:=HT hp
  have hv:gL p=true:=by rw[←xI];exact hp
  have hpt:=lZ ht.pre
  have hqt:=lZ ht.post
  have hlen:=ht.len
  have hnl:=gS (b:=p.body) (k:=p.body.length)
  obtain⟨he,hpl⟩:=Ab (p:=p) (t:=t) (br p.body p.body.length+1)
  have hP:=I0 (L:=1073741824) (by decide) (da _) (by decide) ht
  have hA:=ID (L:=1073741824) (by decide) (da _) ht (by decide)
  have hgo:=(AM ht (br p.body p.body.length+1) (da _)).1
  have hrs:=fun(hb:(gp p t (br p.body p.body.length+1)).bad=false) (hvc:VC (gp p t (br p.body p.body.length+1)).conds) (r:RS)=>A5 ht hb hvc (r:=r)
  generalize gp p t (br p.body p.body.length+1)=x at he hpl hP hrs
  generalize iS p t (br p.body p.body.length+1)=y at he hA hgo
  have hb:kN 60=true:=by decide
  cases hx:x.bad with
  | true=>
   rw[hx]at hP
   rw[show y.bad=true from he.bad ▸ hx]at hA
   have hC:=Gf (by decide) (da _) (Ga (by decide) (da _) hv htd ht hP)
   exact AE (by decide) (da _) h0 hB hy hpt hC (AF (by decide) (da _) hC) (Fq (by decide) (da _) hp hb hA)
  | false=>
   have e:=he.eq hx
   subst e
   rw[hx]at hP hA
   have hgl:x.conds.length≤600000000:=by
    have:(br p.body p.body.length+1)*16252928≤31*16252928:=Nat.mul_le_mul_right _ (by omega)
    omega
   have hV:=F9 (by decide) (da _) hv htd ht hP
   cases hc:im x.conds with
   | false=>
    have hC:=Ge (by decide) (da _) hV (by omega) hc
    exact AE (by decide) (da _) h0 hB hy hpt hC (AF (by decide) (da _) hC) (Fp (by decide) (da _) hp hb hA hc)
   | true=>
    have hY:=Gd (by decide) (da _) hV (by omega) hc
    obtain⟨hq3,hq4⟩:=lI hc
    by_cases hn:(jq 60 x.conds).length<x.conds.length
    exact E8 (by decide) (da _) h0 hB hy hpt hY (Fk (by decide) (da _) hY (C4 (by decide) (da _) hc hb hn)) (Fn (by decide) (da _) hp hb hA hc hn)
    have hps:=sH hn
    have hvv: ∀s∈x.conds,(jG s 60).2=true:=fun s hs=>by rw[qe (List.all_eq_true.1 hq3 s hs) hb];exact hps s hs
    have hee:(x.conds.map fun s=>(cN s 60).1)=x.conds.map fun s=>(jG s 60).1:=
     List.map_congr_left fun s hs=>by rw[qe (List.all_eq_true.1 hq3 s hs) hb]
    have hare:=Db hb hc hps
    rw[hee]at hare
    have htb:vG p.body=true:=by
     have h:=hv
     unfold gL at h;simp only[bS]at h;exact h.1
    have hs:=x8 (ts:=p.pre) hy
    have hRun:=Ka (L:=1073741824) (by decide) (da _) (p:=p) (s:=nW ys p.pre) (f:=600) hv hs (by decide)
    have htr:kS p.body=t:=by unfold kS;rw[show D6 p.body=some (t,p.body.length)from ht.tree]
    have hto:=(qU htb).1
    rw[htr]at hRun hto
    have hr0:=Dv hs (show ft 0 2000 600=true by decide)
    have hok:=(lJ hto hr0).ok
    have hS:=hrs hx (Hp hc hps) (r0 (nW ys p.pre) 600) hr0.nv Z
    exact Ik (by decide) (da _) h0 hB hy hpt hY (bQ _).symm (Fj (by decide) (da _) hY (Gg (by decide) (da _) hc hb hvv)) (Fm (by decide) (da _) hp hb hA hc hn) hRun hok.nv hok.nc hare hok.vars hqt fun hh=>by
     have hS:=hS hh
     cases h:(bm t (r0 (nW ys p.pre) 600)).1 with
     | true=>
       obtain⟨a,b,c⟩:=hS.yes h
       rw[b]
       exact⟨by decide,by decide,fun _=>a⟩
     | false=>
       rcases hS.no h with e|e<;>rw[e]<;>exact⟨by decide,by decide,fun h=>absurd h (by decide)⟩
theorem qO{L M:Nat}: ∀{xs:List Int},Dss.fact L (List.map (fun n=>[D.int IntKind.u8 n]) xs)→Dss.fact M (List.map (fun n=>[D.int IntKind.u8 n]) xs)
 | [],_=>trivial
 | x::xs,h=>by
  have ih:=qO (L:=L) (M:=M) (xs:=xs)
  simp only[List.map_cons,Dss.fact,Ds.fact,D.fact]at h ⊢
  exact⟨h.1,ih h.2⟩
theorem law1314{L:Nat}(h1:4096≤L)(h2:L≤9223372036854775807){xs ys:List Int}(hx: ∀n∈xs,0≤n∧n≤255)(hy: ∀n∈ys,0≤n∧n≤255):MC Tryz.prog L 4 [.c (.d (bys xs)),.c (.d (bys ys))] [] (Plain (eB true)):=by
 cases h0:(bif decide ((1048576:Int)<xs.length)then true else decide ((1048576:Int)<ys.length))with
 | true=>exact Fa h1 h2 h0
 | false=>
  have hl:xs.length≤1048576∧ys.length≤1048576:=by
   cases ha:decide ((1048576:Int)<xs.length)with
   | true=>rw[ha]at h0;cases h0
   | false=>
    rw[ha]at h0
    have:=cu ha
    have:=cu h0
    omega
  refine MC.facts ⟨_,_,Tryz.func4,by kernel_rfl,Z⟩ fun hF=>?_
  refine Dc (L0:=1073741824) Z ?_ (Bn hx hy)
  simp[As.fact,A.fact,M.fact,D.fact,Ds.fact]at hF ⊢
  exact⟨⟨by omega,qO hF.1.2⟩,⟨by omega,qO hF.2.2⟩⟩
end Go.Al
