/- The machine: heights, steps and runs, walked; drawn code. -/
import Derived.Test.YtdjlfclghdofoaaGreatDoorC
import Derived.Test.YtdjlfclghdofoaaGreatDoorD
import Derived.Test.YtdjlfclghdofoaaGreatDoorH
set_option linter.unusedVariables false
set_option linter.unusedSimpArgs false
set_option maxRecDepth 10000
set_option maxHeartbeats 4000000
open Go.Proofs
namespace Go.Al
variable{L:Nat}(h1:4096≤L)(h2:L≤1073741824)
structure Src where
  code:List Int
  at_:Nat
  seed:Int
abbrev bys(xs:List Int):D:=.slc 1 (xs.map fun n=>[.int .u8 n])
abbrev aV(s:Src):B:=.box [.d (bys s.code),.d (.int .i64 (s.at_:Nat)),.d (.int .u64 s.seed)]
def Src.b(s:Src):Int:=if s.at_<s.code.length then IntKind.i64.wrap (s.code.getD s.at_ default)else 0
def Src.step(s:Src):Src:=⟨s.code,s.at_+1,IntKind.u64.wrap (IntKind.u64.wrap (IntKind.u64.wrap (s.seed*6364136223846793005)+IntKind.u64.wrap s.b)+1442695040888963407)⟩
def Src.val(s:Src):Int:=if s.at_+1≤s.code.length then s.b else nC s.step.seed
structure Src.Ok(s:Src):Prop where
  code: ∀n∈s.code,0≤n∧n≤255
theorem Src.Ok.step{s:Src}(h:s.Ok):s.step.Ok:=⟨h.code⟩
theorem oU{s:Src}(h:s.Ok):0≤s.b∧s.b≤255:=by
 unfold Src.b
 split
 rename_i hlt
 have:=h.code _ (by rw[aH hlt];exact List.getElem_mem hlt:s.code.getD s.at_ default∈s.code)
 rw[fR .i64 _ (by show(-9223372036854775808:Int)≤_;omega) (by show _≤(9223372036854775807:Int);omega)]
 exact this
 omega
theorem bT{s:Src}(h:s.Ok):0≤s.val∧s.val≤255:=by
 unfold Src.val
 split
 exact oU h
 exact pT _
theorem rq{s:Src}(ha:s.at_≤1000000000)(hi:s.at_<s.code.length):MQ h1 h2 102 [.c (.pt 0 0 0)] [(0,aV s)] (bV (eI s.val) [(0,aV s.step)]):=by
 refine MC.shift 500 Z (MC.keep [500] (bs:=[aV s.step]) Z Z (jH 62 [500] h1 h2 Tryz.func102 Z fun O hF=>?_))
 refine dK ?_
 have hb:s.b=IntKind.i64.wrap (s.code.getD s.at_ default):=if_pos hi
 have hv:s.val=s.b:=if_pos hi
 refine ac (js Z (bc (js Z (jn (aj (aj (hZ [_,_,_,_,_,_,_,_,_,_] [aZ,av [0],av [0,1],av [0,1,2],aZ,av [4],av [4,5],av [4,5,6],av (rg 4 4),av (rg 0 9)] [] [_] (dg Z (dg Z (ai (bF O Z Z Z Z Z Z Z Z) (kc Z trivial)))) ?_)))))))
 refine jw [13,3,2,0] Z (dK ?_)
 refine ab Z (fun z13=>?_) (fun z13=>?_)
 refine jw [2,0] Z (hZ [_,_,_,_,_,_,_,_,_,_,_,_] [aZ,av [0],av [0,1],av [0,1,2],aZ,av [4],av [4,5],av [4,5,6],av (rg 0 8),av (rg 0 9),av (rg 0 10),av (rg 0 11)] [] [_] (dg Z (dg Z (ai (bG O Z Z Z Z Z Z Z Z (gj hi)) (kc Z (ai (Val.conv O (k':=.i64) (dt:=.int .u8) (b:=true) Z Z Z (by kernel_rfl) (by kernel_rfl)) (kc Z trivial)))))) ?_)
 refine jw [3,2,0] Z (dK ?_)
 refine ac ?_
 rw[←hb]
 refine aE Z (ae ((vF Z).cast (v':=eI ((s.at_+1:Nat):Int)) (congrArg eI (by omega))) Z (aa Z (jo Z (ax ?_))))
 refine bc (aE Z (bi Z (ae (Val.conv O (k':=.u64) (dt:=.int .i64) (b:=true) Z Z Z (by kernel_rfl) (by kernel_rfl)) Z (aE Z (jo Z (ax ?_))))))
 refine jn (aj (aj (hZ [_,_,_,_,_,_,_,_,_,_] [aZ,av [0],av [0,1],av [0,1,2],aZ,av [4],av [4,5],av [4,5,6],av (rg 4 4),av (rg 0 9)] [] [_] (dg Z (dg Z (ai (bF O Z Z Z Z Z Z Z Z) (kc Z trivial)))) ?_)))
 refine jw [53,3,2,0] Z (dK ?_)
 refine ab Z (fun z53=>?_) (fun z53=>?_)
 refine ac (aa Z (jr ?_))
 refine⟨.inl Z,_,aW,_,Z,by rw[hv];rfl,Z⟩
 exact absurd (bo z53) (by omega)
 exact absurd (bo z13) (by omega)
theorem rt{s:Src}(ha:s.at_≤1000000000)(hi: ¬s.at_<s.code.length):MQ h1 h2 102 [.c (.pt 0 0 0)] [(0,aV s)] (bV (eI s.val) [(0,aV s.step)]):=by
 refine MC.shift 500 Z (MC.keep [500] (bs:=[aV s.step]) Z Z (jH 62 [500] h1 h2 Tryz.func102 Z fun O hF=>?_))
 refine dK ?_
 have hb:s.b=0:=if_neg hi
 have hv:s.val=nC s.step.seed:=if_neg (by omega)
 refine ac (js Z (bc (js Z (jn (aj (aj (hZ [_,_,_,_,_,_,_,_,_,_] [aZ,av [0],av [0,1],av [0,1,2],aZ,av [4],av [4,5],av [4,5,6],av (rg 4 4),av (rg 0 9)] [] [_] (dg Z (dg Z (ai (bF O Z Z Z Z Z Z Z Z) (kc Z trivial)))) ?_)))))))
 refine jw [13,3,2,0] Z (dK ?_)
 refine ab Z (fun z13=>?_) (fun z13=>?_)
 exact absurd (aB z13) (by omega)
 refine al (ac (aE Z (ae ((vF Z).cast (v':=eI ((s.at_+1:Nat):Int)) (congrArg eI (by omega))) Z (aa Z (jo Z (ax ?_))))))
 refine bc (aE Z (bi Z ?_))
 rw[←hb]
 refine ae (Val.conv O (k':=.u64) (dt:=.int .i64) (b:=true) Z Z Z (by kernel_rfl) (by kernel_rfl)) Z (aE Z (jo Z (ax ?_)))
 refine jn (aj (aj (hZ [_,_,_,_,_,_,_,_,_,_] [aZ,av [0],av [0,1],av [0,1,2],aZ,av [4],av [4,5],av [4,5,6],av (rg 4 4),av (rg 0 9)] [] [_] (dg Z (dg Z (ai (bF O Z Z Z Z Z Z Z Z) (kc Z trivial)))) ?_)))
 refine jw [53,3,2,0] Z (dK ?_)
 refine ab Z (fun z53=>?_) (fun z53=>?_)
 exact absurd (aB z53) (by omega)
 refine al (ac (aE Z (ae (Val.shr O Z Z Z Z Z (by decide)) Z (ae (oS O Z Z Z Z Z) Z (ae (Val.conv O (k':=.i64) (dt:=.int .u64) (b:=true) Z Z Z (by kernel_rfl) (by kernel_rfl)) Z (js Z (jr ?_)))))))
 refine⟨.inl Z,_,aW,_,Z,by rw[hv];rfl,Z⟩
theorem nT{L:Nat}(h1:4096≤L)(h2:L≤1073741824){s:Src}(ha:s.at_≤1000000000):MC Tryz.prog L 102 [.c (.pt 0 0 0)] [(0,aV s)] (bV (eI s.val) [(0,aV s.step)]):=by
 by_cases hi:s.at_<s.code.length
 exact rq h1 h2 ha hi
 exact rt h1 h2 ha hi
def Src.pick(n:Int)(s:Src):Int×Src:=if n≤1 then(0,s)else if 200<n then((s.val*256+s.step.val).tmod n,s.step.step)else(s.val.tmod n,s.step)
theorem pO{n:Int}{s:Src}(h:n≤1):s.pick n=(0,s):=if_pos h
theorem oD{n:Int}{s:Src}(h: ¬n≤1)(h2: ¬200<n):s.pick n=(s.val.tmod n,s.step):=by unfold Src.pick;rw[if_neg h,if_neg h2]
theorem oE{n:Int}{s:Src}(h: ¬n≤1)(h2:200<n):s.pick n=((s.val*256+s.step.val).tmod n,s.step.step):=by unfold Src.pick;rw[if_neg h,if_pos h2]
theorem Src.Ok.pick{s:Src}(h:s.Ok){n:Int}:(s.pick n).2.Ok:=by
 unfold Src.pick;split
 exact h
 split
 exact h.step.step
 exact h.step
theorem bk{s:Src}{n:Int}:(s.pick n).2.at_≤s.at_+2:=by
 unfold Src.pick;split
 exact Nat.le_add_right _ _
 split
 exact cJ _
 show s.at_+1≤s.at_+2;omega
theorem dA{a n:Int}(ha:0≤a)(hn:0<n):0≤a.tmod n∧a.tmod n<n:=by
 rw[Int.tmod_eq_emod_of_nonneg ha]
 exact⟨Int.emod_nonneg _ (by omega),Int.emod_lt_of_pos _ hn⟩
theorem bf{s:Src}(h:s.Ok){n:Int}(hn:1≤n):0≤(s.pick n).1∧(s.pick n).1<n:=by
 have h1:=bT h
 have h2:=bT h.step
 unfold Src.pick;split
 exact⟨by show(0:Int)≤0;omega,by show(0:Int)<n;omega⟩
 split
 exact dA (by omega) (by omega)
 exact dA h1.1 (by omega)
variable{n:Int}
theorem rx{s:Src}(hs:s.Ok)(ha:s.at_≤999999990)(hn0: -1000000000≤n)(hn1:n≤1000000000)(h:n≤1):MQ h1 h2 65 [.c (.pt 0 0 0),eI n] [(0,aV s)] (bV (eI (s.pick n).1) [(0,aV (s.pick n).2)]):=by
 refine MC.shift 500 Z (MC.keep [500] (bs:=[aV (s.pick n).2]) Z Z (jH 20 [500] h1 h2 Tryz.func65 Z fun O hF=>?_))
 rw[pO h]
 have hv:=bT hs
 have hv2:=bT hs.step
 refine dK ?_
 refine ac (js Z (jn (aj (ac (aa Z (jn (ab Z (fun z7=>?_) (fun z7=>?_))))))))
 refine ac (js Z (jr ?_))
 refine⟨.inl Z,_,aW,_,Z,Z,Z⟩
 exact absurd (bo z7) (by omega)
theorem rv{s:Src}(hs:s.Ok)(ha:s.at_≤999999990)(hn0: -1000000000≤n)(hn1:n≤1000000000)(h: ¬n≤1)(h3: ¬200<n):MQ h1 h2 65 [.c (.pt 0 0 0),eI n] [(0,aV s)] (bV (eI (s.pick n).1) [(0,aV (s.pick n).2)]):=by
 refine MC.shift 500 Z (MC.keep [500] (bs:=[aV (s.pick n).2]) Z Z (jH 20 [500] h1 h2 Tryz.func65 Z fun O hF=>?_))
 rw[oD h h3]
 have hv:=bT hs
 have hv2:=bT hs.step
 refine dK ?_
 refine ac (js Z (jn (aj (ac (aa Z (jn (ab Z (fun z7=>?_) (fun z7=>?_))))))))
 exact absurd (aB z7) (by omega)
 refine al (ac (js Z (ap O [500] (bin:=[aV s]) Z Z Z Z (nT (s:=s) h1 h2 (by omega)) Z Z Z Z Z Z (B0:=10000) Z Z (ax ?_))))
 refine js Z (jn (aj (ac (aa Z (jn (ab Z (fun z11=>?_) (fun z11=>?_)))))))
 exact absurd (aB z11) (by omega)
 refine al (ac (aa Z (ae (gt O Z Z Z Z (by omega) (by have:=dA (n:=n) hv.1 (by omega);omega) (by have:=dA (n:=n) hv.1 (by omega);omega)) Z (js Z (jr ?_)))))
 refine⟨.inl Z,_,aW,_,Z,Z,Z⟩
theorem ru{s:Src}(hs:s.Ok)(ha:s.at_≤999999990)(hn0: -1000000000≤n)(hn1:n≤1000000000)(h: ¬n≤1)(h3:200<n):MQ h1 h2 65 [.c (.pt 0 0 0),eI n] [(0,aV s)] (bV (eI (s.pick n).1) [(0,aV (s.pick n).2)]):=by
 refine MC.shift 500 Z (MC.keep [500] (bs:=[aV (s.pick n).2]) Z Z (jH 20 [500] h1 h2 Tryz.func65 Z fun O hF=>?_))
 rw[oE h h3]
 have hv:=bT hs
 have hv2:=bT hs.step
 refine dK ?_
 refine ac (js Z (jn (aj (ac (aa Z (jn (ab Z (fun z7=>?_) (fun z7=>?_))))))))
 exact absurd (aB z7) (by omega)
 refine al (ac (js Z (ap O [500] (bin:=[aV s]) Z Z Z Z (nT (s:=s) h1 h2 (by omega)) Z Z Z Z Z Z (B0:=10000) Z Z (ax ?_))))
 refine js Z (jn (aj (ac (aa Z (jn (ab Z (fun z11=>?_) (fun z11=>?_)))))))
 refine ag (js Z (ae (ah O Z Z (by omega) (by omega)) Z (js Z (ap O [500] (bin:=[aV s.step]) Z Z Z Z (nT (s:=s.step) h1 h2 (by show s.at_+1≤_;omega)) Z Z Z Z Z Z (B0:=16000) Z Z (ax ?_)))))
 refine ae (ah O Z Z (by omega) (by omega)) Z (js Z (bc (aa Z (ae (gt O Z Z Z Z (by omega) (by have:=dA (n:=n) (a:=s.val*256+s.step.val) (by omega) (by omega);omega) (by have:=dA (n:=n) (a:=s.val*256+s.step.val) (by omega) (by omega);omega)) Z (js Z (jr ?_))))))
 refine⟨.inl Z,_,aW,_,Z,Z,Z⟩
 exact absurd (bo z11) (by omega)
theorem cu{L:Nat}(h1:4096≤L)(h2:L≤1073741824){s:Src}{n:Int}(hs:s.Ok)(ha:s.at_≤999999990)(hn0: -1000000000≤n)(hn1:n≤1000000000):MC Tryz.prog L 65 [.c (.pt 0 0 0),eI n] [(0,aV s)] (bV (eI (s.pick n).1) [(0,aV (s.pick n).2)]):=by
 by_cases h:n≤1
 exact rx h1 h2 hs ha hn0 hn1 h
 by_cases h3:200<n
 exact ru h1 h2 hs ha hn0 hn1 h h3
 exact rv h1 h2 hs ha hn0 hn1 h h3
theorem kE{s:Src}(hs:s.Ok)(ha:s.at_≤999999990)(hn0: -1000000000≤n)(hn1:n≤1000000000)  : MQ h1 h2 63 [.c (.pt 0 0 0),eI n] [(0,aV s)] (bV (eB (decide ((s.pick n).1=0))) [(0,aV (s.pick n).2)]):=by
 refine MC.shift 500 Z (MC.keep [500] (bs:=[aV (s.pick n).2]) Z Z (jH 9 [500] h1 h2 Tryz.func63 Z fun O hF=>?_))
 refine dK ?_
 refine ac (js Z (bc (aa Z (ap O [500] (bin:=[aV s]) Z Z Z Z (cu (s:=s) (n:=n) h1 h2 hs ha hn0 hn1) Z Z Z Z Z Z (B0:=8000) Z Z (ax ?_)))))
 refine aa Z (jr ?_)
 refine⟨.inl Z,_,aW,_,Z,Z,Z⟩
variable{xs:List Int}
theorem mq{s:Src}(hs:s.Ok)(ha:s.at_≤999999990)(hx0:1≤xs.length)(hx1:xs.length≤1000):MQ h1 h2 67 [.c (.pt 0 0 0),bt xs] [(0,aV s)] (bV (eI (xs.getD (s.pick xs.length).1.toNat default)) [(0,aV (s.pick xs.length).2)]):=by
 refine MC.shift 500 Z (MC.keep [500] (bs:=[aV (s.pick xs.length).2]) Z Z (jH 12 [500] h1 h2 Tryz.func67 Z fun O hF=>?_))
 have hp:=bf hs (n:=xs.length) (by omega)
 refine dK ?_
 refine ac (js Z (bc (bi Z ?_)))
 first|refine cW Z ?_|refine js Z ?_|refine bP Z Z ?_
 refine ap O [500] (bin:=[aV s]) Z Z Z Z (cu (s:=s) (n:=xs.length) h1 h2 hs ha (by omega) (by omega)) Z Z Z Z Z Z (B0:=10000) Z Z (ax ?_)
 refine ae (ck O Z Z Z Z Z Z Z Z hp.1 (dY hp.1 hp.2)) Z (aa Z (jr ?_))
 refine⟨.inl Z,_,aW,_,Z,Z,Z⟩
theorem qD:MQ h1 h2 29 [.c (.d (bys xs))] [] (bV (.c (.pt 0 0 0)) [(0,aV ⟨xs,0,0⟩)]):=by
 refine MC.shift 500 Z (MC.keep [500] (bs:=[aV ⟨xs,0,0⟩]) Z Z (jB 6 h1 h2 Tryz.func29 Z fun O hF=>?_))
 refine ac (js Z (bc (aa Z (jx Z (ax ?_)))))
 refine js Z (jr ?_)
 refine⟨.inl Z,_,ao 5 500 Z Z,_,Z,Z,Z⟩
inductive Gr(e:Nat→List Int)(n:Nat)(st:List Int):Nat→Prop
  | start {z:Int}:z∈st→0≤z→z<n→Gr e n st z.toNat
  | step {k:Nat} {z:Int}:Gr e n st k→z∈e k→0≤z→z<n→Gr e n st z.toNat
theorem Gr.lt{e:Nat→List Int}{n:Nat}{st:List Int}{k:Nat}(h:Gr e n st k):k<n:=by cases h<;>omega
structure GR(e:Nat→List Int)(n:Nat)(st:List Int)(u:List Bool)(ws:List Int):Prop where
  len:u.length=n
  nn: ∀z∈ws,0≤z∧z<n
  sd: ∀k,k<n→u.getD k default=true→Gr e n st k
  sw: ∀z∈ws,Gr e n st z.toNat
  cl: ∀k,k<n→u.getD k default=true→∀z∈e k,0≤z→z<n→u.getD z.toNat default=true∨z∈ws
  cs: ∀z∈st,0≤z→z<n→u.getD z.toNat default=true∨z∈ws
structure GP(e:Nat→List Int)(n i:Nat)(u:List Bool)(pd:List Int):Prop where
  len:u.length=n
  nn: ∀z∈pd,0≤z∧z<n
  sd: ∀k,k<n→u.getD k default=true→Gr e n (e i) k
  pr: ∀z∈pd,z.toNat=i∨Gr e n (e i) z.toNat
  cl: ∀k,k<n→(k=i∨u.getD k default=true)→(k:Int)∈pd∨∀z∈e k,0≤z→z<n→u.getD z.toNat default=true
structure GPi(e:Nat→List Int)(n i:Nat)(u:List Bool)(pd:List Int)(k j:Nat):Prop where
  len:u.length=n
  nn: ∀z∈pd,0≤z∧z<n
  sd: ∀m,m<n→u.getD m default=true→Gr e n (e i) m
  pr: ∀z∈pd,z.toNat=i∨Gr e n (e i) z.toNat
  cl: ∀m,m<n→(m=i∨u.getD m default=true)→m=k∨(m:Int)∈pd∨∀z∈e m,0≤z→z<n→u.getD z.toNat default=true
  kn:k<n
  kk:k=i∨Gr e n (e i) k
  dn: ∀z∈(e k).take j,0≤z→z<n→u.getD z.toNat default=true
def mv(x:In):Int×Int:=if x.op=0∨x.op=1 then(0,1)else if x.op=2∨x.op=6∨x.op=10 then(1,0)else if x.op=3 then(2,1)else if x.op=4∨x.op=7 then(1,1)else if x.op=8 then(2,0)else(0,0)
theorem dQ{x:In}:(0≤(mv x).1∧(mv x).1≤2)∧0≤(mv x).2∧(mv x).2≤1:=by
 unfold mv
 split
 decide
 split
 decide
 split
 decide
 split
 decide
 split<;>decide
abbrev pg(c:List In):Nat→List Int:=fun k=>tg (c.getD k default) k
abbrev er(c:List In)(h:List Int)(k:Nat):Int:=h.getD k default-(mv (c.getD k default)).1+(mv (c.getD k default)).2
abbrev R0(c:List In):Nat→Prop:=Gr (pg c) c.length [0]
structure HOk(c:List In)(Q:Nat→Int→Prop)(h:List Int):Prop where
  len:h.length=c.length
  zero:h.getD 0 default=0
  neg: ∀k,k<c.length→¬R0 c k→h.getD k default= -1
  nn: ∀k,R0 c k→0≤h.getD k default
  q: ∀k,R0 c k→Q k (h.getD k default)
  low: ∀k,R0 c k→(mv (c.getD k default)).1≤h.getD k default∧er c h k≤6
  nx: ∀k,R0 c k→∀z∈pg c k,0≤z∧z<c.length∧h.getD z.toNat default=er c h k
theorem HOk.val{c:List In}{Q Q':Nat→Int→Prop}{h h':List Int}(a:HOk c Q h)(b:HOk c Q' h'){k:Nat}(hk:R0 c k):h.getD k default=h'.getD k default:=by
 induction hk with
 | start hz _ _=>
  simp only[List.mem_singleton]at hz;subst hz
  exact a.zero.trans b.zero.symm
 | step hk hz _ _ ih=>
  rw[(a.nx _ hk _ hz).2.2,(b.nx _ hk _ hz).2.2]
  show h.getD _ default-_+_=h'.getD _ default-_+_
  rw[ih]
theorem HOk.eq{c:List In}{Q Q':Nat→Int→Prop}{h h':List Int}(a:HOk c Q h)(b:HOk c Q' h'):h=h':=by
 refine List.ext_getElem (by rw[a.len,b.len]) fun k h1 h2=>?_
 rw[←aH h1,←aH h2]
 by_cases hk:R0 c k
 exact a.val b hk
 rw[a.neg k (by rw[←a.len];exact h1) hk,b.neg k (by rw[←a.len];exact h1) hk]
abbrev Dn(c:List In)(Q:Nat→Int→Prop)(u:List Int)(k:Nat):Prop:=
  Q k (u.getD k default)∧((mv (c.getD k default)).1≤u.getD k default∧er c u k≤6)∧∀z∈pg c k,0≤z∧z<c.length∧u.getD z.toNat default=er c u k
structure HSr(c:List In)(Q:Nat→Int→Prop)(u:List Int)(pd:List Int):Prop where
  len:u.length=c.length
  zero:u.getD 0 default=0
  lo: ∀k,k<c.length→ -1≤u.getD k default∧u.getD k default≤6
  nn: ∀z∈pd,0≤z∧z<c.length∧0≤u.getD z.toNat default
  sd: ∀k,k<c.length→0≤u.getD k default→R0 c k
  con: ∀h,HOk c Q h→∀k,k<c.length→0≤u.getD k default→h.getD k default=u.getD k default
  dn: ∀k,k<c.length→0≤u.getD k default→(k:Int)∈pd∨Dn c Q u k
structure HSi(c:List In)(Q:Nat→Int→Prop)(u:List Int)(pd:List Int)(ts:List Int)(k j:Nat):Prop where
  len:u.length=c.length
  zero:u.getD 0 default=0
  lo: ∀k,k<c.length→ -1≤u.getD k default∧u.getD k default≤6
  nn: ∀z∈pd,0≤z∧z<c.length∧0≤u.getD z.toNat default
  sd: ∀k,k<c.length→0≤u.getD k default→R0 c k
  con: ∀h,HOk c Q h→∀k,k<c.length→0≤u.getD k default→h.getD k default=u.getD k default
  dn: ∀m,m<c.length→0≤u.getD m default→m=k∨(m:Int)∈pd∨Dn c Q u m
  kn:k<c.length
  k0:0≤u.getD k default
  kk:Q k (u.getD k default)∧((mv (c.getD k default)).1≤u.getD k default∧er c u k≤6)
  tk: ∀z∈(ts.take j),0≤z∧z<c.length∧u.getD z.toNat default=er c u k
theorem cy{u:List Int}{j k:Nat}{v:Int}(hj:j<u.length):(u.set j v).getD k default=if k=j then v else u.getD k default:=by
 rw[List.getD_eq_getElem?_getD,List.getD_eq_getElem?_getD,List.getElem?_set]
 by_cases h:j=k
 subst h;simp[hj]
 rw[if_neg h,if_neg (fun e=>h e.symm)]
def oZ(n:Nat):List Int:=(List.replicate n (-1)).set 0 0
theorem fT{n k:Nat}(hn:0<n)(hk:k<n):(oZ n).getD k default=if k=0 then 0 else -1:=by
 unfold oZ
 rw[cy (by simpa using hn)]
 split
 rfl
 rw[List.getD_eq_getElem?_getD,List.getElem?_replicate,if_pos hk];rfl
theorem oW{c:List In}{Q:Nat→Int→Prop}(hn:0<c.length):HSr c Q (oZ c.length) [0]:=by
 have key: ∀k,k<c.length→0≤(oZ c.length).getD k default→k=0:=fun k hk h=>by
  rw[fT hn hk]at h
  split at h
  · assumption
  · exact absurd h (by decide)
 refine⟨by simp[oZ],by rw[fT hn hn];rfl,fun k hk=>?_,fun z hz=>?_,fun k hk h=>?_,fun h hh k hk h0=>?_,fun k hk h=>?_⟩
 rw[fT hn hk];split<;>decide
 simp only[List.mem_singleton]at hz;subst hz
 refine⟨by decide,by omega,?_⟩
 show 0≤(oZ c.length).getD 0 default
 rw[fT hn hn];decide
 have:=key k hk h;subst this
 exact .start (z:=0) (by simp) (by decide) (by omega)
 have:=key k hk h0;subst this
 rw[hh.zero,fT hn hn];rfl
 have:=key k hk h;subst this
 exact .inl (by simp)
theorem HSr.take{c:List In}{Q:Nat→Int→Prop}{u pd pd' ts:List Int}{k:Nat}(h:HSr c Q u pd)(hm: ∀y,y∈pd↔y=(k:Int)∨y∈pd')(hq:Q k (u.getD k default))(h1:(mv (c.getD k default)).1≤u.getD k default)(h2:er c u k≤6):HSi c Q u pd' ts k 0:=by
 have hk:=h.nn k ((hm k).2 (.inl Z))
 rw[Int.toNat_natCast]at hk
 refine⟨h.len,h.zero,h.lo,fun z hz=>h.nn z ((hm z).2 (.inr hz)),h.sd,h.con,fun m hmn hmu=>?_,by omega,hk.2.2,⟨hq,h1,h2⟩,fun z hz=>by simp at hz⟩
 rcases h.dn m hmn hmu with g|g
 rcases(hm m).1 g with g|g
 exact .inl (by omega)
 exact .inr (.inl g)
 exact .inr (.inr g)
theorem HSr.mem{c:List In}{Q:Nat→Int→Prop}{u pd:List Int}{k:Nat}(h:HSr c Q u pd)(hk:(k:Int)∈pd):k<c.length∧0≤u.getD k default∧R0 c k∧∀x,HOk c Q x→x.getD k default=u.getD k default:=by
 have g:=h.nn k hk
 rw[Int.toNat_natCast]at g
 have hkn:k<c.length:=by omega
 exact⟨hkn,g.2.2,h.sd k hkn g.2.2,fun x hx=>h.con x hx k hkn g.2.2⟩
theorem HSr.nol{c:List In}{Q:Nat→Int→Prop}{u pd:List Int}{k:Nat}(h:HSr c Q u pd)(hk:(k:Int)∈pd)(hq: ¬((mv (c.getD k default)).1≤u.getD k default∧er c u k≤6)): ∀x,¬HOk c Q x:=fun x hx=>by
 obtain⟨_,_,hr,hc⟩:=h.mem hk
 have:=hx.low k hr
 simp only[er,hc x hx]at this;exact hq this
theorem HSi.nox{c:List In}{Q:Nat→Int→Prop}{u pd ts:List Int}{k j:Nat}{z:Int}(h:HSi c Q u pd ts k j)(hz:z∈pg c k)(hb: ¬(0≤z∧z<c.length)): ∀x,¬HOk c Q x:=fun x hx=>by
 have:=hx.nx k (h.sd k h.kn h.k0) z hz
 exact hb ⟨this.1,this.2.1⟩
theorem HSi.noe{c:List In}{Q:Nat→Int→Prop}{u pd ts:List Int}{k j:Nat}{z:Int}(h:HSi c Q u pd ts k j)(hz:z∈pg c k)(h0:0≤z)(hl:z<c.length)(hu:0≤u.getD z.toNat default)(hb:u.getD z.toNat default≠er c u k): ∀x,¬HOk c Q x:=fun x hx=>by
 have a:=(hx.nx k (h.sd k h.kn h.k0) z hz).2.2
 rw[h.con x hx z.toNat (by omega) hu]at a
 simp only[er,h.con x hx k h.kn h.k0]at a
 exact hb a
theorem HSi.old{c:List In}{Q:Nat→Int→Prop}{u pd ts:List Int}{k j:Nat}{z:Int}(h:HSi c Q u pd ts k j)(hj:j<ts.length)(hz:ts.getD j default=z)(h0:0≤z)(hl:z<c.length)(hb:u.getD z.toNat default=er c u k):HSi c Q u pd ts k (j+1):=by
 refine⟨h.len,h.zero,h.lo,h.nn,h.sd,h.con,h.dn,h.kn,h.k0,h.kk,fun y hy=>?_⟩
 rw[List.take_succ_eq_append_getElem hj,List.mem_append,List.mem_singleton,←aH hj,hz]at hy
 rcases hy with hy|rfl
 exact h.tk y hy
 exact⟨h0,hl,hb⟩
theorem HSi.new{c:List In}{Q:Nat→Int→Prop}{u pd pd' ts:List Int}{k j:Nat}{z:Int}(h:HSi c Q u pd ts k j)(hj:j<ts.length)(hz:ts.getD j default=z)(ht:z∈pg c k)(h0:0≤z)(hl:z<c.length)(hu:u.getD z.toNat default<0)(hm: ∀y,y∈pd'↔y=z∨y∈pd):HSi c Q (u.set z.toNat (er c u k)) pd' ts k (j+1):=by
 have hzu:z.toNat<u.length:=by rw[h.len];omega
 have hb0:0≤er c u k∧er c u k≤6:=by
  have:=h.kk.2;have:=dQ (x:=c.getD k default)
  exact⟨by show 0≤_-_+_;omega,h.kk.2.2⟩
 have same: ∀m,0≤u.getD m default→(u.set z.toNat (er c u k)).getD m default=u.getD m default:=fun m g=>by
  rw[cy hzu,if_neg (fun e=>by subst e;omega)]
 have hbk:er c (u.set z.toNat (er c u k)) k=er c u k:=by
  show(u.set z.toNat (er c u k)).getD k default-_+_=_
  rw[same k h.k0]
 have dnk: ∀m,0≤u.getD m default→Dn c Q u m→Dn c Q (u.set z.toNat (er c u k)) m:=fun m g0 ⟨a,b,d⟩=>by
  have e:=same m g0
  have e2:er c (u.set z.toNat (er c u k)) m=er c u m:=by
    show(u.set z.toNat (er c u k)).getD m default-_+_=_
    rw[e]
  refine⟨by rw[e];exact a,by rw[e,e2];exact b,fun y hy=>?_⟩
  have g:=d y hy
  have:=dQ (x:=c.getD m default)
  have h9:=b.1
  refine⟨g.1,g.2.1,?_⟩
  rw[e2,same _ (by rw[g.2.2];show 0≤_-_+_;omega)]
  exact g.2.2
 refine⟨by rw[List.length_set];exact h.len,?_,fun m hm2=>?_,fun y hy=>?_,fun m hmn hmu=>?_,fun x hx m hmn hmu=>?_,fun m hmn hmu=>?_,h.kn,by rw[same k h.k0];exact h.k0,by rw[hbk,same k h.k0];exact h.kk,fun y hy=>?_⟩
 rw[same 0 (by rw[h.zero];decide)];exact h.zero
 rw[cy hzu]
 split
 omega
 exact h.lo m hm2
 rcases(hm y).1 hy with rfl|hy
 exact⟨h0,hl,by rw[cy hzu,if_pos Z];exact hb0.1⟩
 have:=h.nn y hy
 exact⟨this.1,this.2.1,by rw[same _ this.2.2];exact this.2.2⟩
 rw[cy hzu]at hmu
 split at hmu
 rename_i e;subst e
 exact .step (h.sd k h.kn h.k0) ht h0 hl
 exact h.sd m hmn hmu
 rw[cy hzu]at hmu ⊢
 split at hmu
 rename_i e;subst e
 rw[if_pos Z]
 have:=(hx.nx k (h.sd k h.kn h.k0) z ht).2.2
 rw[this]
 show x.getD k default-_+_=_
 rw[h.con x hx k h.kn h.k0]
 rename_i e
 rw[if_neg e]
 exact h.con x hx m hmn hmu
 by_cases e:m=z.toNat
 exact .inr (.inl ((hm _).2 (.inl (by omega))))
 rw[cy hzu,if_neg e]at hmu
 rcases h.dn m hmn hmu with g|g|g
 exact .inl g
 exact .inr (.inl ((hm _).2 (.inr g)))
 exact .inr (.inr (dnk m hmu g))
 rw[List.take_succ_eq_append_getElem hj,List.mem_append,List.mem_singleton,←aH hj,hz]at hy
 rw[hbk]
 rcases hy with hy|rfl
 have g:=h.tk y hy
 exact⟨g.1,g.2.1,by rw[same _ (by rw[g.2.2];exact hb0.1)];exact g.2.2⟩
 exact⟨h0,hl,by rw[cy hzu,if_pos Z]⟩
theorem HSi.end_{c:List In}{Q:Nat→Int→Prop}{u pd ts:List Int}{k j:Nat}(h:HSi c Q u pd ts k j)(hj:ts.length≤j)(ht: ∀z∈pg c k,z∈ts):HSr c Q u pd:=by
 refine⟨h.len,h.zero,h.lo,h.nn,h.sd,h.con,fun m hmn hmu=>?_⟩
 rcases h.dn m hmn hmu with rfl|g|g
 exact .inr ⟨h.kk.1,h.kk.2,fun z hz=>h.tk z (by rw[List.take_of_length_le hj];exact ht z hz)⟩
 exact .inl g
 exact .inr g
theorem HSr.done{c:List In}{Q:Nat→Int→Prop}{u:List Int}(h:HSr c Q u []):HOk c Q u:=by
 have nn: ∀k,R0 c k→0≤u.getD k default:=fun k hk=>by
  induction hk with
  | start hz _ _=>
    simp only[List.mem_singleton]at hz;subst hz
    show 0≤u.getD 0 default
    rw[h.zero];decide
  | step hk hz h0 hl ih=>
    rename_i k z
    obtain⟨_,b,d⟩:=(h.dn k hk.lt ih).resolve_left (by simp)
    rw[(d z hz).2.2]
    have:=dQ (x:=c.getD k default)
    show 0≤_-_+_;omega
 have dn: ∀k,R0 c k→Dn c Q u k:=fun k hk=>(h.dn k hk.lt (nn k hk)).resolve_left (by simp)
 refine⟨h.len,h.zero,fun k hk hn=>?_,nn,fun k hk=>(dn k hk).1,fun k hk=>(dn k hk).2.1,fun k hk=>(dn k hk).2.2⟩
 have:=h.lo k hk
 have: ¬0≤u.getD k default:=fun g=>hn (h.sd k hk g)
 omega
open Classical in
noncomputable def pi(c:List In)(Q:Nat→Int→Prop):Option (List Int):=if h: ∃u,HOk c Q u then some (Classical.choose h)else none
theorem oL{c:List In}{Q:Nat→Int→Prop}{u:List Int}(h:HOk c Q u):pi c Q=some u:=by
 unfold pi
 rw[dif_pos ⟨u,h⟩]
 exact congrArg some ((Classical.choose_spec (⟨u,h⟩: ∃u,HOk c Q u)).eq h)
theorem iB{c:List In}{Q:Nat→Int→Prop}(h: ∀u,¬HOk c Q u):pi c Q=none:=by
 unfold pi
 rw[dif_neg (fun⟨u,hu⟩=>h u hu)]
abbrev qT:Nat→Int→Prop:=fun _ _=>True
abbrev eu(u:List Int):Nat:=u.countP fun v=>decide (v<0)
theorem kR{u:List Int}{j:Nat}{v:Int}(hj:j<u.length)(h:u.getD j default<0)(hv:0≤v):eu (u.set j v)+1=eu u:=by
 rw[aH hj]at h
 have hp:0<u.countP (fun v=>decide (v<0)):=List.countP_pos_iff.2 ⟨_,List.getElem_mem hj,decide_eq_true h⟩
 show List.countP _ (u.set j v)+1=_
 rw[List.countP_set hj]
 simp only[h,decide_true,if_true]
 rw[if_neg (by simp;omega)]
 show List.countP _ u-1+0+1=List.countP _ u
 omega
theorem mV{n:Nat}(hn:0<n):eu (oZ n)+1=n:=by
 have h:=kR (u:=List.replicate n (-1:Int)) (j:=0) (v:=0) (by simpa using hn) (by cases n with|zero=>omega|succ n=>exact(by decide:(-1:Int)<0)) (by decide)
 have e:eu (List.replicate n (-1:Int))=n:=by simp[eu,List.countP_replicate]
 rw[e]at h;exact h
def uD:Option (List Int)→A
  | some h=>.tup [.c (.rs 0 0 h.length),eB true]
  | none=>.tup [.c (.d .nils),eB false]
def uC:Option (List Int)→List B
  | some h=>[am h]
  | none=>[]
def dR(n i:Nat):List Int:=List.replicate i (-1)++List.replicate (n-i) 0
theorem lQ{n:Nat}:dR n 0=List.replicate n 0:=by simp[dR]
theorem m8{n:Nat}:dR n n=List.replicate n (-1):=by simp[dR]
theorem jA{n i:Nat}(h:i≤n):(dR n i).length=n:=by simp[dR];omega
theorem mZ{n i:Nat}(h:i<n):(dR n i).set i (-1)=dR n (i+1):=by
 unfold dR
 obtain⟨m,rfl⟩: ∃m,n=i+1+m:=⟨n-(i+1),by omega⟩
 rw[show i+1+m-i=m+1 by omega,show i+1+m-(i+1)=m by omega,List.set_append_right _ _ (by simp),List.length_replicate,Nat.sub_self,List.replicate_succ,List.set_cons_zero,List.replicate_succ',dD];rfl
theorem HSi.be{c:List In}{Q:Nat→Int→Prop}{u pd ts:List Int}{k j:Nat}(h:HSi c Q u pd ts k j):0≤er c u k∧er c u k≤6:=by
 have:=h.kk.2;have:=dQ (x:=c.getD k default)
 exact⟨by show 0≤_-_+_;omega,h.kk.2.2⟩
theorem HSi.bes{c:List In}{Q:Nat→Int→Prop}{u pd ts:List Int}{k j:Nat}{z:Int}{v:Int}(h:HSi c Q u pd ts k j)(hz:u.getD z.toNat default<0)(h0:0≤z)(hl:z<c.length):er c (u.set z.toNat v) k=er c u k:=by
 have hzu:z.toNat<u.length:=by rw[h.len];omega
 show(u.set z.toNat v).getD k default-_+_=_
 rw[cy hzu,if_neg (fun e=>by have:=h.k0;rw[e]at this;omega)]
abbrev aIn(x:In):A:=.agg (x.cells.map .d)
variable{x:In}
theorem kD:MQ h1 h2 41 [aIn x] [] (Plain (.tup [eI (mv x).1,eI (mv x).2])):=by
 refine MC.data (jB 20 h1 h2 Tryz.func41 Z fun O hF=>?_)
 refine ac (jx Z (ax ?_))
 refine az (Ent.freeze 1 (e':=[(1,_),(0,_)]) Z (.cons Z (.c (.box (cs:=In.cells x) Z (aQ Z))) (fe [0] Z)) (.skip .nil)) ?_
 refine ax ?_
 refine aa Z (jn (aj (ac (aa Z (jn (au (aj (ac (aa Z (jn (ab Z (fun z6=>?_) (fun z6=>?_))))))))))))
 try simp only[bJ]at z6
 refine al (ab Z (fun z6=>?_) (fun z6=>?_))
 try simp only[bJ]at z6
 refine ac (aa Z (jr ?_))
 refine aO Z ?_
 rw[show mv x=(0,1) by unfold mv;simp_all]
 exact .tup (.cons (.c .d) (.cons (.c .d) .nil))
 try simp only[bJ]at z6
 contradiction
 try simp only[bJ]at z6
 refine ag (aa Z (jn (ab Z (fun z6=>?_) (fun z6=>?_))))
 try simp only[bJ]at z6
 refine ac (aa Z (jr ?_))
 refine aO Z ?_
 rw[show mv x=(0,1) by unfold mv;simp_all]
 exact .tup (.cons (.c .d) (.cons (.c .d) .nil))
 try simp only[bJ]at z6
 refine aj (ac (aa Z (jn (ab Z (fun z9=>?_) (fun z9=>?_)))))
 try simp only[bJ]at z9
 refine al (ab Z (fun z9=>?_) (fun z9=>?_))
 try simp only[bJ]at z9
 refine ac (aa Z (jr ?_))
 refine aO Z ?_
 rw[show mv x=(1,0) by unfold mv;simp_all]
 exact .tup (.cons (.c .d) (.cons (.c .d) .nil))
 try simp only[bJ]at z9
 contradiction
 try simp only[bJ]at z9
 refine ac (aa Z (jn (ab Z (fun z9=>?_) (fun z9=>?_))))
 try simp only[bJ]at z9
 refine al (ab Z (fun z9=>?_) (fun z9=>?_))
 try simp only[bJ]at z9
 refine ac (aa Z (jr ?_))
 refine aO Z ?_
 rw[show mv x=(1,0) by unfold mv;simp_all]
 exact .tup (.cons (.c .d) (.cons (.c .d) .nil))
 try simp only[bJ]at z9
 contradiction
 try simp only[bJ]at z9
 refine ag (aa Z (jn (ab Z (fun z9=>?_) (fun z9=>?_))))
 try simp only[bJ]at z9
 refine ac (aa Z (jr ?_))
 refine aO Z ?_
 rw[show mv x=(1,0) by unfold mv;simp_all]
 exact .tup (.cons (.c .d) (.cons (.c .d) .nil))
 try simp only[bJ]at z9
 refine ac (aa Z (jn (ab Z (fun z13=>?_) (fun z13=>?_))))
 try simp only[bJ]at z13
 refine ac (aa Z (jr ?_))
 refine aO Z ?_
 rw[show mv x=(2,1) by unfold mv;simp_all]
 exact .tup (.cons (.c .d) (.cons (.c .d) .nil))
 try simp only[bJ]at z13
 refine aj (ac (aa Z (jn (ab Z (fun z15=>?_) (fun z15=>?_)))))
 try simp only[bJ]at z15
 refine al (ab Z (fun z15=>?_) (fun z15=>?_))
 try simp only[bJ]at z15
 refine ac (aa Z (jr ?_))
 refine aO Z ?_
 rw[show mv x=(1,1) by unfold mv;simp_all]
 exact .tup (.cons (.c .d) (.cons (.c .d) .nil))
 try simp only[bJ]at z15
 contradiction
 try simp only[bJ]at z15
 refine ag (aa Z (jn (ab Z (fun z15=>?_) (fun z15=>?_))))
 try simp only[bJ]at z15
 refine ac (aa Z (jr ?_))
 refine aO Z ?_
 rw[show mv x=(1,1) by unfold mv;simp_all]
 exact .tup (.cons (.c .d) (.cons (.c .d) .nil))
 try simp only[bJ]at z15
 refine ac (aa Z (jn (ab Z (fun z18=>?_) (fun z18=>?_))))
 try simp only[bJ]at z18
 refine ac (aa Z (jr ?_))
 refine aO Z ?_
 rw[show mv x=(2,0) by unfold mv;simp_all]
 exact .tup (.cons (.c .d) (.cons (.c .d) .nil))
 try simp only[bJ]at z18
 refine al (ac (aa Z (jr ?_)))
 refine aO Z ?_
 rw[show mv x=(0,0) by unfold mv;simp_all]
 exact .tup (.cons (.c .d) (.cons (.c .d) .nil))
theorem tE{c:List In}(hcb:bm c=true)(h80:c.length≤80)(h0n:0<c.length):MQ h1 h2 12 [aJ c] [] (Rows (uD (pi c qT)) (uC (pi c qT))):=by
 refine c8 (jB 106 h1 h2 Tryz.func12 Z fun O hF=>?_)
 refine ac (aa Z (jn (aj (ac (js Z (aS Z ((mR (c:=c) h1 h2).plain (u:=eB true) (by rw[hcb])) 16000 Z (js Z (jf [16,3,2,0] Z (jn (ab Z (fun z16=>?_) (fun z16=>?_)))))))))))
 cases z16
 refine al (ac (js Z ?_))
 first|refine cW Z ?_|refine js Z ?_|refine bP Z Z ?_
 refine jf [18,3,2,0] Z (bg (mO O Z Z Z Z Z Z Z Z Z (by first|omega|(simp at *;omega)) (by first|omega|(simp at *;omega)) (by first|omega|(simp at *;omega)) (by first|omega|(dsimp only;omega)|(simp only[bJ]at *;omega)) (by first|omega|(simp at *;omega)) Z Z Z) Z (ax ?_))
 refine js Z (jf [4,3,2,0] Z (jn (aj (ac (js Z ?_)))))
 first|refine cW Z ?_|refine js Z ?_|refine bP Z Z ?_
 refine js Z (jn (au (aK (X:=Nat) (fun i=>⟨[(0,aJ c),(4,.c (.rs 19 0 c.length)),(21,eI c.length),(22,eI i)],[(19,am (dR c.length i))]⟩) (fun i=>i≤c.length) (fun i=>c.length-i) 0 (Ent.to ⟨Z,Z,Z,Z,aD⟩ (by rw[lQ,am,List.map_replicate];rfl)) ?_ (fun i hi=>?_))))
 exact fK _
 refine ac (js Z (jn (aj (ab Z (fun z23=>?_) (fun z23=>?_)))))
 refine al (aj (au (ac (aa Z (jn (ag (aa Z ?_)))))))
 have hil:i<c.length:=by have:=aB z23;omega
 have hfl:=jA (n:=c.length) (i:=i) (by omega)
 refine ae (aC O Z Z (by omega)) Z (jf [27,24,23,0,4,21,22] Z (bg (bI (ex:=[.int .i64 ((dR c.length i).getD i default)]) (xs':=(dR c.length (i+1)).map (fun n=>[D.int .i64 n])) O Z Z Z Z Z Z Z Z Z Z Z Z Z Z (qF (by omega) (by omega)) (by rw[←mZ hil];exact t6 (by omega) Z)) Z (ax ?_)))
 refine ax ?_
 refine jn (ag ?_)
 first|refine ji Z ?_|refine bP Z Z ?_
 refine js Z (jn ?_)
 refine⟨i+1,Ent.to ⟨Z,Z,Z,Z,aD⟩ Z,by omega,by omega⟩
 refine bL (ac ?_)
 have hin:i=c.length:=by have:=bo z23;omega
 have hfl:=jA (n:=c.length) (i:=i) (by omega)
 refine js Z (ae (aC O Z Z (by omega)) Z (jf [30,23,0,4,21,22] Z (bg (bI (ex:=[.int .i64 ((dR c.length i).getD 0 default)]) (xs':=(oZ c.length).map (fun n=>[D.int .i64 n])) O Z Z Z Z Z Z Z Z Z Z Z Z Z Z (qF (by omega) (by omega)) (by rw[hin,m8];exact t6 (by omega) Z)) Z (ax ?_))))
 refine ax ?_
 refine jn (aj (ac (bg (HS.lit O Z Z Z) Z (ax ?_))))
 refine js Z (jn (au (aK (X:=List Int×List Int) (fun x=>⟨[(0,aJ c),(4,.c (.rs 19 0 c.length)),(6,.c (.rs 901 0 x.2.length))],[(19,am x.1),(901,am x.2)]⟩) (fun x=>HSr c qT x.1 x.2∧x.2.length+eu x.1≤c.length) (fun x=>2*eu x.1+x.2.length) (oZ c.length,[0]) (((aI [19,31] (e':=[(0,_),(4,_),(6,_)]) Z Z ⟨Z,Z,Z,aD⟩ Z).trans (ao 31 901 Z Z)).trans (Ent.to ⟨Z,Z,Z,aD⟩ Z)) ?_ (fun x hi=>?_))))
 exact⟨oW h0n,by have:=mV h0n;show 1+eu (oZ c.length)≤_;omega⟩
 refine aj (ac ?_)
 obtain⟨u,e_u⟩: ∃u,u=x.1:=⟨_,rfl⟩
 obtain⟨ws,e_ws⟩: ∃ws,ws=x.2:=⟨_,rfl⟩
 rw[←e_u,←e_ws]at hi ⊢
 obtain⟨hi1,hi2⟩:=hi
 have hul:=hi1.len
 refine js Z ?_
 first|refine cW Z ?_|refine js Z ?_|refine bP Z Z ?_
 refine js Z (jf [34,0,4,6] Z (jn (ab Z (fun z34=>?_) (fun z34=>?_))))
 refine al (au (ac ?_))
 obtain⟨w2,z,ez⟩: ∃w2 z,ws=w2++[z]:=by rcases List.eq_nil_or_concat ws with h9|⟨w2,z,h9⟩;rw[h9]at z34;cases z34;exact⟨w2,z,by rw[h9,List.concat_eq_append]⟩
 rw[ez]at hi1 hi2
 rw[cC,gU]at hi2
 have hzz:=hi1.nn z (by simp)
 obtain⟨k,rfl⟩: ∃k:Nat,z=(k:Int):=⟨z.toNat,by omega⟩
 rw[ez,show(w2++[(k:Int)]).length=w2.length+1 by simp]
 have hdm: ∀y,y∈w2++[(k:Int)]↔y=(k:Int)∨y∈w2:=fun y=>by rw[List.mem_append,List.mem_singleton];exact Or.comm
 have hkm:(k:Int)∈w2++[(k:Int)]:=(hdm k).2 (.inl Z)
 obtain⟨hkn,hk0,hkr,hkc⟩:=hi1.mem hkm
 have hlo:=hi1.lo k hkn
 have hmv:=dQ (x:=(c.getD k default))
 refine aa Z ?_
 first|refine cW Z ?_|refine js Z ?_|refine bP Z Z ?_
 refine ae ((ah O Z Z (by omega) (by omega)).cast (v':=eI (w2.length:Nat)) (congrArg eI (by omega))) Z (ae (aC O Z Z (by omega)) Z (ae (ar O (ex:=[.int .i64 (k:Int)]) Z Z Z Z (by simp) Z) Z (js Z (jf [7,34,0,4,6] Z (bc (aa Z ?_))))))
 first|refine cW Z ?_|refine js Z ?_|refine bP Z Z ?_
 refine ae ((ah O Z Z (by omega) (by omega)).cast (v':=eI (w2.length:Nat)) (congrArg eI (by omega))) Z (ae (aY O Z Z Z Z Z Z Z Z Z Z (Nat.le_succ _)) Z (az (Ent.cut 901 w2.length Z) (ax ?_)))
 rw[pH]
 refine js Z (jf [6,7,34,0,4] Z (bc (aa Z (ae (bG O Z Z Z Z Z Z Z Z (gj hkn)) Z (js Z (jf [50,6,7,34,0,4] Z (af O Z Z Z Z (kD (x:=(c.getD k default)) h1 h2) (ak Z) Z Z Z Z (B0:=52000) Z Z (aE Z (js Z (jf [9,8,6,7,34,0,4] Z (bc (aa Z (ae (aC O Z Z (by omega)) Z (ae (ar O (ex:=[.int .i64 (u.getD k default)]) Z Z Z Z (qF (by omega) (by omega)) Z) Z (js Z ?_)))))))))))))))
 first|refine ji Z ?_|refine bP Z Z ?_
 refine js Z (jf [10,9,6,7,34,0,4] Z (bc (aa Z ?_)))
 first|refine ji Z ?_|refine bP Z Z ?_
 refine js Z (jf [11,10,6,7,34,0,4] Z (jn (aj (aj (ig ⟨[(68,eB (bif decide (u.getD k default-(mv (c.getD k default)).1<0)then true else decide (6<er c u k))),(0,aJ c),(4,.c (.rs 19 0 c.length)),(6,.c (.rs 901 0 w2.length)),(7,eI (k:Nat)),(11,eI (er c u k))],[(19,am u),(901,am w2)]⟩ ?_ ?_)))))
 refine ag (bi Z ?_)
 cases hb66:decide (u.getD k default-(mv (c.getD k default)).1<0)with
 | true=>
  refine jf [65,11,10,6,7,34,0,4] Z (cT Z (cT Z (ae (bp O Z Z Z Z Z) Z (jf [68,11,10,6,7,34,0,4] Z (jn ?_)))))
  exact⟨Z,(aI [19,901] (e':=[(68,_),(0,_),(4,_),(6,_),(7,_),(11,_)]) Z Z ⟨Z,Z,Z,Z,Z,Z,aD⟩ Z).trans (Ent.to ⟨Z,Z,Z,Z,Z,Z,aD⟩ Z)⟩
 | false=>
  refine jf [65,11,10,6,7,34,0,4] Z (br Z (js Z (br Z (js Z (ae (aM O Z Z Z Z Z) Z (jf [68,11,10,6,7,34,0,4] Z (jn ?_)))))))
  exact⟨Z,(aI [19,901] (e':=[(68,_),(0,_),(4,_),(6,_),(7,_),(11,_)]) Z Z ⟨Z,Z,Z,Z,Z,Z,aD⟩ Z).trans (Ent.to ⟨Z,Z,Z,Z,Z,Z,aD⟩ Z)⟩
 refine ab Z (fun z68=>?_) (fun z68=>?_)
 refine ac (aa Z (jr ?_))
 have q3:=z68
 rw[iB (hi1.nol hkm (fun h=>by rw[decide_eq_false (show¬(u.getD k default-(mv (c.getD k default)).1<0) by omega),decide_eq_false (show¬6<er c u k by omega)]at q3;cases q3))]
 refine⟨.inl Z,_,aW,_,Z,[],by decide,Z,Z,Z⟩
 refine al (ac ?_)
 obtain⟨hq1,hq2⟩:=orF z68
 have hq1:=bo hq1
 have hq2:=bo hq2
 have htl:=nZ (x:=(c.getD k default)) (k:=k)
 refine aa Z (ff O (B0:=72000) Z Z Z Z (tO (c:=c) (k:=k) h1 h2 hkn (by omega)) (ak Z) Z Z Z Z Z Z (ax ?_))
 first|refine cW Z ?_|refine js Z ?_|refine bP Z Z ?_
 refine js Z (jf [73,72,71,68,0,4,6,7,11] Z (jn (au ?_)))
 obtain⟨M,hM⟩: ∃M,M=tg (c.getD k default) k:=⟨_,rfl⟩
 have hM2:M.length≤2:=by rw[hM];exact nZ
 obtain⟨B,hB⟩: ∃B,B=er c u k:=⟨_,rfl⟩
 rw[←hM,←hB]
 refine aK (X:=List Int×List Int×Nat) (fun y=>⟨[(0,aJ c),(4,.c (.rs 19 0 c.length)),(6,.c (.rs 903 0 y.2.1.length)),(11,eI B),(71,.c (.rs 72000 0 M.length)),(72,eI M.length),(73,eI (y.2.2:Nat))],[(19,am y.1),(903,am y.2.1),(72000,am M)]⟩) (fun y=>HSi c qT y.1 y.2.1 M k y.2.2∧y.2.1.length+1+eu y.1≤c.length∧2*eu y.1+y.2.1.length≤2*eu u+w2.length∧er c y.1 k=B) (fun y=>M.length-y.2.2) (u,w2,0) (((aI [19,901,72000] (e':=[(0,_),(4,_),(6,_),(11,_),(71,_),(72,_),(73,_)]) Z Z ⟨Z,Z,Z,Z,Z,Z,Z,aD⟩ Z).trans (ao 901 903 Z Z)).trans (Ent.to ⟨Z,Z,Z,Z,Z,Z,Z,aD⟩ Z)) ?_ (fun y hi=>?_)
 exact⟨hi1.take hdm trivial (by omega) (by omega),by show w2.length+1+eu u≤_;omega,cJ _,hB.symm⟩
 refine ac ?_
 obtain⟨u2,e_u2⟩: ∃u2,u2=y.1:=⟨_,rfl⟩
 obtain⟨v2,e_v2⟩: ∃v2,v2=y.2.1:=⟨_,rfl⟩
 obtain⟨j,e_j⟩: ∃j,j=y.2.2:=⟨_,rfl⟩
 rw[←e_u2,←e_v2,←e_j]at hi ⊢
 obtain⟨hj1,hj2,hj3,hj4⟩:=hi
 have hul2:=hj1.len
 have hBe:=hj1.be
 refine js Z (jn (aj (ab Z (fun z74=>?_) (fun z74=>?_))))
 refine al (aj (au (ac ?_)))
 have hjm:j<M.length:=by have:=aB z74;omega
 obtain⟨z,hz⟩: ∃z,z=M.getD j default:=⟨_,rfl⟩
 have hzt:z∈pg c k:=by rw[hz,aH hjm];show _∈tg _ _;rw[←hM];exact List.getElem_mem _
 refine ae (aC O Z Z (by omega)) Z (ae (ar O (ex:=[.int .i64 z]) Z Z Z Z (by rw[qF hjm (by omega),hz]) Z) Z (js Z (jf [13,74,0,4,6,11,71,72,73] Z (jn (au (ac (aa Z ?_)))))))
 first|refine cW Z ?_|refine js Z ?_|refine bP Z Z ?_
 refine jf [80,78,13,74,0,4,6,11,71,72,73] Z (aS Z (rE (k:=z) (n:=c.length) h1 h2 (by omega)) 82000 Z (aa Z (jf [77,13,74,0,4,6,11,71,72,73] Z (jn (ab Z (fun z77=>?_) (fun z77=>?_))))))
 refine ac (aa Z (jr ?_))
 rw[iB (hj1.nox hzt (fun h=>by rw[(mH (z:=z)).2 h]at z77;cases z77))]
 refine⟨.inl Z,_,aW,_,Z,[],by decide,Z,Z,Z⟩
 refine ac ?_
 obtain⟨hz0,hzn⟩:=(mH (z:=z)).1 (rS z77)
 refine aa Z (ae (aC O Z Z (by omega)) Z (ae (ar O (ex:=[.int .i64 (u2.getD z.toNat default)]) Z Z Z Z (qF (by omega) (by omega)) Z) Z (aa Z (jf [83,77,13,74,0,4,6,11,71,72,73] Z (jn (ab Z (fun z83=>?_) (fun z83=>?_)))))))
 refine ac ?_
 have hzl:=aB z83
 have hzm:M.getD j default=z:=hz.symm
 have hvn:v2.length≤1000:=by omega
 refine bi Z (ae (aC O Z Z (by omega)) Z (jf [92,91,83,77,13,74,0,4,6,11,71,72,73] Z (bg (bI (ex:=[.int .i64 ((u2).getD z.toNat default)]) (xs':=(u2.set z.toNat B).map (fun n=>[D.int .i64 n])) O Z Z Z Z Z Z Z Z Z Z Z Z Z Z (qF (by omega) (by omega)) (t6 (v:=B) (by omega) Z)) Z (ax ?_))))
 refine ax ?_
 refine jf [83,77,13,74,0,4,6,11,71,72,73] Z (jn (ag (aa Z (bg (HS.lit O Z Z Z) Z (ax ?_)))))
 refine jf [95,93,83,77,13,74,0,4,6,11,71,72,73] Z (bg (bd (zs:=(v2++[z]).map fun n=>[.int .i64 n]) (n:=(v2++[z]).length) O Z Z Z Z Z Z Z Z Z Z Z Z Z Z Z Z (.row Z (cV _).symm) Z Z (by decide) Z (by simp;omega) (by simp;omega) (by simp) (by simp)) Z (ax ?_))
 refine ax ?_
 refine js Z (jf [6,83,77,13,74,0,4,11,71,72,73] Z (jn (ag ?_)))
 first|refine ji Z ?_|refine bP Z Z ?_
 refine js Z (jn ?_)
 have hng:=kR (u:=u2) (j:=z.toNat) (v:=B) (by omega) hzl (by rw[←hj4];have:=hj1.kk.2;have:=dQ (x:=(c.getD k default));show 0≤_-_+_;omega)
 refine⟨(u2.set z.toNat B,v2++[z],j+1),((aI [19,96,72000] (e':=[(0,_),(4,_),(6,_),(11,_),(71,_),(72,_),(73,_)]) Z Z ⟨Z,Z,Z,Z,Z,Z,Z,aD⟩ Z).trans (ao 96 903 Z Z)).trans (Ent.to ⟨Z,Z,Z,Z,Z,Z,Z,aD⟩ Z),⟨?_,?_,?_,?_⟩,by show M.length-(j+1)<M.length-j;omega⟩
 rw[←hj4];exact hj1.new hjm hzm hzt hz0 hzn hzl (fun y=>by rw[List.mem_append,List.mem_singleton];exact Or.comm)
 show(v2++[z]).length+1+eu (u2.set z.toNat B)≤_;rw[cC,gU];omega
 show 2*eu (u2.set z.toNat B)+(v2++[z]).length≤_;rw[cC,gU];omega
 rw[←hj4];exact hj1.bes hzl hz0 hzn
 refine ac ?_
 have hzg:=bo z83
 refine aa Z (ae (aC O Z Z (by omega)) Z (ae (ar O (ex:=[.int .i64 (u2.getD z.toNat default)]) Z Z Z Z (qF (by omega) (by omega)) Z) Z (bi Z (jf [97,83,77,13,74,0,4,6,11,71,72,73] Z (jn (ab Z (fun z97=>?_) (fun z97=>?_)))))))
 refine ac (aa Z (jr ?_))
 rw[iB (hj1.noe hzt hz0 hzn (by omega) (fun h=>by rw[hj4]at h;rw[decide_eq_true h]at z97;cases z97))]
 refine⟨.inl Z,_,aW,_,Z,[],by decide,Z,Z,Z⟩
 refine al (ag ?_)
 first|refine ji Z ?_|refine bP Z Z ?_
 refine js Z (jn ?_)
 have hzB:(u2.getD z.toNat default)=B:=by have h9:=z97;cases hq:decide ((u2.getD z.toNat default)=B)with|true=>exact aB hq|false=>rw[hq]at h9;cases h9
 refine⟨(u2,v2,j+1),(aI [19,903,72000] (e':=[(0,_),(4,_),(6,_),(11,_),(71,_),(72,_),(73,_)]) Z Z ⟨Z,Z,Z,Z,Z,Z,Z,aD⟩ Z).trans (Ent.to ⟨Z,Z,Z,Z,Z,Z,Z,aD⟩ Z),⟨hj1.old hjm hz.symm hz0 hzn (hzB.trans hj4.symm),hj2,hj3,hj4⟩,by show M.length-(j+1)<M.length-j;omega⟩
 refine bL ?_
 have hjm:M.length≤j:=by have:=bo z74;omega
 refine⟨(u2,v2),((aI [19,903] (e':=[(0,_),(4,_),(6,_)]) Z Z ⟨Z,Z,Z,aD⟩ Z).trans (ao 903 901 Z Z)).trans (Ent.to ⟨Z,Z,Z,aD⟩ Z),⟨hj1.end_ hjm (fun y hy=>by rw[hM];exact hy),by show v2.length+eu u2≤_;omega⟩,by show 2*eu u2+v2.length<2*eu u+(w2.length+1);omega⟩
 refine bL (ac (bi Z (jr ?_)))
 have hw0:ws=[]:=by cases ws with|nil=>rfl|cons z w2=>have h9: ¬(0:Int)<((z::w2).length:Nat):=bo z34;rw[jN]at h9;omega
 rw[hw0]at hi1
 rw[oL hi1.done]
 refine⟨.inl Z,_,aW,_,by rw[←hul];rfl,[19],by decide,Z,Z,Z⟩
structure Cf where
  vars:List Int
  cells:List Int
  stack:List Int
  at_:Int
def bZ(n:Int):Bool:=bU (-10000000000000000) 10000000000000000 n
def jO(x:In):Nat:=(mv x).1.toNat
def gy(x:In)(n:Nat):Nat:=n-jO x
def pM(x:In)(c:Cf)(j:Nat):Int:=c.stack.getD (gy x c.stack.length+j) default
def b9(x:In)(n:Nat):Bool:=bif decide ((n:Int)-(mv x).1<0)then true else(bif decide ((mv x).2>0)then decide ((n:Int)-(mv x).1+(mv x).2>6)else false)
def qE(n b:Int):Int×Bool:=if bZ (n*b)=true then(n*b,true)else(0,false)
def bb(x:In)(c:Cf):Int:=
  if x.op=11 then 6 else if x.op=2 then(if ic (pM x c 0)=true then 0 else 4)
  else if x.op=3 then(if bZ (pM x c 0+pM x c 1)=true then 0 else 4)
  else if x.op=4 then(if bZ (pM x c 0*x.a)=true then 0 else 4)
  else if x.op=7 then(if bU 0 7 (pM x c 0)=true then 0 else 2)
  else if x.op=8 then(if bU 0 7 (pM x c 0)=true then(if ic (pM x c 1)=true then 0 else 4)else 2)
  else if x.op=10 then(if pM x c 0<0 then 3 else 0)
  else 0
def dM(x:In)(c:Cf):Int:=if x.op=5 then x.a else if x.op=6 then(if pM x c 0<0 then x.a else c.at_+1)else c.at_+1
def cZ(x:In):Int:=if x.op=9 then x.a else -1
def fg(x:In)(c:Cf):Int:=
  if x.op=0 then x.a else if x.op=1 then c.vars.getD x.a.toNat default else if x.op=3 then pM x c 0+pM x c 1
  else if x.op=4 then pM x c 0*x.a else if x.op=7 then c.cells.getD (pM x c 0).toNat default else 0
def ei(x:In)(c:Cf):List Int:=if x.op=2 then c.vars.set x.a.toNat (pM x c 0)else c.vars
def ej(x:In)(c:Cf):List Int:=if x.op=8 then c.cells.set (pM x c 0).toNat (pM x c 1)else c.cells
def g9(x:In)(c:Cf):List Int:=if 0<(mv x).2 then c.stack.take (gy x c.stack.length)++[fg x c]else c.stack.take (gy x c.stack.length)
def cr(x:In)(c:Cf):Cf:=⟨ei x c,ej x c,g9 x c,dM x c⟩
structure COk(c:Cf):Prop where
  vl:c.vars.length=4
  cl:c.cells.length=8
  vb: ∀n∈c.vars,ic n=true
  cb: ∀n∈c.cells,ic n=true
  sw: ∀n∈c.stack,bZ n=true
  sl:c.stack.length≤6
theorem kH{n:Int}:bZ n=true↔ -10000000000000000≤n∧n≤10000000000000000:=by
 unfold bZ bU;simp only[bj,decide_eq_true_eq]
theorem qc{n:Int}:ic n=true↔ -1000000000≤n∧n≤1000000000:=by
 unfold ic;simp only[bj,decide_eq_true_eq]
theorem COk.pw{c:Cf}(h:COk c){x:In}{j:Nat}(hj:gy x c.stack.length+j<c.stack.length):bZ (pM x c j)=true:=by
 unfold pM;rw[aH hj];exact h.sw _ (List.getElem_mem hj)
theorem nN{x:In}(h:aw x=true):x.op=0∨x.op=1∨x.op=2∨x.op=3∨x.op=4∨x.op=5∨x.op=6∨x.op=7∨x.op=8∨x.op=9∨x.op=10∨x.op=11:=by
 unfold aw at h
 split at h
 omega
 split at h
 omega
 split at h
 omega
 split at h
 omega
 split at h
 omega
 cases h
theorem nU{x:In}(h:aw x=true)(ho:x.op=1∨x.op=2):0≤x.a∧x.a≤3:=by
 unfold aw at h
 rw[if_neg (by omega),if_pos ho]at h
 unfold bU at h;simp only[bj,decide_eq_true_eq]at h;exact h
theorem nW{x:In}(h:aw x=true)(ho:x.op=5∨x.op=6):0≤x.a∧x.a≤79:=by
 unfold aw at h
 rw[if_neg (by omega),if_neg (by omega),if_pos ho]at h
 unfold bU at h;simp only[bj,decide_eq_true_eq]at h;exact h
theorem nV{x:In}(h:aw x=true)(ho:x.op=0∨x.op=4):gx x.a=true:=by
 unfold aw at h
 rwa[if_pos ho]at h
theorem COk.next{c:Cf}(h:COk c){x:In}(hx:aw x=true)(hlo:b9 x c.stack.length=false)(ho:bb x c=0):COk (cr x c):=by
 have hlo1:0≤(c.stack.length:Int)-(mv x).1∧(0<(mv x).2→(c.stack.length:Int)-(mv x).1+(mv x).2≤6):=by
  unfold b9 at hlo
  cases h1:decide ((c.stack.length:Int)-(mv x).1<0)with
  | true=>rw[h1]at hlo;cases hlo
  | false=>
   rw[h1]at hlo
   have h2:=bo h1
   refine⟨by omega,fun h3=>?_⟩
   rw[show decide ((mv x).2>0)=true from decide_eq_true h3]at hlo
   have h4:=bo (show decide ((c.stack.length:Int)-(mv x).1+(mv x).2>6)=false from hlo)
   omega
 have hmi:=dQ (x:=x)
 have hpn:(jO x:Int)=(mv x).1:=by unfold jO;omega
 have hlf:(gy x c.stack.length:Int)=(c.stack.length:Int)-(mv x).1:=by unfold gy;omega
 have hpw: ∀j,j<jO x→bZ (pM x c j)=true:=fun j hj=>h.pw (by unfold gy;omega)
 have hsl:(c.stack.take (gy x c.stack.length)).length=gy x c.stack.length:=by rw[List.length_take];unfold gy;omega
 have hbw: ∀{n:Int},ic n=true→bZ n=true:=fun hn=>by rw[qc]at hn;rw[kH];omega
 have hout:=ho
 refine⟨?_,?_,?_,?_,?_,?_⟩
 show(ei x c).length=4
 unfold ei;split
 rw[List.length_set];exact h.vl
 exact h.vl
 show(ej x c).length=8
 unfold ej;split
 rw[List.length_set];exact h.cl
 exact h.cl
 show∀n∈ei x c,_
 unfold ei;split
 rename_i h2
 intro n hn
 rcases List.mem_or_eq_of_mem_set hn with h3|h3
 exact h.vb n h3
 rw[h3]
 unfold bb at ho
 rw[if_neg (by omega),if_pos h2]at ho
 split at ho
 assumption
 cases ho
 exact h.vb
 show∀n∈ej x c,_
 unfold ej;split
 rename_i h2
 intro n hn
 rcases List.mem_or_eq_of_mem_set hn with h3|h3
 exact h.cb n h3
 rw[h3]
 unfold bb at ho
 rw[if_neg (by omega),if_neg (by omega),if_neg (by omega),if_neg (by omega),if_neg (by omega),if_pos h2]at ho
 split at ho
 split at ho
 assumption
 cases ho
 cases ho
 exact h.cb
 show∀n∈g9 x c,_
 unfold g9;split
 rename_i h2
 intro n hn
 rcases List.mem_append.1 hn with h3|h3
 exact h.sw n (List.mem_of_mem_take h3)
 rw[List.mem_singleton.1 h3]
 unfold fg
 split
 rename_i h4
 have:=nV hx (.inl h4)
 unfold gx at this
 simp only[bj,decide_eq_true_eq]at this
 rw[kH];omega
 split
 rename_i h4
 have h5:=nU hx (.inl h4)
 have h6:=h.vl
 exact hbw (by rw[aH (by omega)];exact h.vb _ (List.getElem_mem _))
 split
 rename_i h4
 unfold bb at ho
 rw[if_neg (by omega),if_neg (by omega),if_pos h4]at ho
 split at ho
 assumption
 cases ho
 split
 rename_i h4
 unfold bb at ho
 rw[if_neg (by omega),if_neg (by omega),if_neg (by omega),if_pos h4]at ho
 split at ho
 assumption
 cases ho
 split
 rename_i h4
 unfold bb at ho
 rw[if_neg (by omega),if_neg (by omega),if_neg (by omega),if_neg (by omega),if_pos h4]at ho
 split at ho
 rename_i h5
 unfold bU at h5;simp only[bj,decide_eq_true_eq]at h5
 have h6:=h.cl
 exact hbw (by rw[aH (by omega)];exact h.cb _ (List.getElem_mem _))
 cases ho
 exact kH.2 (by omega)
 intro n hn
 exact h.sw n (List.mem_of_mem_take hn)
 show(g9 x c).length≤6
 have h0:=h.sl
 unfold g9;split
 rename_i h2
 have:=hlo1.2 h2
 rw[cC,hsl,gU];omega
 rw[hsl];unfold gy;omega
structure Rn where
  c:Cf
  ev:List Int
  cnt:List Int
  out:Int
def jP(ev:List Int)(e:Int):List Int:=if 0≤e then ev++[e]else ev
def aN (code:List In):Nat→Rn→Rn
  | 0,r=>{r with out:=1}
  | n + 1,r=>if(0≤r.c.at_∧r.c.at_<code.length)∧b9 (code.getD r.c.at_.toNat default) r.c.stack.length=false then
      (if bb (code.getD r.c.at_.toNat default) r.c=6 then r else if bb (code.getD r.c.at_.toNat default) r.c≠0 then{r with out:=bb (code.getD r.c.at_.toNat default) r.c}
      else aN code n ⟨cr (code.getD r.c.at_.toNat default) r.c,jP r.ev (cZ (code.getD r.c.at_.toNat default)),r.cnt.set r.c.at_.toNat (r.cnt.getD r.c.at_.toNat default+1),r.out⟩)
    else{r with out:=5}
theorem mi{x:In}{n:Nat}(h:b9 x n=false):0≤(n:Int)-(mv x).1∧(0<(mv x).2→(n:Int)-(mv x).1+(mv x).2≤6):=by
 unfold b9 at h
 cases h1:decide ((n:Int)-(mv x).1<0)with
 | true=>rw[h1]at h;cases h
 | false=>
  rw[h1]at h
  have h2:=bo h1
  refine⟨by omega,fun h3=>?_⟩
  rw[show decide ((mv x).2>0)=true from decide_eq_true h3]at h
  have h4:=bo (show decide ((n:Int)-(mv x).1+(mv x).2>6)=false from h)
  omega
theorem sN{n b:Int}(hn:n≠0)(h:(b.natAbs:Int)>(10000000000000000:Int).tdiv n.natAbs):bZ (n*b)=false:=by
 have h0:0<n.natAbs:=by omega
 rw[show(10000000000000000:Int)=((10000000000000000:Nat):Int)from Z,←Int.ofNat_tdiv]at h
 have h1:10000000000000000/n.natAbs<b.natAbs:=by omega
 rw[Nat.div_lt_iff_lt_mul h0,Nat.mul_comm,←Int.natAbs_mul]at h1
 cases hw:bZ (n*b)with
 | false=>rfl
 | true=>have:=kH.1 hw;omega
theorem qk{n b:Int}(h:n≠0→¬(b.natAbs:Int)>(10000000000000000:Int).tdiv n.natAbs):bZ (n*b)=true:=by
 by_cases hn:n=0
 subst hn;rw[Int.zero_mul];decide
 have h0:0<n.natAbs:=by omega
 have h:=h hn
 rw[show(10000000000000000:Int)=((10000000000000000:Nat):Int)from Z,←Int.ofNat_tdiv]at h
 have h1: ¬10000000000000000/n.natAbs<b.natAbs:=by omega
 rw[Nat.div_lt_iff_lt_mul h0,Nat.mul_comm,←Int.natAbs_mul]at h1
 exact kH.2 (by omega)
theorem ux{m:Nat}:0≤(10000000000000000:Int).tdiv m∧(10000000000000000:Int).tdiv m≤10000000000000000:=by
 rw[show(10000000000000000:Int)=((10000000000000000:Nat):Int)from Z,←Int.ofNat_tdiv]
 exact⟨Int.natCast_nonneg _,Int.ofNat_le.2 (Nat.div_le_self 10000000000000000 m)⟩
theorem bn{xs:List Int}{k n:Nat}(h:n<xs.length)(hk:k=n):(xs.map (fun n=>[D.int .i64 n]))[k]? = some [.int .i64 (xs.getD n default)]:=by
 subst hk;rw[List.getElem?_map,List.getElem?_eq_getElem h,aH h];rfl
theorem mo:MQ h1 h2 119 [eI n] [] (Plain (eB (bZ n))):=by
 refine aF ?_ Z
 refine jB 5 h1 h2 Tryz.func119 Z fun O hF=>?_
 refine ac (js Z (bc (js Z (aS Z (fh h1 h2) 5000 Z (js Z (jr ?_))))))
 refine aO Z ?_
 first|rfl|skip
theorem qt{x:Int}(hx: -10000000000000000≤x∧x≤10000000000000000):MQ h1 h2 133 [eI x] [] (Plain (eI x.natAbs)):=by
 refine aF ?_ Z
 refine jB 7 h1 h2 Tryz.func133 Z fun O hF=>?_
 refine ac (js Z (bc (aa Z (ji Z (aa Z (jr ?_))))))
 refine aO Z ?_
 exact congrArg eI (show(if 0-x>x then 0-x else x)=(x.natAbs:Int) by split<;>omega)
theorem qz{b:Int}(hn:bZ n=true)(hb:gx b=true):MQ h1 h2 120 [eI n,eI b] [] (Plain (.tup [eI (qE n b).1,eB (qE n b).2])):=by
 refine jB 23 h1 h2 Tryz.func120 Z fun O hF=>?_
 have hn2:=kH.1 hn
 have hb2: -1000000≤b∧b≤1000000:=by unfold gx at hb;simpa using hb
 refine ac (aa Z (jn (aj (ac (js Z (ae ((V Z).cast (v':=eB (decide (n≠0))) (congrArg eB (by by_cases h:n=0<;>simp[h]))) Z (js Z ?_)))))))
 cases hb9:decide (n≠0)with
 | true=>
  have hn0:=aB hb9
  refine jf [8,5,4,0,1] Z (br Z (js Z (br Z (aS Z (qt (x:=b) h1 h2 (by omega)) 11000 Z (jf [10,8,5,4,0,1] Z (br Z (js Z (br Z (aS Z (qt (x:=n) h1 h2 hn2) 13000 Z (jf [12,10,8,5,4,0,1] Z (br Z ?_)))))))))))
  have hn3:(n.natAbs:Int)≠0:=by omega
  have hq:=ux (m:=n.natAbs)
  refine ae (nd O Z Z Z Z hn3 (by omega) (by omega)) Z (jf [13,10,8,5,4,0,1] Z (br Z (js Z (ae (bp O Z Z Z Z Z) Z (jf [15,5,4,0,1] Z (jn (ab Z (fun z15=>?_) (fun z15=>?_))))))))
  refine ac (aa Z (jr ?_))
  refine aO Z ?_
  refine⟨?_,Z⟩
  rw[show qE n b=(0,false)from if_neg (by rw[sN hn0 (aB z15)];decide)]
  refine al (ac ?_)
  have hw:bZ (n*b)=true:=qk (fun h=>by exact bo z15)
  refine aa Z (ae (ah O Z Z (by have:=kH.1 hw;omega) (by have:=kH.1 hw;omega)) Z (aa Z (ae (ah O Z Z (by have:=kH.1 hw;omega) (by have:=kH.1 hw;omega)) Z (jf [21,18,5,4,0,1] Z (aS Z ((mo (n:=n*b) h1 h2).plain (u:=eB true) (by rw[hw])) 23000 Z (aa Z (jf [5,4,0,1] Z (jr ?_))))))))
  refine aO Z ?_
  refine⟨?_,Z⟩
  rw[show qE n b=(n*b,true)from if_pos hw]
 | false=>
  have hn0:=bo hb9
  refine jf [8,5,4,0,1] Z (cT Z (cT Z (jf [10,8,5,4,0,1] Z (cT Z (cT Z (jf [12,10,8,5,4,0,1] Z (cT Z (jf [13,10,8,5,4,0,1] Z (cT Z (ae (aM O Z Z Z Z Z) Z (jf [15,5,4,0,1] Z (jn (ab Z (fun z15=>?_) (fun z15=>?_))))))))))))))
  exact absurd z15 (by decide)
  refine al (ac ?_)
  have hw:bZ (n*b)=true:=qk (fun h=>absurd h hn0)
  refine aa Z (ae (ah O Z Z (by have:=kH.1 hw;omega) (by have:=kH.1 hw;omega)) Z (aa Z (ae (ah O Z Z (by have:=kH.1 hw;omega) (by have:=kH.1 hw;omega)) Z (jf [21,18,5,4,0,1] Z (aS Z ((mo (n:=n*b) h1 h2).plain (u:=eB true) (by rw[hw])) 23000 Z (aa Z (jf [5,4,0,1] Z (jr ?_))))))))
  refine aO Z ?_
  refine⟨?_,Z⟩
  rw[show qE n b=(n*b,true)from if_pos hw]
abbrev df(c:Cf)(n:Nat)(ev cnt:List Int)(o:Int)(a1 a2 a3 a4 a5:Nat):B:=.box [.rs a1 0 c.vars.length,.rs a2 0 c.cells.length,.rs a3 0 n,.d (.int .i64 c.at_),.rs a4 0 ev.length,.rs a5 0 cnt.length,.d (.int .i64 o)]
abbrev jS(c:Cf)(ev cnt:List Int)(o:Int):List (Nat×B):=[(0,df c c.stack.length ev cnt o 1 2 3 4 5),(1,am c.vars),(2,am c.cells),(3,am c.stack),(4,am ev),(5,am cnt)]
abbrev tR(c:Cf)(ev cnt:List Int)(o:Int):List (Nat×B):=[(0,df c c.stack.length ev cnt o 1 2 6 4 5),(1,am c.vars),(2,am c.cells),(4,am ev),(5,am cnt),(6,am c.stack)]
theorem ce{x:In}{k:Int}(h:x.op=k):mv x=mv ⟨k,0⟩:=by unfold mv;simp only[h]
theorem pL{x:In}(h:aw x=true)(hp:0<(mv x).2):x.op=0∨x.op=1∨x.op=3∨x.op=4∨x.op=7:=by
 rcases nN h with h1|h1|h1|h1|h1|h1|h1|h1|h1|h1|h1|h1<;>rw[ce h1]at hp<;>first|omega|exact absurd hp (by decide)
theorem oA{x:In}(h:aw x=true)(hp: ¬0<(mv x).2)(ho:x.op≠11):x.op=2∨x.op=5∨x.op=6∨x.op=8∨x.op=9∨x.op=10:=by
 rcases nN h with h1|h1|h1|h1|h1|h1|h1|h1|h1|h1|h1|h1<;>rw[ce h1]at hp<;>first|omega|exact absurd (by decide) hp
theorem kz{b:Bool}{v:Int}(hv:v≠0)(h:(if b=true then(0:Int)else v)=0):b=true:=by
 cases b with
 | true=>rfl
 | false=>exact absurd h hv
theorem nM{x:In}{c:Cf}(h:x.op=2):bb x c=if ic (pM x c 0)=true then 0 else 4:=by unfold bb;rw[if_neg (by omega),if_pos h]
theorem nL{x:In}{c:Cf}(h:x.op=3):bb x c=if bZ (pM x c 0+pM x c 1)=true then 0 else 4:=by unfold bb;rw[if_neg (by omega),if_neg (by omega),if_pos h]
theorem nK{x:In}{c:Cf}(h:x.op=4):bb x c=if bZ (pM x c 0*x.a)=true then 0 else 4:=by unfold bb;rw[if_neg (by omega),if_neg (by omega),if_neg (by omega),if_pos h]
theorem nJ{x:In}{c:Cf}(h:x.op=7):bb x c=if bU 0 7 (pM x c 0)=true then 0 else 2:=by unfold bb;rw[if_neg (by omega),if_neg (by omega),if_neg (by omega),if_neg (by omega),if_pos h]
theorem mg{x:In}{c:Cf}(h:x.op=8):bb x c=if bU 0 7 (pM x c 0)=true then(if ic (pM x c 1)=true then 0 else 4)else 2:=by unfold bb;rw[if_neg (by omega),if_neg (by omega),if_neg (by omega),if_neg (by omega),if_neg (by omega),if_pos h]
theorem lx{x:In}{c:Cf}(h:x.op=10):bb x c=if pM x c 0<0 then 3 else 0:=by unfold bb;rw[if_neg (by omega),if_neg (by omega),if_neg (by omega),if_neg (by omega),if_neg (by omega),if_neg (by omega),if_pos h]
theorem lw{x:In}{c:Cf}(h:x.op=11):bb x c=6:=if_pos h
theorem eF{x:In}{c:Cf}(h:x.op=0∨x.op=1∨x.op=5∨x.op=6∨x.op=9):bb x c=0:=by
 unfold bb;rw[if_neg (by omega),if_neg (by omega),if_neg (by omega),if_neg (by omega),if_neg (by omega),if_neg (by omega),if_neg (by omega)]
theorem p8{x:In}{c:Cf}(h:aw x=true)(ho:bb x c≠0):x.op=11∨(x.op=2∧ic (pM x c 0)=false)∨(x.op=3∧bZ (pM x c 0+pM x c 1)=false)∨(x.op=4∧bZ (pM x c 0*x.a)=false)∨(x.op=7∧bU 0 7 (pM x c 0)=false)∨(x.op=8∧bU 0 7 (pM x c 0)=false)∨(x.op=8∧bU 0 7 (pM x c 0)=true∧ic (pM x c 1)=false)∨(x.op=10∧pM x c 0<0):=by
 rcases nN h with h1|h1|h1|h1|h1|h1|h1|h1|h1|h1|h1|h1
 exact absurd (eF (.inl h1)) ho
 exact absurd (eF (.inr (.inl h1))) ho
 rw[nM h1]at ho
 cases hb:ic (pM x c 0)with
 | true=>rw[hb]at ho;exact absurd Z ho
 | false=>exact .inr (.inl ⟨h1,Z⟩)
 rw[nL h1]at ho
 cases hb:bZ (pM x c 0+pM x c 1)with
 | true=>rw[hb]at ho;exact absurd Z ho
 | false=>exact .inr (.inr (.inl ⟨h1,Z⟩))
 rw[nK h1]at ho
 cases hb:bZ (pM x c 0*x.a)with
 | true=>rw[hb]at ho;exact absurd Z ho
 | false=>exact .inr (.inr (.inr (.inl ⟨h1,Z⟩)))
 exact absurd (eF (.inr (.inr (.inl h1)))) ho
 exact absurd (eF (.inr (.inr (.inr (.inl h1))))) ho
 rw[nJ h1]at ho
 cases hb:bU 0 7 (pM x c 0)with
 | true=>rw[hb]at ho;exact absurd Z ho
 | false=>exact .inr (.inr (.inr (.inr (.inl ⟨h1,Z⟩))))
 rw[mg h1]at ho
 cases hb:bU 0 7 (pM x c 0)with
 | true=>
  cases hb2:ic (pM x c 1)with
  | true=>rw[hb,hb2]at ho;exact absurd Z ho
  | false=>exact .inr (.inr (.inr (.inr (.inr (.inr (.inl ⟨h1,Z,Z⟩))))))
 | false=>exact .inr (.inr (.inr (.inr (.inr (.inl ⟨h1,Z⟩)))))
 exact absurd (eF (.inr (.inr (.inr (.inr h1))))) ho
 rw[lx h1]at ho
 by_cases hb:pM x c 0<0
 exact .inr (.inr (.inr (.inr (.inr (.inr (.inr ⟨h1,hb⟩))))))
 rw[if_neg hb]at ho;exact absurd Z ho
 exact .inl h1
theorem cE{x:In}{c:Cf}(h5:x.op≠5)(h6:x.op≠6):c.at_+1=dM x c:=by unfold dM;rw[if_neg h5,if_neg h6]
theorem gh{x:In}{c:Cf}(h5:x.op=5):x.a=dM x c:=by unfold dM;rw[if_pos h5]
theorem dO{x:In}{c:Cf}(h6:x.op=6)(h:pM x c 0<0):x.a=dM x c:=by unfold dM;rw[if_neg (by omega),if_pos h6,if_pos h]
theorem dP{x:In}{c:Cf}(h6:x.op=6)(h: ¬pM x c 0<0):c.at_+1=dM x c:=by unfold dM;rw[if_neg (by omega),if_pos h6,if_neg h]
theorem gY{x:In}(h:x.op=9):x.a=cZ x:=by unfold cZ;rw[if_pos h]
theorem gX{x:In}(h:x.op≠9):(-1:Int)=cZ x:=by unfold cZ;rw[if_neg h]
variable{code:List In}{ev cnt:List Int}{o:Int}
theorem iq{c:Cf}(hC:COk c)(hcl:code.length≤1000)(hix:aw x=true)(hat:0≤c.at_∧c.at_<code.length)(hcx:x=code.getD c.at_.toNat default)(hlo:b9 x c.stack.length=false)(hout:bb x c=0)(hpu:0<(mv x).2):MQ h1 h2 85 [.c (.pt 0 0 0),aJ code] (jS c ev cnt o) (bV (.tup [eI 0,eI (cZ x)]) (tR (cr x c) ev cnt o)):=by
 refine MC.shift 500 Z (MC.keep [500,501,502,504,505,506] (bs:=[df (cr x c) (cr x c).stack.length ev cnt o 501 502 506 504 505,am (cr x c).vars,am (cr x c).cells,am ev,am cnt,am (cr x c).stack]) Z Z (jH 210 [500,501,502,503,504,505] h1 h2 Tryz.func85 Z fun O hF=>?_))
 refine dK ?_
 have hmi:=dQ (x:=x)
 have hsl:=hC.sl
 obtain⟨pk,hpk⟩: ∃pk,pk=jO x:=⟨_,rfl⟩
 have hpm:(pk:Int)=(mv x).1:=by rw[hpk];unfold jO;omega
 obtain⟨l,hl⟩: ∃l,l=gy x c.stack.length:=⟨_,rfl⟩
 obtain⟨hl0,hl1⟩:=mi hlo
 have hlp:l+pk=c.stack.length:=by rw[hl,hpk];unfold gy jO;omega
 refine ac (aa Z (jn (aj (ac (aE Z (js Z ?_))))))
 first|refine cW Z ?_|refine js Z ?_|refine bP Z Z ?_
 refine jf [21,19,5,4,0,1] Z (aS Z ((rE (k:=c.at_) (n:=code.length) h1 h2 (by omega)).plain (u:=eB true) (congrArg eB (mH.2 hat))) 23000 Z (js Z (jf [23,5,4,0,1] Z (jn (ab Z (fun z23=>?_) (fun z23=>?_))))))
 exact absurd z23 (by decide)
 refine al (ac (aE Z (js Z (ae ((ck O Z Z Z Z Z Z Z Z (by omega) (dY (by omega) (by omega))).cast (v':=ptr (In.cells x)) (by rw[hcx])) Z (js Z (jf [30,5,4,0,1] Z (jl Z (ax ?_))))))))
 refine jo Z (ax ?_)
 refine az (Ent.freeze 6 (e':=[(6,_),(0,_),(1,_)]) Z (.cons Z (.c (.box (cs:=In.cells x) Z (aQ Z))) (fe [0,1] Z)) (.skip (gf Z (cU Z (cU Z (cU Z (cU Z (cU Z .nil)))))))) ?_
 refine ax ?_
 refine bc (js Z (af O Z Z Z Z (kD (x:=x) h1 h2) (ak Z) Z Z Z Z (B0:=34000) Z Z (aE Z (js Z (jf [8,7,6,0,1] Z (bc (aE Z ?_)))))))
 first|refine cW Z ?_|refine js Z ?_|refine bP Z Z ?_
 refine js Z (ae ((ah O Z Z (by omega) (by omega)).cast (v':=eI ((c.stack.length:Int)-(mv x).1)) Z) Z (js Z (jf [9,8,6,0,1] Z (jn (aj (ac (bi Z (jf [45,9,8,6,0,1] Z (bz 8 Z Z Z (fun hx=>ba hx Z (ba hx Z (ba hx Z (iy 4 Z Z Z Z (fun hx'=>ba hx' Z (ba hx' Z (dz hx' (vF Z) Z (ba hx' Z (AN.nil))))) Z Z (dz hx (aU O Z Z Z Z Z) Z (AN.nil)))))) Z Z ?_)))))))))
 first|refine ae (bq O Z Z Z Z Z) Z ?_|refine ae (Val.pickB O Z Z Z Z Z) Z ?_|refine ae (aU O Z Z Z Z Z) Z ?_
 refine jf [54,9,8,6,0,1] Z (jn (ab Z (fun z54=>?_) (fun z54=>?_)))
 exact absurd (show b9 x c.stack.length=true from z54) (by rw[hlo];decide)
 refine al (aj (jw [9,8,6,0,1] Z (hZ [_,_,_,_,_,_,_,_,_,_,_,_,_,_] [aZ,av [0],av [0,1],av [0,1,2],aZ,av (rg 0 5),aZ,av [6],av [6,7],av [6,7,8],av (rg 6 4),av (rg 0 6),av (rg 0 12),av (rg 0 13)] [] [_] (dg Z (ai ((V Z).cast (v':=eI ((l:Nat):Int)) (congrArg eI (by omega))) (ai ((aC O Z Z (by omega)).cast (v':=.c (.rs 503 l pk)) (by show A.c (.rs 503 _ _)=_;rw[Nat.zero_add,Int.toNat_natCast,show c.stack.length-l=pk by omega])) (dg Z (ai (ah O Z Z (by omega) (by omega)) (kc Z (kc Z (kc Z trivial)))))))) ?_)))
 refine jw [12,11,10,9,8,6,0,1] Z (dK ?_)
 refine ac (js Z (bc (js Z (jn (aj (ac (aa Z (jn ?_))))))))
 rcases pL hix hpu with hx|hx|hx|hx|hx
 have hmv:mv x=(0,1):=by rw[ce hx];decide
 have hpk1:pk=0:=by rw[hmv]at hpm;exact Int.ofNat.inj hpm
 refine au (ac (aa Z (jn (ab Z (fun z68=>?_) (fun z68=>?_)))))
 exact absurd (aB z68) (by omega)
 refine ac (aa Z (jf [70,69,67,66,14,13,12,11,10,9,8,6,0,1] Z (jn (ab Z (fun z70=>?_) (fun z70=>?_)))))
 refine ag (js Z (ae ((V Z).cast (v':=eI (fg x c)) (congrArg eI (by unfold fg;rw[if_pos hx]))) Z (js Z (jf [13,69,67,66,14,12,11,10,9,8,6,0,1] Z (jn (aj (ac (aa Z (jf [183,13,69,67,66,12,11,10,9,8,6,0,1] Z (jn (ab Z (fun z183=>?_) (fun z183=>?_))))))))))))
 exact absurd z183 (by decide)
 refine al (ac (aE Z (js Z (ae ((V Z).cast (v':=eI ((l:Nat):Int)) (congrArg eI (by omega))) Z (ae (aY O Z Z Z Z Z Z Z Z Z Z (by omega)) Z (aa Z (jf [192,190,13,69,67,66,12,11,10,9,8,6,0,1] Z (jo Z (ax ?_)))))))))
 refine jf [13,69,67,66,12,11,10,9,8,6,0,1] Z (jn (aj (ac (az (Ent.cut 503 l Z) (ax ?_)))))
 rw[←List.map_take]
 refine aa Z (jn (ab Z (fun z194=>?_) (fun z194=>?_)))
 refine ag (aE Z (aa Z (jf [200,199,195,193,13,69,67,66,12,11,10,9,8,6,0,1] Z (bg (HS.lit O Z Z Z) Z (ax ?_)))))
 refine jf [201,199,195,193,13,69,67,66,12,11,10,9,8,6,0,1] Z (bg (bd (zs:=(c.stack.take l++[fg x c]).map (fun n=>[D.int .i64 n])) (n:=l+1) O Z Z Z Z Z Z Z Z Z Z Z Z Z Z Z Z (.row Z (by simp;omega)) Z Z (by decide) Z (by simp;omega) (by simp;omega) (by rw[List.map_append];rfl) (by simp;omega)) Z (ax ?_))
 refine ax ?_
 refine aa Z (jf [204,202,193,13,69,67,66,12,11,10,9,8,6,0,1] Z (jo Z (ax ?_)))
 refine jf [193,13,69,67,66,12,11,10,9,8,6,0,1] Z (bc (js Z (ae ((V Z).cast (v':=eI (dM x c)) (congrArg eI (by first|exact dO hx (aB z134)|exact dP hx (bo z134)|exact cE (by omega) (by omega)|exact gh hx))) Z (aa Z (jf [208,206,193,13,69,67,66,12,10,9,8,6,0,1] Z (jo Z (ax ?_)))))))
 refine jf [193,13,69,67,66,12,10,9,8,6,0,1] Z (bc (ae ((V Z).cast (v':=eI (cZ x)) (congrArg eI (by first|exact gX (by omega)|exact gY hx))) Z (aa Z (jf [5,4,193,13,69,67,66,10,9,8,6,0,1] Z (jr ?_)))))
 have hnc:cr x c=⟨c.vars,c.cells,c.stack.take l++[fg x c],dM x c⟩:=by unfold cr ei ej g9;rw[if_neg (by omega),if_neg (by omega),if_pos hpu,←hl]
 have hln:(c.stack.take l++[fg x c]).length=l+1:=by rw[cC,List.length_take,gU];omega
 rw[hnc]
 simp only[hln]
 refine⟨.inl trivial,_,ao 202 506 Z Z,_,Z,Z,Z⟩
 exact absurd hpu (bo z194)
 exact absurd hx (bo z70)
 have hv4:=hC.vl
 have z8:=hC.cl
 have ha:=nU hix (.inl hx)
 have hmv:mv x=(0,1):=by rw[ce hx];decide
 have hpk1:pk=0:=by rw[hmv]at hpm;exact Int.ofNat.inj hpm
 refine au (ac (aa Z (jn (ab Z (fun z68=>?_) (fun z68=>?_)))))
 exact absurd (aB z68) (by omega)
 refine ac (aa Z (jf [70,69,67,66,14,13,12,11,10,9,8,6,0,1] Z (jn (ab Z (fun z70=>?_) (fun z70=>?_)))))
 exact absurd (aB z70) (by omega)
 refine ac (aa Z (jf [74,69,67,66,14,13,12,11,10,9,8,6,0,1] Z (jn (ab Z (fun z74=>?_) (fun z74=>?_)))))
 refine jw [69,67,66,14,12,11,10,9,8,6,0,1] Z (hZ [_,_,_,_,_,_,_,_,_,_] [aZ,av [0],av [0,1],av [0,1,2],av (rg 0 4),aZ,av [5],av (rg 0 7),av (rg 0 8),av (rg 0 9)] [] [_] (dg Z (kc Z (kc Z (kc Z (ai (aC O Z Z (by omega)) (ai (((ar O (ex:=[.int .i64 (c.vars.getD x.a.toNat default)]) Z Z Z Z (bn (by omega) (Nat.zero_add _)) Z)).cast (v':=eI (fg x c)) (congrArg eI (by unfold fg;rw[if_neg (by omega),if_pos hx]))) (kc Z trivial))))))) ?_)
 refine jw [13,69,67,66,14,12,11,10,9,8,6,0,1] Z (dK ?_)
 refine aj (ac (aa Z (jf [183,13,69,67,66,12,11,10,9,8,6,0,1] Z (jn (ab Z (fun z183=>?_) (fun z183=>?_))))))
 exact absurd z183 (by decide)
 refine al (ac (aE Z (js Z (ae ((V Z).cast (v':=eI ((l:Nat):Int)) (congrArg eI (by omega))) Z (ae (aY O Z Z Z Z Z Z Z Z Z Z (by omega)) Z (aa Z (jf [192,190,13,69,67,66,12,11,10,9,8,6,0,1] Z (jo Z (ax ?_)))))))))
 refine jf [13,69,67,66,12,11,10,9,8,6,0,1] Z (jn (aj (ac (az (Ent.cut 503 l Z) (ax ?_)))))
 rw[←List.map_take]
 refine aa Z (jn (ab Z (fun z194=>?_) (fun z194=>?_)))
 refine ag (aE Z (aa Z (jf [200,199,195,193,13,69,67,66,12,11,10,9,8,6,0,1] Z (bg (HS.lit O Z Z Z) Z (ax ?_)))))
 refine jf [201,199,195,193,13,69,67,66,12,11,10,9,8,6,0,1] Z (bg (bd (zs:=(c.stack.take l++[fg x c]).map (fun n=>[D.int .i64 n])) (n:=l+1) O Z Z Z Z Z Z Z Z Z Z Z Z Z Z Z Z (.row Z (by simp;omega)) Z Z (by decide) Z (by simp;omega) (by simp;omega) (by rw[List.map_append];rfl) (by simp;omega)) Z (ax ?_))
 refine ax ?_
 refine aa Z (jf [204,202,193,13,69,67,66,12,11,10,9,8,6,0,1] Z (jo Z (ax ?_)))
 refine jf [193,13,69,67,66,12,11,10,9,8,6,0,1] Z (bc (js Z (ae ((V Z).cast (v':=eI (dM x c)) (congrArg eI (by first|exact dO hx (aB z134)|exact dP hx (bo z134)|exact cE (by omega) (by omega)|exact gh hx))) Z (aa Z (jf [208,206,193,13,69,67,66,12,10,9,8,6,0,1] Z (jo Z (ax ?_)))))))
 refine jf [193,13,69,67,66,12,10,9,8,6,0,1] Z (bc (ae ((V Z).cast (v':=eI (cZ x)) (congrArg eI (by first|exact gX (by omega)|exact gY hx))) Z (aa Z (jf [5,4,193,13,69,67,66,10,9,8,6,0,1] Z (jr ?_)))))
 have hnc:cr x c=⟨c.vars,c.cells,c.stack.take l++[fg x c],dM x c⟩:=by unfold cr ei ej g9;rw[if_neg (by omega),if_neg (by omega),if_pos hpu,←hl]
 have hln:(c.stack.take l++[fg x c]).length=l+1:=by rw[cC,List.length_take,gU];omega
 rw[hnc]
 simp only[hln]
 refine⟨.inl trivial,_,ao 202 506 Z Z,_,Z,Z,Z⟩
 exact absurd hpu (bo z194)
 exact absurd hx (bo z74)
 have ho:=hout
 rw[nL hx]at ho
 have hw:=kz (by decide) ho
 have hpq:pM x c 0+pM x c 1=fg x c:=by unfold fg;rw[if_neg (by omega),if_neg (by omega),if_pos hx]
 have hww:=kH.1 hw
 have hmv:mv x=(2,1):=by rw[ce hx];decide
 have hpk1:pk=2:=by rw[hmv]at hpm;exact Int.ofNat.inj hpm
 have hp0:l+0<c.stack.length→(c.stack.map (fun n=>[D.int .i64 n]))[l+0]? = some [.int .i64 (pM x c 0)]:=fun h=>by have:=bn (xs:=c.stack) h rfl;rw[this];unfold pM;rw[←hl]
 have hp1:l+1<c.stack.length→(c.stack.map (fun n=>[D.int .i64 n]))[l+1]? = some [.int .i64 (pM x c 1)]:=fun h=>by have:=bn (xs:=c.stack) h rfl;rw[this];unfold pM;rw[←hl]
 refine au (ac (aa Z (jn (ab Z (fun z68=>?_) (fun z68=>?_)))))
 exact absurd (aB z68) (by omega)
 refine ac (aa Z (jf [70,69,67,66,14,13,12,11,10,9,8,6,0,1] Z (jn (ab Z (fun z70=>?_) (fun z70=>?_)))))
 exact absurd (aB z70) (by omega)
 refine ac (aa Z (jf [74,69,67,66,14,13,12,11,10,9,8,6,0,1] Z (jn (ab Z (fun z74=>?_) (fun z74=>?_)))))
 exact absurd (aB z74) (by omega)
 refine ac (aa Z (jf [85,69,67,66,14,13,12,11,10,9,8,6,0,1] Z (jn (ab Z (fun z85=>?_) (fun z85=>?_)))))
 exact absurd (aB z85) (by omega)
 refine ac (aa Z (jf [103,69,67,66,14,13,12,11,10,9,8,6,0,1] Z (jn (ab Z (fun z103=>?_) (fun z103=>?_)))))
 refine aj (jw [69,67,66,14,12,11,10,9,8,6,0,1] Z (hZ [_,_,_,_,_,_,_,_] [aZ,av [0],av [0,1],aZ,av [3],av [3,4],av (rg 0 6),av (rg 0 7)] [] [_] (kc Z (ai (aC O Z Z (by omega)) (ai (ar O (ex:=[.int .i64 (pM x c 0)]) Z Z Z Z (hp0 (by omega)) Z) (kc Z (ai (aC O Z Z (by omega)) (ai (ar O (ex:=[.int .i64 (pM x c 1)]) Z Z Z Z (hp1 (by omega)) Z) (ai ((ah O Z Z (by omega) (by omega)).cast (v':=eI (fg x c)) (congrArg eI hpq)) (kc Z trivial)))))))) ?_))
 refine jw [13,69,67,66,14,12,11,10,9,8,6,0,1] Z (dK ?_)
 refine ag (js Z (aS Z ((mo (n:=fg x c) h1 h2).plain (u:=eB true) (by rw[←hpq,hw])) 114000 Z (js Z (jf [14,13,69,67,66,12,11,10,9,8,6,0,1] Z (jn (aj (ac (aa Z (jf [183,13,69,67,66,12,11,10,9,8,6,0,1] Z (jn (ab Z (fun z183=>?_) (fun z183=>?_))))))))))))
 exact absurd z183 (by decide)
 refine al (ac (aE Z (js Z (ae ((V Z).cast (v':=eI ((l:Nat):Int)) (congrArg eI (by omega))) Z (ae (aY O Z Z Z Z Z Z Z Z Z Z (by omega)) Z (aa Z (jf [192,190,13,69,67,66,12,11,10,9,8,6,0,1] Z (jo Z (ax ?_)))))))))
 refine jf [13,69,67,66,12,11,10,9,8,6,0,1] Z (jn (aj (ac (az (Ent.cut 503 l Z) (ax ?_)))))
 rw[←List.map_take]
 refine aa Z (jn (ab Z (fun z194=>?_) (fun z194=>?_)))
 refine ag (aE Z (aa Z (jf [200,199,195,193,13,69,67,66,12,11,10,9,8,6,0,1] Z (bg (HS.lit O Z Z Z) Z (ax ?_)))))
 refine jf [201,199,195,193,13,69,67,66,12,11,10,9,8,6,0,1] Z (bg (bd (zs:=(c.stack.take l++[fg x c]).map (fun n=>[D.int .i64 n])) (n:=l+1) O Z Z Z Z Z Z Z Z Z Z Z Z Z Z Z Z (.row Z (by simp;omega)) Z Z (by decide) Z (by simp;omega) (by simp;omega) (by rw[List.map_append];rfl) (by simp;omega)) Z (ax ?_))
 refine ax ?_
 refine aa Z (jf [204,202,193,13,69,67,66,12,11,10,9,8,6,0,1] Z (jo Z (ax ?_)))
 refine jf [193,13,69,67,66,12,11,10,9,8,6,0,1] Z (bc (js Z (ae ((V Z).cast (v':=eI (dM x c)) (congrArg eI (by first|exact dO hx (aB z134)|exact dP hx (bo z134)|exact cE (by omega) (by omega)|exact gh hx))) Z (aa Z (jf [208,206,193,13,69,67,66,12,10,9,8,6,0,1] Z (jo Z (ax ?_)))))))
 refine jf [193,13,69,67,66,12,10,9,8,6,0,1] Z (bc (ae ((V Z).cast (v':=eI (cZ x)) (congrArg eI (by first|exact gX (by omega)|exact gY hx))) Z (aa Z (jf [5,4,193,13,69,67,66,10,9,8,6,0,1] Z (jr ?_)))))
 have hnc:cr x c=⟨c.vars,c.cells,c.stack.take l++[fg x c],dM x c⟩:=by unfold cr ei ej g9;rw[if_neg (by omega),if_neg (by omega),if_pos hpu,←hl]
 have hln:(c.stack.take l++[fg x c]).length=l+1:=by rw[cC,List.length_take,gU];omega
 rw[hnc]
 simp only[hln]
 refine⟨.inl trivial,_,ao 202 506 Z Z,_,Z,Z,Z⟩
 exact absurd hpu (bo z194)
 exact absurd hx (bo z103)
 have ho:=hout
 rw[nK hx]at ho
 have hw:=kz (by decide) ho
 have hpq:pM x c 0*x.a=fg x c:=by unfold fg;rw[if_neg (by omega),if_neg (by omega),if_neg (by omega),if_pos hx]
 have hmv:mv x=(1,1):=by rw[ce hx];decide
 have hpk1:pk=1:=by rw[hmv]at hpm;exact Int.ofNat.inj hpm
 have hp0:l+0<c.stack.length→(c.stack.map (fun n=>[D.int .i64 n]))[l+0]? = some [.int .i64 (pM x c 0)]:=fun h=>by have:=bn (xs:=c.stack) h rfl;rw[this];unfold pM;rw[←hl]
 refine au (ac (aa Z (jn (ab Z (fun z68=>?_) (fun z68=>?_)))))
 exact absurd (aB z68) (by omega)
 refine ac (aa Z (jf [70,69,67,66,14,13,12,11,10,9,8,6,0,1] Z (jn (ab Z (fun z70=>?_) (fun z70=>?_)))))
 exact absurd (aB z70) (by omega)
 refine ac (aa Z (jf [74,69,67,66,14,13,12,11,10,9,8,6,0,1] Z (jn (ab Z (fun z74=>?_) (fun z74=>?_)))))
 exact absurd (aB z74) (by omega)
 refine ac (aa Z (jf [85,69,67,66,14,13,12,11,10,9,8,6,0,1] Z (jn (ab Z (fun z85=>?_) (fun z85=>?_)))))
 exact absurd (aB z85) (by omega)
 refine ac (aa Z (jf [103,69,67,66,14,13,12,11,10,9,8,6,0,1] Z (jn (ab Z (fun z103=>?_) (fun z103=>?_)))))
 exact absurd (aB z103) (by omega)
 refine ac (aa Z (jf [114,69,67,66,14,13,12,11,10,9,8,6,0,1] Z (jn (ab Z (fun z114=>?_) (fun z114=>?_)))))
 refine jw [69,67,66,12,11,10,9,8,6,0,1] Z (hZ [_,_,_,_,_,_,_,_,_,_,_] [aZ,av [0],av [0,1],aZ,av [3],pe (rg 0 5) 0,pn (rg 0 6) 1 1,pn (rg 0 7) 1 1,pn (rg 0 7) 1 1,pn (rg 0 8) 1 1,pn (rg 0 10) 1 1] [5] [_,_] (kc Z (ai (aC O Z Z (by omega)) (ai (ar O (ex:=[.int .i64 (pM x c 0)]) Z Z Z Z (hp0 (by omega)) Z) (kc Z (kc Z (ai (d9 O (B0:=123000) Z Z Z Z ((qz (n:=pM x c 0) (b:=x.a) h1 h2 (hC.pw (by rw[←hl];omega)) (nV hix (.inr hx))).plain (u:=.tup [eI (fg x c),eB true]) (by unfold qE;rw[if_pos hw,hpq])) (ak Z) Z Z Z Z Z) (dg Z (kc Z trivial)))))))) ?_)
 refine jw [14,13,69,67,66,12,11,10,9,8,6,0,1] Z (dK ?_)
 refine aj (ac (aa Z (jf [183,13,69,67,66,12,11,10,9,8,6,0,1] Z (jn (ab Z (fun z183=>?_) (fun z183=>?_))))))
 exact absurd z183 (by decide)
 refine al (ac (aE Z (js Z (ae ((V Z).cast (v':=eI ((l:Nat):Int)) (congrArg eI (by omega))) Z (ae (aY O Z Z Z Z Z Z Z Z Z Z (by omega)) Z (aa Z (jf [192,190,13,69,67,66,12,11,10,9,8,6,0,1] Z (jo Z (ax ?_)))))))))
 refine jf [13,69,67,66,12,11,10,9,8,6,0,1] Z (jn (aj (ac (az (Ent.cut 503 l Z) (ax ?_)))))
 rw[←List.map_take]
 refine aa Z (jn (ab Z (fun z194=>?_) (fun z194=>?_)))
 refine ag (aE Z (aa Z (jf [200,199,195,193,13,69,67,66,12,11,10,9,8,6,0,1] Z (bg (HS.lit O Z Z Z) Z (ax ?_)))))
 refine jf [201,199,195,193,13,69,67,66,12,11,10,9,8,6,0,1] Z (bg (bd (zs:=(c.stack.take l++[fg x c]).map (fun n=>[D.int .i64 n])) (n:=l+1) O Z Z Z Z Z Z Z Z Z Z Z Z Z Z Z Z (.row Z (by simp;omega)) Z Z (by decide) Z (by simp;omega) (by simp;omega) (by rw[List.map_append];rfl) (by simp;omega)) Z (ax ?_))
 refine ax ?_
 refine aa Z (jf [204,202,193,13,69,67,66,12,11,10,9,8,6,0,1] Z (jo Z (ax ?_)))
 refine jf [193,13,69,67,66,12,11,10,9,8,6,0,1] Z (bc (js Z (ae ((V Z).cast (v':=eI (dM x c)) (congrArg eI (by first|exact dO hx (aB z134)|exact dP hx (bo z134)|exact cE (by omega) (by omega)|exact gh hx))) Z (aa Z (jf [208,206,193,13,69,67,66,12,10,9,8,6,0,1] Z (jo Z (ax ?_)))))))
 refine jf [193,13,69,67,66,12,10,9,8,6,0,1] Z (bc (ae ((V Z).cast (v':=eI (cZ x)) (congrArg eI (by first|exact gX (by omega)|exact gY hx))) Z (aa Z (jf [5,4,193,13,69,67,66,10,9,8,6,0,1] Z (jr ?_)))))
 have hnc:cr x c=⟨c.vars,c.cells,c.stack.take l++[fg x c],dM x c⟩:=by unfold cr ei ej g9;rw[if_neg (by omega),if_neg (by omega),if_pos hpu,←hl]
 have hln:(c.stack.take l++[fg x c]).length=l+1:=by rw[cC,List.length_take,gU];omega
 rw[hnc]
 simp only[hln]
 refine⟨.inl trivial,_,ao 202 506 Z Z,_,Z,Z,Z⟩
 exact absurd hpu (bo z194)
 exact absurd hx (bo z114)
 have hv4:=hC.vl
 have z8:=hC.cl
 have ho:=hout
 rw[nJ hx]at ho
 have hw:=kz (by decide) ho
 have hi7:0≤pM x c 0∧pM x c 0≤7:=by unfold bU at hw;simpa using hw
 have hmv:mv x=(1,1):=by rw[ce hx];decide
 have hpk1:pk=1:=by rw[hmv]at hpm;exact Int.ofNat.inj hpm
 have hp0:l+0<c.stack.length→(c.stack.map (fun n=>[D.int .i64 n]))[l+0]? = some [.int .i64 (pM x c 0)]:=fun h=>by have:=bn (xs:=c.stack) h rfl;rw[this];unfold pM;rw[←hl]
 refine au (ac (aa Z (jn (ab Z (fun z68=>?_) (fun z68=>?_)))))
 exact absurd (aB z68) (by omega)
 refine ac (aa Z (jf [70,69,67,66,14,13,12,11,10,9,8,6,0,1] Z (jn (ab Z (fun z70=>?_) (fun z70=>?_)))))
 exact absurd (aB z70) (by omega)
 refine ac (aa Z (jf [74,69,67,66,14,13,12,11,10,9,8,6,0,1] Z (jn (ab Z (fun z74=>?_) (fun z74=>?_)))))
 exact absurd (aB z74) (by omega)
 refine ac (aa Z (jf [85,69,67,66,14,13,12,11,10,9,8,6,0,1] Z (jn (ab Z (fun z85=>?_) (fun z85=>?_)))))
 exact absurd (aB z85) (by omega)
 refine ac (aa Z (jf [103,69,67,66,14,13,12,11,10,9,8,6,0,1] Z (jn (ab Z (fun z103=>?_) (fun z103=>?_)))))
 exact absurd (aB z103) (by omega)
 refine ac (aa Z (jf [114,69,67,66,14,13,12,11,10,9,8,6,0,1] Z (jn (ab Z (fun z114=>?_) (fun z114=>?_)))))
 exact absurd (aB z114) (by omega)
 refine ac (aa Z (jf [125,69,67,66,14,13,12,11,10,9,8,6,0,1] Z (jn (ab Z (fun z125=>?_) (fun z125=>?_)))))
 exact absurd (aB z125) (by omega)
 refine ac (aa Z (jf [129,69,67,66,14,13,12,11,10,9,8,6,0,1] Z (jn (ab Z (fun z129=>?_) (fun z129=>?_)))))
 exact absurd (aB z129) (by omega)
 refine aj (ac (aa Z (jf [137,69,67,66,14,13,12,11,10,9,8,6,0,1] Z (jn (ab Z (fun z137=>?_) (fun z137=>?_))))))
 refine al (ab Z (fun z137=>?_) (fun z137=>?_))
 refine ac (js Z (ae (aC O Z Z (by omega)) Z (ae (ar O (ex:=[.int .i64 (pM x c 0)]) Z Z Z Z (hp0 (by omega)) Z) Z (js Z (jf [15,69,67,66,14,13,12,11,10,9,8,6,0,1] Z (jn (aj (ac (js Z (aS Z ((fh (x:=pM x c 0) (lo:=0) (hi:=7) h1 h2).plain (u:=eB true) (by rw[hw])) 145000 Z (js Z (jf [145,15,69,67,66,14,13,12,11,10,9,8,6,0,1] Z (jn (ab Z (fun z145=>?_) (fun z145=>?_)))))))))))))))
 exact absurd z145 (by decide)
 refine al (ac (bi Z (jf [148,15,69,67,66,14,13,12,11,10,9,8,6,0,1] Z (jn (ab Z (fun z148=>?_) (fun z148=>?_))))))
 refine ag (aE Z (aa Z (ae (aC O Z Z (by omega)) Z (ae ((ar O (ex:=[.int .i64 (c.cells.getD (pM x c 0).toNat default)]) Z Z Z Z (bn (by omega) (Nat.zero_add _)) Z).cast (v':=eI (fg x c)) (congrArg eI (by unfold fg;rw[if_neg (by omega),if_neg (by omega),if_neg (by omega),if_neg (by omega),if_pos hx]))) Z (js Z (jf [13,15,69,67,66,14,12,11,10,9,8,6,0,1] Z (jn (aj (ac (aa Z (jf [183,13,15,69,67,66,12,11,10,9,8,6,0,1] Z (jn (ab Z (fun z183=>?_) (fun z183=>?_))))))))))))))
 exact absurd z183 (by decide)
 refine al (ac (aE Z (js Z (ae ((V Z).cast (v':=eI ((l:Nat):Int)) (congrArg eI (by omega))) Z (ae (aY O Z Z Z Z Z Z Z Z Z Z (by omega)) Z (aa Z (jf [192,190,13,15,69,67,66,12,11,10,9,8,6,0,1] Z (jo Z (ax ?_)))))))))
 refine jf [13,15,69,67,66,12,11,10,9,8,6,0,1] Z (jn (aj (ac (az (Ent.cut 503 l Z) (ax ?_)))))
 rw[←List.map_take]
 refine aa Z (jn (ab Z (fun z194=>?_) (fun z194=>?_)))
 refine ag (aE Z (aa Z (jf [200,199,195,193,13,15,69,67,66,12,11,10,9,8,6,0,1] Z (bg (HS.lit O Z Z Z) Z (ax ?_)))))
 refine jf [201,199,195,193,13,15,69,67,66,12,11,10,9,8,6,0,1] Z (bg (bd (zs:=(c.stack.take l++[fg x c]).map (fun n=>[D.int .i64 n])) (n:=l+1) O Z Z Z Z Z Z Z Z Z Z Z Z Z Z Z Z (.row Z (by simp;omega)) Z Z (by decide) Z (by simp;omega) (by simp;omega) (by rw[List.map_append];rfl) (by simp;omega)) Z (ax ?_))
 refine ax ?_
 refine aa Z (jf [204,202,193,13,15,69,67,66,12,11,10,9,8,6,0,1] Z (jo Z (ax ?_)))
 refine jf [193,13,15,69,67,66,12,11,10,9,8,6,0,1] Z (bc (js Z (ae ((V Z).cast (v':=eI (dM x c)) (congrArg eI (by first|exact dO hx (aB z134)|exact dP hx (bo z134)|exact cE (by omega) (by omega)|exact gh hx))) Z (aa Z (jf [208,206,193,13,15,69,67,66,12,10,9,8,6,0,1] Z (jo Z (ax ?_)))))))
 refine jf [193,13,15,69,67,66,12,10,9,8,6,0,1] Z (bc (ae ((V Z).cast (v':=eI (cZ x)) (congrArg eI (by first|exact gX (by omega)|exact gY hx))) Z (aa Z (jf [5,4,193,13,15,69,67,66,10,9,8,6,0,1] Z (jr ?_)))))
 have hnc:cr x c=⟨c.vars,c.cells,c.stack.take l++[fg x c],dM x c⟩:=by unfold cr ei ej g9;rw[if_neg (by omega),if_neg (by omega),if_pos hpu,←hl]
 have hln:(c.stack.take l++[fg x c]).length=l+1:=by rw[cC,List.length_take,gU];omega
 rw[hnc]
 simp only[hln]
 refine⟨.inl trivial,_,ao 202 506 Z Z,_,Z,Z,Z⟩
 exact absurd hpu (bo z194)
 exact absurd hx (bo z148)
 exact absurd hx (bo z137)
 exact absurd hx (bo z137)
theorem qX{b:Bool}{u v:Int}(hv:v≠0)(h:(if b=true then u else v)=0):b=true:=by
 cases b with
 | true=>rfl
 | false=>exact absurd h hv
theorem iu{c:Cf}(hC:COk c)(hcl:code.length≤1000)(hix:aw x=true)(hat:0≤c.at_∧c.at_<code.length)(hcx:x=code.getD c.at_.toNat default)(hlo:b9 x c.stack.length=false)(hout:bb x c=0)(hpu: ¬0<(mv x).2):MQ h1 h2 85 [.c (.pt 0 0 0),aJ code] (jS c ev cnt o) (bV (.tup [eI 0,eI (cZ x)]) (jS (cr x c) ev cnt o)):=by
 refine MC.shift 500 Z (MC.keep [500,501,502,503,504,505] (bs:=[df (cr x c) (cr x c).stack.length ev cnt o 501 502 503 504 505,am (cr x c).vars,am (cr x c).cells,am (cr x c).stack,am ev,am cnt]) Z Z (jH 210 [500,501,502,503,504,505] h1 h2 Tryz.func85 Z fun O hF=>?_))
 refine dK ?_
 have hmi:=dQ (x:=x)
 have hsl:=hC.sl
 obtain⟨pk,hpk⟩: ∃pk,pk=jO x:=⟨_,rfl⟩
 have hpm:(pk:Int)=(mv x).1:=by rw[hpk];unfold jO;omega
 obtain⟨l,hl⟩: ∃l,l=gy x c.stack.length:=⟨_,rfl⟩
 obtain⟨hl0,hl1⟩:=mi hlo
 have hlp:l+pk=c.stack.length:=by rw[hl,hpk];unfold gy jO;omega
 refine ac (aa Z (jn (aj (ac (aE Z (js Z ?_))))))
 first|refine cW Z ?_|refine js Z ?_|refine bP Z Z ?_
 refine jf [21,19,5,4,0,1] Z (aS Z ((rE (k:=c.at_) (n:=code.length) h1 h2 (by omega)).plain (u:=eB true) (congrArg eB (mH.2 hat))) 23000 Z (js Z (jf [23,5,4,0,1] Z (jn (ab Z (fun z23=>?_) (fun z23=>?_))))))
 exact absurd z23 (by decide)
 refine al (ac (aE Z (js Z (ae ((ck O Z Z Z Z Z Z Z Z (by omega) (dY (by omega) (by omega))).cast (v':=ptr (In.cells x)) (by rw[hcx])) Z (js Z (jf [30,5,4,0,1] Z (jl Z (ax ?_))))))))
 refine jo Z (ax ?_)
 refine az (Ent.freeze 6 (e':=[(6,_),(0,_),(1,_)]) Z (.cons Z (.c (.box (cs:=In.cells x) Z (aQ Z))) (fe [0,1] Z)) (.skip (gf Z (cU Z (cU Z (cU Z (cU Z (cU Z .nil)))))))) ?_
 refine ax ?_
 refine bc (js Z (af O Z Z Z Z (kD (x:=x) h1 h2) (ak Z) Z Z Z Z (B0:=34000) Z Z (aE Z (js Z (jf [8,7,6,0,1] Z (bc (aE Z ?_)))))))
 first|refine cW Z ?_|refine js Z ?_|refine bP Z Z ?_
 refine js Z (ae ((ah O Z Z (by omega) (by omega)).cast (v':=eI ((c.stack.length:Int)-(mv x).1)) Z) Z (js Z (jf [9,8,6,0,1] Z (jn (aj (ac (bi Z (jf [45,9,8,6,0,1] Z (bz 8 Z Z Z (fun hx=>ba hx Z (ba hx Z (ba hx Z (iy 4 Z Z Z Z (fun hx'=>ba hx' Z (ba hx' Z (dz hx' (vF Z) Z (ba hx' Z (AN.nil))))) Z Z (dz hx (aU O Z Z Z Z Z) Z (AN.nil)))))) Z Z ?_)))))))))
 first|refine ae (bq O Z Z Z Z Z) Z ?_|refine ae (Val.pickB O Z Z Z Z Z) Z ?_|refine ae (aU O Z Z Z Z Z) Z ?_
 refine jf [54,9,8,6,0,1] Z (jn (ab Z (fun z54=>?_) (fun z54=>?_)))
 exact absurd (show b9 x c.stack.length=true from z54) (by rw[hlo];decide)
 refine al (aj (jw [9,8,6,0,1] Z (hZ [_,_,_,_,_,_,_,_,_,_,_,_,_,_] [aZ,av [0],av [0,1],av [0,1,2],aZ,av (rg 0 5),aZ,av [6],av [6,7],av [6,7,8],av (rg 6 4),av (rg 0 6),av (rg 0 12),av (rg 0 13)] [] [_] (dg Z (ai ((V Z).cast (v':=eI ((l:Nat):Int)) (congrArg eI (by omega))) (ai ((aC O Z Z (by omega)).cast (v':=.c (.rs 503 l pk)) (by show A.c (.rs 503 _ _)=_;rw[Nat.zero_add,Int.toNat_natCast,show c.stack.length-l=pk by omega])) (dg Z (ai (ah O Z Z (by omega) (by omega)) (kc Z (kc Z (kc Z trivial)))))))) ?_)))
 refine jw [12,11,10,9,8,6,0,1] Z (dK ?_)
 refine ac (js Z (bc (js Z (jn (aj (ac (aa Z (jn ?_))))))))
 rcases oA hix hpu (fun h=>by rw[lw h]at hout;cases hout)with hx|hx|hx|hx|hx|hx
 have hv4:=hC.vl
 have z8:=hC.cl
 have ha:=nU hix (.inr hx)
 have ho:=hout
 rw[nM hx]at ho
 have hw:=kz (by decide) ho
 have hmv:mv x=(1,0):=by rw[ce hx];decide
 have hpk1:pk=1:=by rw[hmv]at hpm;exact Int.ofNat.inj hpm
 have hp0:l+0<c.stack.length→(c.stack.map (fun n=>[D.int .i64 n]))[l+0]? = some [.int .i64 (pM x c 0)]:=fun h=>by have:=bn (xs:=c.stack) h rfl;rw[this];unfold pM;rw[←hl]
 refine au (ac (aa Z (jn (ab Z (fun z68=>?_) (fun z68=>?_)))))
 exact absurd (aB z68) (by omega)
 refine ac (aa Z (jf [70,69,67,66,14,13,12,11,10,9,8,6,0,1] Z (jn (ab Z (fun z70=>?_) (fun z70=>?_)))))
 exact absurd (aB z70) (by omega)
 refine ac (aa Z (jf [74,69,67,66,14,13,12,11,10,9,8,6,0,1] Z (jn (ab Z (fun z74=>?_) (fun z74=>?_)))))
 exact absurd (aB z74) (by omega)
 refine ac (aa Z (jf [85,69,67,66,14,13,12,11,10,9,8,6,0,1] Z (jn (ab Z (fun z85=>?_) (fun z85=>?_)))))
 refine aj (ac (js Z (ae (aC O Z Z (by omega)) Z (ae (ar O (ex:=[.int .i64 (pM x c 0)]) Z Z Z Z (hp0 (by omega)) Z) Z (jf [89,69,67,66,14,13,12,11,10,9,8,6,0,1] Z (aS Z ((pq (x:=pM x c 0) h1 h2).plain (u:=eB true) (by rw[hw])) 91000 Z (js Z (jf [91,69,67,66,14,13,12,11,10,9,8,6,0,1] Z (jn (ab Z (fun z91=>?_) (fun z91=>?_)))))))))))
 exact absurd z91 (by decide)
 refine al (jw [69,67,66,14,13,12,11,10,9,8,6,0,1] Z (hZ [_,_,_,_,_,_,_,_,_,_,_,_] [aZ,av [0],av [0,1],av [0,1,2],av (rg 0 4),aZ,av [5],aZ,av [7],av [7,8],av (rg 0 10),pe (rg 0 11) 0] [11] [_,_] (dg Z (dg Z (ai (aC O Z Z (by omega)) (ai (ar O (ex:=[.int .i64 (pM x c 0)]) Z Z Z Z (hp0 (by omega)) Z) (ai (aC O Z Z (by omega)) (ai (cB (ex:=[.int .i64 (c.vars.getD x.a.toNat default)]) (xs':=(ei x c).map (fun n=>[D.int .i64 n])) O Z Z Z Z Z Z Z Z Z Z Z Z Z Z Z (bn (by omega) (Nat.zero_add _)) (by unfold ei;rw[if_pos hx,List.map_set,Nat.zero_add];rfl) Z) trivial)))))) ?_))
 refine jw [69,67,66,14,13,12,11,10,9,8,6,0,1] Z (dK ?_)
 refine aj (ac (aa Z (jf [183,69,67,66,13,12,11,10,9,8,6,0,1] Z (jn (ab Z (fun z183=>?_) (fun z183=>?_))))))
 exact absurd z183 (by decide)
 refine al (ac (aE Z (js Z (ae ((V Z).cast (v':=eI ((l:Nat):Int)) (congrArg eI (by omega))) Z (ae (aY O Z Z Z Z Z Z Z Z Z Z (by omega)) Z (aa Z (jf [192,190,69,67,66,13,12,11,10,9,8,6,0,1] Z (jo Z (ax ?_)))))))))
 refine jf [69,67,66,13,12,11,10,9,8,6,0,1] Z (jn (aj (ac (az (Ent.cut 503 l Z) (ax ?_)))))
 rw[←List.map_take]
 refine aa Z (jn (ab Z (fun z194=>?_) (fun z194=>?_)))
 exact absurd (aB z194) hpu
 refine al (ac (js Z (ae ((V Z).cast (v':=eI (dM x c)) (congrArg eI (by first|exact dO hx (aB z134)|exact dP hx (bo z134)|exact cE (by omega) (by omega)|exact gh hx))) Z (aa Z (jf [208,206,193,69,67,66,13,12,10,9,8,6,0,1] Z (jo Z (ax ?_)))))))
 refine jf [193,69,67,66,13,12,10,9,8,6,0,1] Z (bc (ae ((V Z).cast (v':=eI (cZ x)) (congrArg eI (by first|exact gX (by omega)|exact gY hx))) Z (aa Z (jf [5,4,193,69,67,66,13,10,9,8,6,0,1] Z (jr ?_)))))
 have hnc:cr x c=⟨ei x c,c.cells,c.stack.take l,dM x c⟩:=by unfold cr ei ej g9;simp only[hx,↓reduceIte,reduceCtorEq,if_true,if_false,show¬(2:Int)=8 by decide,show¬(5:Int)=2 by decide,show¬(5:Int)=8 by decide,show¬(6:Int)=2 by decide,show¬(6:Int)=8 by decide,show¬(8:Int)=2 by decide,show¬(9:Int)=2 by decide,show¬(9:Int)=8 by decide,show¬(10:Int)=2 by decide,show¬(10:Int)=8 by decide];rw[if_neg hpu,←hl]
 have hln:(c.stack.take l).length=l:=by rw[List.length_take];omega
 have hvl:(ei x c).length=c.vars.length:=by unfold ei;split<;>simp
 have hcl2:(ej x c).length=c.cells.length:=by unfold ej;split<;>simp
 rw[hnc]
 simp only[df,hln,hvl,hcl2]
 refine⟨.inl trivial,_,aW,_,Z,Z,Z⟩
 exact absurd hx (bo z85)
 have hmv:mv x=(0,0):=by rw[ce hx];decide
 have hpk1:pk=0:=by rw[hmv]at hpm;exact Int.ofNat.inj hpm
 refine au (ac (aa Z (jn (ab Z (fun z68=>?_) (fun z68=>?_)))))
 exact absurd (aB z68) (by omega)
 refine ac (aa Z (jf [70,69,67,66,14,13,12,11,10,9,8,6,0,1] Z (jn (ab Z (fun z70=>?_) (fun z70=>?_)))))
 exact absurd (aB z70) (by omega)
 refine ac (aa Z (jf [74,69,67,66,14,13,12,11,10,9,8,6,0,1] Z (jn (ab Z (fun z74=>?_) (fun z74=>?_)))))
 exact absurd (aB z74) (by omega)
 refine ac (aa Z (jf [85,69,67,66,14,13,12,11,10,9,8,6,0,1] Z (jn (ab Z (fun z85=>?_) (fun z85=>?_)))))
 exact absurd (aB z85) (by omega)
 refine ac (aa Z (jf [103,69,67,66,14,13,12,11,10,9,8,6,0,1] Z (jn (ab Z (fun z103=>?_) (fun z103=>?_)))))
 exact absurd (aB z103) (by omega)
 refine ac (aa Z (jf [114,69,67,66,14,13,12,11,10,9,8,6,0,1] Z (jn (ab Z (fun z114=>?_) (fun z114=>?_)))))
 exact absurd (aB z114) (by omega)
 refine ac (aa Z (jf [125,69,67,66,14,13,12,11,10,9,8,6,0,1] Z (jn (ab Z (fun z125=>?_) (fun z125=>?_)))))
 refine ag (bi Z (jf [11,69,67,66,14,13,12,10,9,8,6,0,1] Z (jn (aj (ac (aa Z (jf [183,11,69,67,66,13,12,10,9,8,6,0,1] Z (jn (ab Z (fun z183=>?_) (fun z183=>?_))))))))))
 exact absurd z183 (by decide)
 refine al (ac (aE Z (js Z (ae ((V Z).cast (v':=eI ((l:Nat):Int)) (congrArg eI (by omega))) Z (ae (aY O Z Z Z Z Z Z Z Z Z Z (by omega)) Z (aa Z (jf [192,190,11,69,67,66,13,12,10,9,8,6,0,1] Z (jo Z (ax ?_)))))))))
 refine jf [11,69,67,66,13,12,10,9,8,6,0,1] Z (jn (aj (ac (az (Ent.cut 503 l Z) (ax ?_)))))
 rw[←List.map_take]
 refine aa Z (jn (ab Z (fun z194=>?_) (fun z194=>?_)))
 exact absurd (aB z194) hpu
 refine al (ac (js Z (ae ((V Z).cast (v':=eI (dM x c)) (congrArg eI (by first|exact dO hx (aB z134)|exact dP hx (bo z134)|exact cE (by omega) (by omega)|exact gh hx))) Z (aa Z (jf [208,206,193,69,67,66,13,12,10,9,8,6,0,1] Z (jo Z (ax ?_)))))))
 refine jf [193,69,67,66,13,12,10,9,8,6,0,1] Z (bc (ae ((V Z).cast (v':=eI (cZ x)) (congrArg eI (by first|exact gX (by omega)|exact gY hx))) Z (aa Z (jf [5,4,193,69,67,66,13,10,9,8,6,0,1] Z (jr ?_)))))
 have hnc:cr x c=⟨c.vars,c.cells,c.stack.take l,dM x c⟩:=by unfold cr ei ej g9;simp only[hx,↓reduceIte,reduceCtorEq,if_true,if_false,show¬(2:Int)=8 by decide,show¬(5:Int)=2 by decide,show¬(5:Int)=8 by decide,show¬(6:Int)=2 by decide,show¬(6:Int)=8 by decide,show¬(8:Int)=2 by decide,show¬(9:Int)=2 by decide,show¬(9:Int)=8 by decide,show¬(10:Int)=2 by decide,show¬(10:Int)=8 by decide];rw[if_neg hpu,←hl]
 have hln:(c.stack.take l).length=l:=by rw[List.length_take];omega
 have hvl:(ei x c).length=c.vars.length:=by unfold ei;split<;>simp
 have hcl2:(ej x c).length=c.cells.length:=by unfold ej;split<;>simp
 rw[hnc]
 simp only[df,hln,hvl,hcl2]
 refine⟨.inl trivial,_,aW,_,Z,Z,Z⟩
 exact absurd hx (bo z125)
 have hmv:mv x=(1,0):=by rw[ce hx];decide
 have hpk1:pk=1:=by rw[hmv]at hpm;exact Int.ofNat.inj hpm
 have hp0:l+0<c.stack.length→(c.stack.map (fun n=>[D.int .i64 n]))[l+0]? = some [.int .i64 (pM x c 0)]:=fun h=>by have:=bn (xs:=c.stack) h rfl;rw[this];unfold pM;rw[←hl]
 refine au (ac (aa Z (jn (ab Z (fun z68=>?_) (fun z68=>?_)))))
 exact absurd (aB z68) (by omega)
 refine ac (aa Z (jf [70,69,67,66,14,13,12,11,10,9,8,6,0,1] Z (jn (ab Z (fun z70=>?_) (fun z70=>?_)))))
 exact absurd (aB z70) (by omega)
 refine ac (aa Z (jf [74,69,67,66,14,13,12,11,10,9,8,6,0,1] Z (jn (ab Z (fun z74=>?_) (fun z74=>?_)))))
 exact absurd (aB z74) (by omega)
 refine ac (aa Z (jf [85,69,67,66,14,13,12,11,10,9,8,6,0,1] Z (jn (ab Z (fun z85=>?_) (fun z85=>?_)))))
 exact absurd (aB z85) (by omega)
 refine ac (aa Z (jf [103,69,67,66,14,13,12,11,10,9,8,6,0,1] Z (jn (ab Z (fun z103=>?_) (fun z103=>?_)))))
 exact absurd (aB z103) (by omega)
 refine ac (aa Z (jf [114,69,67,66,14,13,12,11,10,9,8,6,0,1] Z (jn (ab Z (fun z114=>?_) (fun z114=>?_)))))
 exact absurd (aB z114) (by omega)
 refine ac (aa Z (jf [125,69,67,66,14,13,12,11,10,9,8,6,0,1] Z (jn (ab Z (fun z125=>?_) (fun z125=>?_)))))
 exact absurd (aB z125) (by omega)
 refine ac (aa Z (jf [129,69,67,66,14,13,12,11,10,9,8,6,0,1] Z (jn (ab Z (fun z129=>?_) (fun z129=>?_)))))
 refine ac (js Z (ae (aC O Z Z (by omega)) Z (ae (ar O (ex:=[.int .i64 (pM x c 0)]) Z Z Z Z (hp0 (by omega)) Z) Z (js Z (jf [134,69,67,66,14,13,12,11,10,9,8,6,0,1] Z (jn (ab Z (fun z134=>?_) (fun z134=>?_))))))))
 refine ag (bi Z (jf [11,69,67,66,14,13,12,10,9,8,6,0,1] Z (jn (aj (ac (aa Z (jf [183,11,69,67,66,13,12,10,9,8,6,0,1] Z (jn (ab Z (fun z183=>?_) (fun z183=>?_))))))))))
 exact absurd z183 (by decide)
 refine al (ac (aE Z (js Z (ae ((V Z).cast (v':=eI ((l:Nat):Int)) (congrArg eI (by omega))) Z (ae (aY O Z Z Z Z Z Z Z Z Z Z (by omega)) Z (aa Z (jf [192,190,11,69,67,66,13,12,10,9,8,6,0,1] Z (jo Z (ax ?_)))))))))
 refine jf [11,69,67,66,13,12,10,9,8,6,0,1] Z (jn (aj (ac (az (Ent.cut 503 l Z) (ax ?_)))))
 rw[←List.map_take]
 refine aa Z (jn (ab Z (fun z194=>?_) (fun z194=>?_)))
 exact absurd (aB z194) hpu
 refine al (ac (js Z (ae ((V Z).cast (v':=eI (dM x c)) (congrArg eI (by first|exact dO hx (aB z134)|exact dP hx (bo z134)|exact cE (by omega) (by omega)|exact gh hx))) Z (aa Z (jf [208,206,193,69,67,66,13,12,10,9,8,6,0,1] Z (jo Z (ax ?_)))))))
 refine jf [193,69,67,66,13,12,10,9,8,6,0,1] Z (bc (ae ((V Z).cast (v':=eI (cZ x)) (congrArg eI (by first|exact gX (by omega)|exact gY hx))) Z (aa Z (jf [5,4,193,69,67,66,13,10,9,8,6,0,1] Z (jr ?_)))))
 have hnc:cr x c=⟨c.vars,c.cells,c.stack.take l,dM x c⟩:=by unfold cr ei ej g9;simp only[hx,↓reduceIte,reduceCtorEq,if_true,if_false,show¬(2:Int)=8 by decide,show¬(5:Int)=2 by decide,show¬(5:Int)=8 by decide,show¬(6:Int)=2 by decide,show¬(6:Int)=8 by decide,show¬(8:Int)=2 by decide,show¬(9:Int)=2 by decide,show¬(9:Int)=8 by decide,show¬(10:Int)=2 by decide,show¬(10:Int)=8 by decide];rw[if_neg hpu,←hl]
 have hln:(c.stack.take l).length=l:=by rw[List.length_take];omega
 have hvl:(ei x c).length=c.vars.length:=by unfold ei;split<;>simp
 have hcl2:(ej x c).length=c.cells.length:=by unfold ej;split<;>simp
 rw[hnc]
 simp only[df,hln,hvl,hcl2]
 refine⟨.inl trivial,_,aW,_,Z,Z,Z⟩
 refine al (aj (ac (aa Z (jf [183,69,67,66,13,12,11,10,9,8,6,0,1] Z (jn (ab Z (fun z183=>?_) (fun z183=>?_)))))))
 exact absurd z183 (by decide)
 refine al (ac (aE Z (js Z (ae ((V Z).cast (v':=eI ((l:Nat):Int)) (congrArg eI (by omega))) Z (ae (aY O Z Z Z Z Z Z Z Z Z Z (by omega)) Z (aa Z (jf [192,190,69,67,66,13,12,11,10,9,8,6,0,1] Z (jo Z (ax ?_)))))))))
 refine jf [69,67,66,13,12,11,10,9,8,6,0,1] Z (jn (aj (ac (az (Ent.cut 503 l Z) (ax ?_)))))
 rw[←List.map_take]
 refine aa Z (jn (ab Z (fun z194=>?_) (fun z194=>?_)))
 exact absurd (aB z194) hpu
 refine al (ac (js Z (ae ((V Z).cast (v':=eI (dM x c)) (congrArg eI (by first|exact dO hx (aB z134)|exact dP hx (bo z134)|exact cE (by omega) (by omega)|exact gh hx))) Z (aa Z (jf [208,206,193,69,67,66,13,12,10,9,8,6,0,1] Z (jo Z (ax ?_)))))))
 refine jf [193,69,67,66,13,12,10,9,8,6,0,1] Z (bc (ae ((V Z).cast (v':=eI (cZ x)) (congrArg eI (by first|exact gX (by omega)|exact gY hx))) Z (aa Z (jf [5,4,193,69,67,66,13,10,9,8,6,0,1] Z (jr ?_)))))
 have hnc:cr x c=⟨c.vars,c.cells,c.stack.take l,dM x c⟩:=by unfold cr ei ej g9;simp only[hx,↓reduceIte,reduceCtorEq,if_true,if_false,show¬(2:Int)=8 by decide,show¬(5:Int)=2 by decide,show¬(5:Int)=8 by decide,show¬(6:Int)=2 by decide,show¬(6:Int)=8 by decide,show¬(8:Int)=2 by decide,show¬(9:Int)=2 by decide,show¬(9:Int)=8 by decide,show¬(10:Int)=2 by decide,show¬(10:Int)=8 by decide];rw[if_neg hpu,←hl]
 have hln:(c.stack.take l).length=l:=by rw[List.length_take];omega
 have hvl:(ei x c).length=c.vars.length:=by unfold ei;split<;>simp
 have hcl2:(ej x c).length=c.cells.length:=by unfold ej;split<;>simp
 rw[hnc]
 simp only[df,hln,hvl,hcl2]
 refine⟨.inl trivial,_,aW,_,Z,Z,Z⟩
 exact absurd hx (bo z129)
 have hv4:=hC.vl
 have z8:=hC.cl
 have ho:=hout
 rw[mg hx]at ho
 have hw:bU 0 7 (pM x c 0)=true:=qX (by decide) ho
 rw[if_pos hw]at ho
 have hw2:=kz (by decide) ho
 have hi7:0≤pM x c 0∧pM x c 0≤7:=by unfold bU at hw;simpa using hw
 have hmv:mv x=(2,0):=by rw[ce hx];decide
 have hpk1:pk=2:=by rw[hmv]at hpm;exact Int.ofNat.inj hpm
 have hp0:l+0<c.stack.length→(c.stack.map (fun n=>[D.int .i64 n]))[l+0]? = some [.int .i64 (pM x c 0)]:=fun h=>by have:=bn (xs:=c.stack) h rfl;rw[this];unfold pM;rw[←hl]
 have hp1:l+1<c.stack.length→(c.stack.map (fun n=>[D.int .i64 n]))[l+1]? = some [.int .i64 (pM x c 1)]:=fun h=>by have:=bn (xs:=c.stack) h rfl;rw[this];unfold pM;rw[←hl]
 refine au (ac (aa Z (jn (ab Z (fun z68=>?_) (fun z68=>?_)))))
 exact absurd (aB z68) (by omega)
 refine ac (aa Z (jf [70,69,67,66,14,13,12,11,10,9,8,6,0,1] Z (jn (ab Z (fun z70=>?_) (fun z70=>?_)))))
 exact absurd (aB z70) (by omega)
 refine ac (aa Z (jf [74,69,67,66,14,13,12,11,10,9,8,6,0,1] Z (jn (ab Z (fun z74=>?_) (fun z74=>?_)))))
 exact absurd (aB z74) (by omega)
 refine ac (aa Z (jf [85,69,67,66,14,13,12,11,10,9,8,6,0,1] Z (jn (ab Z (fun z85=>?_) (fun z85=>?_)))))
 exact absurd (aB z85) (by omega)
 refine ac (aa Z (jf [103,69,67,66,14,13,12,11,10,9,8,6,0,1] Z (jn (ab Z (fun z103=>?_) (fun z103=>?_)))))
 exact absurd (aB z103) (by omega)
 refine ac (aa Z (jf [114,69,67,66,14,13,12,11,10,9,8,6,0,1] Z (jn (ab Z (fun z114=>?_) (fun z114=>?_)))))
 exact absurd (aB z114) (by omega)
 refine ac (aa Z (jf [125,69,67,66,14,13,12,11,10,9,8,6,0,1] Z (jn (ab Z (fun z125=>?_) (fun z125=>?_)))))
 exact absurd (aB z125) (by omega)
 refine ac (aa Z (jf [129,69,67,66,14,13,12,11,10,9,8,6,0,1] Z (jn (ab Z (fun z129=>?_) (fun z129=>?_)))))
 exact absurd (aB z129) (by omega)
 refine aj (ac (aa Z (jf [137,69,67,66,14,13,12,11,10,9,8,6,0,1] Z (jn (ab Z (fun z137=>?_) (fun z137=>?_))))))
 exact absurd (aB z137) (by omega)
 refine ag (aa Z (jn (ab Z (fun z137=>?_) (fun z137=>?_))))
 refine ac (js Z (ae (aC O Z Z (by omega)) Z (ae (ar O (ex:=[.int .i64 (pM x c 0)]) Z Z Z Z (hp0 (by omega)) Z) Z (js Z (jf [15,139,69,67,66,14,13,12,11,10,9,8,6,0,1] Z (jn (aj (ac (js Z (aS Z ((fh (x:=pM x c 0) (lo:=0) (hi:=7) h1 h2).plain (u:=eB true) (by rw[hw])) 145000 Z (js Z (jf [145,15,139,69,67,66,14,13,12,11,10,9,8,6,0,1] Z (jn (ab Z (fun z145=>?_) (fun z145=>?_)))))))))))))))
 exact absurd z145 (by decide)
 refine al (ac (bi Z (jf [148,15,139,69,67,66,14,13,12,11,10,9,8,6,0,1] Z (jn (ab Z (fun z148=>?_) (fun z148=>?_))))))
 exact absurd (aB z148) (by omega)
 refine ac (js Z (ae (aC O Z Z (by omega)) Z (ae (ar O (ex:=[.int .i64 (pM x c 1)]) Z Z Z Z (hp1 (by omega)) Z) Z (jf [159,15,139,69,67,66,14,13,12,11,10,9,8,6,0,1] Z (aS Z ((pq (x:=pM x c 1) h1 h2).plain (u:=eB true) (by rw[hw2])) 161000 Z (js Z (jf [161,15,139,69,67,66,14,13,12,11,10,9,8,6,0,1] Z (jn (ab Z (fun z161=>?_) (fun z161=>?_))))))))))
 exact absurd z161 (by decide)
 refine jw [15,139,69,67,66,14,13,12,11,10,9,8,6,0,1] Z (hZ [_,_,_,_,_,_,_,_,_,_,_] [aZ,av [0],av [0,1],av [0,1,2],av (rg 0 4),aZ,aZ,av [6],av [6,7],av (rg 0 9),pe (rg 0 10) 0] [10] [_,_] (dg Z (kc Z (kc Z (kc Z (ai (aC O Z Z (by omega)) (ai (ar O (ex:=[.int .i64 (pM x c 1)]) Z Z Z Z (hp1 (by omega)) Z) (ai (aC O Z Z (by omega)) (ai (cB (ex:=[.int .i64 (c.cells.getD (pM x c 0).toNat default)]) (xs':=(ej x c).map (fun n=>[D.int .i64 n])) O Z Z Z Z Z Z Z Z Z Z Z Z Z Z Z (bn (by omega) (Nat.zero_add _)) (by unfold ej;rw[if_pos hx,List.map_set,Nat.zero_add];rfl) Z) trivial)))))))) ?_)
 refine jw [15,139,69,67,66,14,13,12,11,10,9,8,6,0,1] Z (dK ?_)
 refine aj (ac (aa Z (jf [183,15,139,69,67,66,13,12,11,10,9,8,6,0,1] Z (jn (ab Z (fun z183=>?_) (fun z183=>?_))))))
 exact absurd z183 (by decide)
 refine al (ac (aE Z (js Z (ae ((V Z).cast (v':=eI ((l:Nat):Int)) (congrArg eI (by omega))) Z (ae (aY O Z Z Z Z Z Z Z Z Z Z (by omega)) Z (aa Z (jf [192,190,15,139,69,67,66,13,12,11,10,9,8,6,0,1] Z (jo Z (ax ?_)))))))))
 refine jf [15,139,69,67,66,13,12,11,10,9,8,6,0,1] Z (jn (aj (ac (az (Ent.cut 503 l Z) (ax ?_)))))
 rw[←List.map_take]
 refine aa Z (jn (ab Z (fun z194=>?_) (fun z194=>?_)))
 exact absurd (aB z194) hpu
 refine al (ac (js Z (ae ((V Z).cast (v':=eI (dM x c)) (congrArg eI (by first|exact dO hx (aB z134)|exact dP hx (bo z134)|exact cE (by omega) (by omega)|exact gh hx))) Z (aa Z (jf [208,206,193,15,139,69,67,66,13,12,10,9,8,6,0,1] Z (jo Z (ax ?_)))))))
 refine jf [193,15,139,69,67,66,13,12,10,9,8,6,0,1] Z (bc (ae ((V Z).cast (v':=eI (cZ x)) (congrArg eI (by first|exact gX (by omega)|exact gY hx))) Z (aa Z (jf [5,4,193,15,139,69,67,66,13,10,9,8,6,0,1] Z (jr ?_)))))
 have hnc:cr x c=⟨c.vars,ej x c,c.stack.take l,dM x c⟩:=by unfold cr ei ej g9;simp only[hx,↓reduceIte,reduceCtorEq,if_true,if_false,show¬(2:Int)=8 by decide,show¬(5:Int)=2 by decide,show¬(5:Int)=8 by decide,show¬(6:Int)=2 by decide,show¬(6:Int)=8 by decide,show¬(8:Int)=2 by decide,show¬(9:Int)=2 by decide,show¬(9:Int)=8 by decide,show¬(10:Int)=2 by decide,show¬(10:Int)=8 by decide];rw[if_neg hpu,←hl]
 have hln:(c.stack.take l).length=l:=by rw[List.length_take];omega
 have hvl:(ei x c).length=c.vars.length:=by unfold ei;split<;>simp
 have hcl2:(ej x c).length=c.cells.length:=by unfold ej;split<;>simp
 rw[hnc]
 simp only[df,hln,hvl,hcl2]
 refine⟨.inl trivial,_,aW,_,Z,Z,Z⟩
 exact absurd hx (bo z137)
 have hmv:mv x=(0,0):=by rw[ce hx];decide
 have hpk1:pk=0:=by rw[hmv]at hpm;exact Int.ofNat.inj hpm
 refine au (ac (aa Z (jn (ab Z (fun z68=>?_) (fun z68=>?_)))))
 exact absurd (aB z68) (by omega)
 refine ac (aa Z (jf [70,69,67,66,14,13,12,11,10,9,8,6,0,1] Z (jn (ab Z (fun z70=>?_) (fun z70=>?_)))))
 exact absurd (aB z70) (by omega)
 refine ac (aa Z (jf [74,69,67,66,14,13,12,11,10,9,8,6,0,1] Z (jn (ab Z (fun z74=>?_) (fun z74=>?_)))))
 exact absurd (aB z74) (by omega)
 refine ac (aa Z (jf [85,69,67,66,14,13,12,11,10,9,8,6,0,1] Z (jn (ab Z (fun z85=>?_) (fun z85=>?_)))))
 exact absurd (aB z85) (by omega)
 refine ac (aa Z (jf [103,69,67,66,14,13,12,11,10,9,8,6,0,1] Z (jn (ab Z (fun z103=>?_) (fun z103=>?_)))))
 exact absurd (aB z103) (by omega)
 refine ac (aa Z (jf [114,69,67,66,14,13,12,11,10,9,8,6,0,1] Z (jn (ab Z (fun z114=>?_) (fun z114=>?_)))))
 exact absurd (aB z114) (by omega)
 refine ac (aa Z (jf [125,69,67,66,14,13,12,11,10,9,8,6,0,1] Z (jn (ab Z (fun z125=>?_) (fun z125=>?_)))))
 exact absurd (aB z125) (by omega)
 refine ac (aa Z (jf [129,69,67,66,14,13,12,11,10,9,8,6,0,1] Z (jn (ab Z (fun z129=>?_) (fun z129=>?_)))))
 exact absurd (aB z129) (by omega)
 refine aj (ac (aa Z (jf [137,69,67,66,14,13,12,11,10,9,8,6,0,1] Z (jn (ab Z (fun z137=>?_) (fun z137=>?_))))))
 exact absurd (aB z137) (by omega)
 refine ag (aa Z (jn (ab Z (fun z137=>?_) (fun z137=>?_))))
 exact absurd (aB z137) (by omega)
 refine ac (aa Z (jf [172,139,69,67,66,14,13,12,11,10,9,8,6,0,1] Z (jn (ab Z (fun z172=>?_) (fun z172=>?_)))))
 refine ag (bi Z (jf [12,139,69,67,66,14,13,11,10,9,8,6,0,1] Z (jn (aj (ac (aa Z (jf [183,12,139,69,67,66,13,11,10,9,8,6,0,1] Z (jn (ab Z (fun z183=>?_) (fun z183=>?_))))))))))
 exact absurd z183 (by decide)
 refine al (ac (aE Z (js Z (ae ((V Z).cast (v':=eI ((l:Nat):Int)) (congrArg eI (by omega))) Z (ae (aY O Z Z Z Z Z Z Z Z Z Z (by omega)) Z (aa Z (jf [192,190,12,139,69,67,66,13,11,10,9,8,6,0,1] Z (jo Z (ax ?_)))))))))
 refine jf [12,139,69,67,66,13,11,10,9,8,6,0,1] Z (jn (aj (ac (az (Ent.cut 503 l Z) (ax ?_)))))
 rw[←List.map_take]
 refine aa Z (jn (ab Z (fun z194=>?_) (fun z194=>?_)))
 exact absurd (aB z194) hpu
 refine al (ac (js Z (ae ((V Z).cast (v':=eI (dM x c)) (congrArg eI (by first|exact dO hx (aB z134)|exact dP hx (bo z134)|exact cE (by omega) (by omega)|exact gh hx))) Z (aa Z (jf [208,206,193,12,139,69,67,66,13,10,9,8,6,0,1] Z (jo Z (ax ?_)))))))
 refine jf [193,12,139,69,67,66,13,10,9,8,6,0,1] Z (bc (ae ((V Z).cast (v':=eI (cZ x)) (congrArg eI (by first|exact gX (by omega)|exact gY hx))) Z (aa Z (jf [5,4,193,139,69,67,66,13,10,9,8,6,0,1] Z (jr ?_)))))
 have hnc:cr x c=⟨c.vars,c.cells,c.stack.take l,dM x c⟩:=by unfold cr ei ej g9;simp only[hx,↓reduceIte,reduceCtorEq,if_true,if_false,show¬(2:Int)=8 by decide,show¬(5:Int)=2 by decide,show¬(5:Int)=8 by decide,show¬(6:Int)=2 by decide,show¬(6:Int)=8 by decide,show¬(8:Int)=2 by decide,show¬(9:Int)=2 by decide,show¬(9:Int)=8 by decide,show¬(10:Int)=2 by decide,show¬(10:Int)=8 by decide];rw[if_neg hpu,←hl]
 have hln:(c.stack.take l).length=l:=by rw[List.length_take];omega
 have hvl:(ei x c).length=c.vars.length:=by unfold ei;split<;>simp
 have hcl2:(ej x c).length=c.cells.length:=by unfold ej;split<;>simp
 rw[hnc]
 simp only[df,hln,hvl,hcl2]
 refine⟨.inl trivial,_,aW,_,Z,Z,Z⟩
 exact absurd hx (bo z172)
 have ho:=hout
 rw[lx hx]at ho
 have hw: ¬pM x c 0<0:=fun h=>by rw[if_pos h]at ho;cases ho
 have hmv:mv x=(1,0):=by rw[ce hx];decide
 have hpk1:pk=1:=by rw[hmv]at hpm;exact Int.ofNat.inj hpm
 have hp0:l+0<c.stack.length→(c.stack.map (fun n=>[D.int .i64 n]))[l+0]? = some [.int .i64 (pM x c 0)]:=fun h=>by have:=bn (xs:=c.stack) h rfl;rw[this];unfold pM;rw[←hl]
 refine au (ac (aa Z (jn (ab Z (fun z68=>?_) (fun z68=>?_)))))
 exact absurd (aB z68) (by omega)
 refine ac (aa Z (jf [70,69,67,66,14,13,12,11,10,9,8,6,0,1] Z (jn (ab Z (fun z70=>?_) (fun z70=>?_)))))
 exact absurd (aB z70) (by omega)
 refine ac (aa Z (jf [74,69,67,66,14,13,12,11,10,9,8,6,0,1] Z (jn (ab Z (fun z74=>?_) (fun z74=>?_)))))
 exact absurd (aB z74) (by omega)
 refine ac (aa Z (jf [85,69,67,66,14,13,12,11,10,9,8,6,0,1] Z (jn (ab Z (fun z85=>?_) (fun z85=>?_)))))
 exact absurd (aB z85) (by omega)
 refine ac (aa Z (jf [103,69,67,66,14,13,12,11,10,9,8,6,0,1] Z (jn (ab Z (fun z103=>?_) (fun z103=>?_)))))
 exact absurd (aB z103) (by omega)
 refine ac (aa Z (jf [114,69,67,66,14,13,12,11,10,9,8,6,0,1] Z (jn (ab Z (fun z114=>?_) (fun z114=>?_)))))
 exact absurd (aB z114) (by omega)
 refine ac (aa Z (jf [125,69,67,66,14,13,12,11,10,9,8,6,0,1] Z (jn (ab Z (fun z125=>?_) (fun z125=>?_)))))
 exact absurd (aB z125) (by omega)
 refine ac (aa Z (jf [129,69,67,66,14,13,12,11,10,9,8,6,0,1] Z (jn (ab Z (fun z129=>?_) (fun z129=>?_)))))
 exact absurd (aB z129) (by omega)
 refine aj (ac (aa Z (jf [137,69,67,66,14,13,12,11,10,9,8,6,0,1] Z (jn (ab Z (fun z137=>?_) (fun z137=>?_))))))
 exact absurd (aB z137) (by omega)
 refine ag (aa Z (jn (ab Z (fun z137=>?_) (fun z137=>?_))))
 exact absurd (aB z137) (by omega)
 refine ac (aa Z (jf [172,139,69,67,66,14,13,12,11,10,9,8,6,0,1] Z (jn (ab Z (fun z172=>?_) (fun z172=>?_)))))
 exact absurd (aB z172) (by omega)
 refine ac (aa Z (jf [176,139,69,67,66,14,13,12,11,10,9,8,6,0,1] Z (jn (ab Z (fun z176=>?_) (fun z176=>?_)))))
 refine ac (js Z (ae (aC O Z Z (by omega)) Z (ae (ar O (ex:=[.int .i64 (pM x c 0)]) Z Z Z Z (hp0 (by omega)) Z) Z (js Z (jf [181,139,69,67,66,14,13,12,11,10,9,8,6,0,1] Z (jn (ab Z (fun z181=>?_) (fun z181=>?_))))))))
 exact absurd (aB z181) hw
 refine al (aj (ac (aa Z (jf [183,139,69,67,66,13,12,11,10,9,8,6,0,1] Z (jn (ab Z (fun z183=>?_) (fun z183=>?_)))))))
 exact absurd z183 (by decide)
 refine al (ac (aE Z (js Z (ae ((V Z).cast (v':=eI ((l:Nat):Int)) (congrArg eI (by omega))) Z (ae (aY O Z Z Z Z Z Z Z Z Z Z (by omega)) Z (aa Z (jf [192,190,139,69,67,66,13,12,11,10,9,8,6,0,1] Z (jo Z (ax ?_)))))))))
 refine jf [139,69,67,66,13,12,11,10,9,8,6,0,1] Z (jn (aj (ac (az (Ent.cut 503 l Z) (ax ?_)))))
 rw[←List.map_take]
 refine aa Z (jn (ab Z (fun z194=>?_) (fun z194=>?_)))
 exact absurd (aB z194) hpu
 refine al (ac (js Z (ae ((V Z).cast (v':=eI (dM x c)) (congrArg eI (by first|exact dO hx (aB z134)|exact dP hx (bo z134)|exact cE (by omega) (by omega)|exact gh hx))) Z (aa Z (jf [208,206,193,139,69,67,66,13,12,10,9,8,6,0,1] Z (jo Z (ax ?_)))))))
 refine jf [193,139,69,67,66,13,12,10,9,8,6,0,1] Z (bc (ae ((V Z).cast (v':=eI (cZ x)) (congrArg eI (by first|exact gX (by omega)|exact gY hx))) Z (aa Z (jf [5,4,193,139,69,67,66,13,10,9,8,6,0,1] Z (jr ?_)))))
 have hnc:cr x c=⟨c.vars,c.cells,c.stack.take l,dM x c⟩:=by unfold cr ei ej g9;simp only[hx,↓reduceIte,reduceCtorEq,if_true,if_false,show¬(2:Int)=8 by decide,show¬(5:Int)=2 by decide,show¬(5:Int)=8 by decide,show¬(6:Int)=2 by decide,show¬(6:Int)=8 by decide,show¬(8:Int)=2 by decide,show¬(9:Int)=2 by decide,show¬(9:Int)=8 by decide,show¬(10:Int)=2 by decide,show¬(10:Int)=8 by decide];rw[if_neg hpu,←hl]
 have hln:(c.stack.take l).length=l:=by rw[List.length_take];omega
 have hvl:(ei x c).length=c.vars.length:=by unfold ei;split<;>simp
 have hcl2:(ej x c).length=c.cells.length:=by unfold ej;split<;>simp
 rw[hnc]
 simp only[df,hln,hvl,hcl2]
 refine⟨.inl trivial,_,aW,_,Z,Z,Z⟩
 exact absurd hx (bo z176)
theorem ir{c:Cf}(hcl:code.length≤1000)(hat: ¬(0≤c.at_∧c.at_<code.length)):MQ h1 h2 85 [.c (.pt 0 0 0),aJ code] (jS c ev cnt o) (bV (.tup [eI 5,eI (-1)]) (jS c ev cnt o)):=by
 refine MC.shift 500 Z (MC.keep [500,501,502,503,504,505] (bs:=[df c c.stack.length ev cnt o 501 502 503 504 505,am c.vars,am c.cells,am c.stack,am ev,am cnt]) Z Z (jH 210 [500,501,502,503,504,505] h1 h2 Tryz.func85 Z fun O hF=>?_))
 refine dK ?_
 refine ac (aa Z (jn (aj (ac (aE Z (js Z ?_))))))
 first|refine cW Z ?_|refine js Z ?_|refine bP Z Z ?_
 refine jf [21,19,5,4,0,1] Z (aS Z ((rE (k:=c.at_) (n:=code.length) h1 h2 (by omega)).plain (u:=eB false) (congrArg eB (by rw[←Bool.not_eq_true];exact fun h=>hat (mH.1 h)))) 23000 Z (js Z (jf [23,5,4,0,1] Z (jn (ab Z (fun z23=>?_) (fun z23=>?_))))))
 refine ac (aa Z (jr ?_))
 refine⟨.inl Z,_,aW,_,Z,Z,Z⟩
 exact absurd z23 (by decide)
theorem iv{c:Cf}(hC:COk c)(hcl:code.length≤1000)(hix:aw x=true)(hat:0≤c.at_∧c.at_<code.length)(hcx:x=code.getD c.at_.toNat default)(hlo:b9 x c.stack.length=true):MQ h1 h2 85 [.c (.pt 0 0 0),aJ code] (jS c ev cnt o) (bV (.tup [eI 5,eI (-1)]) (jS c ev cnt o)):=by
 refine MC.shift 500 Z (MC.keep [500,501,502,503,504,505] (bs:=[df c c.stack.length ev cnt o 501 502 503 504 505,am c.vars,am c.cells,am c.stack,am ev,am cnt]) Z Z (jH 210 [500,501,502,503,504,505] h1 h2 Tryz.func85 Z fun O hF=>?_))
 refine dK ?_
 have hmi:=dQ (x:=x)
 have hsl:=hC.sl
 obtain⟨pk,hpk⟩: ∃pk,pk=jO x:=⟨_,rfl⟩
 have hpm:(pk:Int)=(mv x).1:=by rw[hpk];unfold jO;omega
 obtain⟨l,hl⟩: ∃l,l=gy x c.stack.length:=⟨_,rfl⟩
 refine ac (aa Z (jn (aj (ac (aE Z (js Z ?_))))))
 first|refine cW Z ?_|refine js Z ?_|refine bP Z Z ?_
 refine jf [21,19,5,4,0,1] Z (aS Z ((rE (k:=c.at_) (n:=code.length) h1 h2 (by omega)).plain (u:=eB true) (congrArg eB (mH.2 hat))) 23000 Z (js Z (jf [23,5,4,0,1] Z (jn (ab Z (fun z23=>?_) (fun z23=>?_))))))
 exact absurd z23 (by decide)
 refine al (ac (aE Z (js Z (ae ((ck O Z Z Z Z Z Z Z Z (by omega) (dY (by omega) (by omega))).cast (v':=ptr (In.cells x)) (by rw[hcx])) Z (js Z (jf [30,5,4,0,1] Z (jl Z (ax ?_))))))))
 refine jo Z (ax ?_)
 refine az (Ent.freeze 6 (e':=[(6,_),(0,_),(1,_)]) Z (.cons Z (.c (.box (cs:=In.cells x) Z (aQ Z))) (fe [0,1] Z)) (.skip (gf Z (cU Z (cU Z (cU Z (cU Z (cU Z .nil)))))))) ?_
 refine ax ?_
 refine bc (js Z (af O Z Z Z Z (kD (x:=x) h1 h2) (ak Z) Z Z Z Z (B0:=34000) Z Z (aE Z (js Z (jf [8,7,6,0,1] Z (bc (aE Z ?_)))))))
 first|refine cW Z ?_|refine js Z ?_|refine bP Z Z ?_
 refine js Z (ae ((ah O Z Z (by omega) (by omega)).cast (v':=eI ((c.stack.length:Int)-(mv x).1)) Z) Z (js Z (jf [9,8,6,0,1] Z (jn (aj (ac (bi Z (jf [45,9,8,6,0,1] Z (bz 8 Z Z Z (fun hx=>ba hx Z (ba hx Z (ba hx Z (iy 4 Z Z Z Z (fun hx'=>ba hx' Z (ba hx' Z (dz hx' (vF Z) Z (ba hx' Z (AN.nil))))) Z Z (dz hx (aU O Z Z Z Z Z) Z (AN.nil)))))) Z Z ?_)))))))))
 first|refine ae (bq O Z Z Z Z Z) Z ?_|refine ae (Val.pickB O Z Z Z Z Z) Z ?_|refine ae (aU O Z Z Z Z Z) Z ?_
 refine jf [54,9,8,6,0,1] Z (jn (ab Z (fun z54=>?_) (fun z54=>?_)))
 refine ac (aa Z (jr ?_))
 refine⟨.inl Z,_,aW,_,Z,Z,Z⟩
 exact absurd (show b9 x c.stack.length=false from z54) (by rw[hlo];decide)
theorem iw{c:Cf}(hC:COk c)(hcl:code.length≤1000)(hix:aw x=true)(hat:0≤c.at_∧c.at_<code.length)(hcx:x=code.getD c.at_.toNat default)(hlo:b9 x c.stack.length=false)(hout:bb x c≠0):MQ h1 h2 85 [.c (.pt 0 0 0),aJ code] (jS c ev cnt o) (bV (.tup [eI (bb x c),eI (-1)]) (jS c ev cnt o)):=by
 refine MC.shift 500 Z (MC.keep [500,501,502,503,504,505] (bs:=[df c c.stack.length ev cnt o 501 502 503 504 505,am c.vars,am c.cells,am c.stack,am ev,am cnt]) Z Z (jH 210 [500,501,502,503,504,505] h1 h2 Tryz.func85 Z fun O hF=>?_))
 refine dK ?_
 have hmi:=dQ (x:=x)
 have hsl:=hC.sl
 obtain⟨pk,hpk⟩: ∃pk,pk=jO x:=⟨_,rfl⟩
 have hpm:(pk:Int)=(mv x).1:=by rw[hpk];unfold jO;omega
 obtain⟨l,hl⟩: ∃l,l=gy x c.stack.length:=⟨_,rfl⟩
 obtain⟨hl0,hl1⟩:=mi hlo
 have hlp:l+pk=c.stack.length:=by rw[hl,hpk];unfold gy jO;omega
 refine ac (aa Z (jn (aj (ac (aE Z (js Z ?_))))))
 first|refine cW Z ?_|refine js Z ?_|refine bP Z Z ?_
 refine jf [21,19,5,4,0,1] Z (aS Z ((rE (k:=c.at_) (n:=code.length) h1 h2 (by omega)).plain (u:=eB true) (congrArg eB (mH.2 hat))) 23000 Z (js Z (jf [23,5,4,0,1] Z (jn (ab Z (fun z23=>?_) (fun z23=>?_))))))
 exact absurd z23 (by decide)
 refine al (ac (aE Z (js Z (ae ((ck O Z Z Z Z Z Z Z Z (by omega) (dY (by omega) (by omega))).cast (v':=ptr (In.cells x)) (by rw[hcx])) Z (js Z (jf [30,5,4,0,1] Z (jl Z (ax ?_))))))))
 refine jo Z (ax ?_)
 refine az (Ent.freeze 6 (e':=[(6,_),(0,_),(1,_)]) Z (.cons Z (.c (.box (cs:=In.cells x) Z (aQ Z))) (fe [0,1] Z)) (.skip (gf Z (cU Z (cU Z (cU Z (cU Z (cU Z .nil)))))))) ?_
 refine ax ?_
 refine bc (js Z (af O Z Z Z Z (kD (x:=x) h1 h2) (ak Z) Z Z Z Z (B0:=34000) Z Z (aE Z (js Z (jf [8,7,6,0,1] Z (bc (aE Z ?_)))))))
 first|refine cW Z ?_|refine js Z ?_|refine bP Z Z ?_
 refine js Z (ae ((ah O Z Z (by omega) (by omega)).cast (v':=eI ((c.stack.length:Int)-(mv x).1)) Z) Z (js Z (jf [9,8,6,0,1] Z (jn (aj (ac (bi Z (jf [45,9,8,6,0,1] Z (bz 8 Z Z Z (fun hx=>ba hx Z (ba hx Z (ba hx Z (iy 4 Z Z Z Z (fun hx'=>ba hx' Z (ba hx' Z (dz hx' (vF Z) Z (ba hx' Z (AN.nil))))) Z Z (dz hx (aU O Z Z Z Z Z) Z (AN.nil)))))) Z Z ?_)))))))))
 first|refine ae (bq O Z Z Z Z Z) Z ?_|refine ae (Val.pickB O Z Z Z Z Z) Z ?_|refine ae (aU O Z Z Z Z Z) Z ?_
 refine jf [54,9,8,6,0,1] Z (jn (ab Z (fun z54=>?_) (fun z54=>?_)))
 exact absurd (show b9 x c.stack.length=true from z54) (by rw[hlo];decide)
 refine al (aj (jw [9,8,6,0,1] Z (hZ [_,_,_,_,_,_,_,_,_,_,_,_,_,_] [aZ,av [0],av [0,1],av [0,1,2],aZ,av (rg 0 5),aZ,av [6],av [6,7],av [6,7,8],av (rg 6 4),av (rg 0 6),av (rg 0 12),av (rg 0 13)] [] [_] (dg Z (ai ((V Z).cast (v':=eI ((l:Nat):Int)) (congrArg eI (by omega))) (ai ((aC O Z Z (by omega)).cast (v':=.c (.rs 503 l pk)) (by show A.c (.rs 503 _ _)=_;rw[Nat.zero_add,Int.toNat_natCast,show c.stack.length-l=pk by omega])) (dg Z (ai (ah O Z Z (by omega) (by omega)) (kc Z (kc Z (kc Z trivial)))))))) ?_)))
 refine jw [12,11,10,9,8,6,0,1] Z (dK ?_)
 refine ac (js Z (bc (js Z (jn (aj (ac (aa Z (jn ?_))))))))
 rcases p8 hix hout with hf|hf|hf|hf|hf|hf|hf|hf
 have hx:=hf
 have hmv:mv x=(0,0):=by rw[ce hx];decide
 have hpk1:pk=0:=by rw[hmv]at hpm;exact Int.ofNat.inj hpm
 refine au (ac (aa Z (jn (ab Z (fun z68=>?_) (fun z68=>?_)))))
 refine ac (aa Z (jr ?_))
 rw[show bb x c=6 from lw hx]
 refine⟨.inl Z,_,aW,_,Z,Z,Z⟩
 exact absurd hx (bo z68)
 obtain⟨hx,hw⟩:=hf
 have hmv:mv x=(1,0):=by rw[ce hx];decide
 have hpk1:pk=1:=by rw[hmv]at hpm;exact Int.ofNat.inj hpm
 have hp0:l+0<c.stack.length→(c.stack.map (fun n=>[D.int .i64 n]))[l+0]? = some [.int .i64 (pM x c 0)]:=fun h=>by have:=bn (xs:=c.stack) h rfl;rw[this];unfold pM;rw[←hl]
 refine au (ac (aa Z (jn (ab Z (fun z68=>?_) (fun z68=>?_)))))
 exact absurd (aB z68) (by omega)
 refine ac (aa Z (jf [70,69,67,66,14,13,12,11,10,9,8,6,0,1] Z (jn (ab Z (fun z70=>?_) (fun z70=>?_)))))
 exact absurd (aB z70) (by omega)
 refine ac (aa Z (jf [74,69,67,66,14,13,12,11,10,9,8,6,0,1] Z (jn (ab Z (fun z74=>?_) (fun z74=>?_)))))
 exact absurd (aB z74) (by omega)
 refine ac (aa Z (jf [85,69,67,66,14,13,12,11,10,9,8,6,0,1] Z (jn (ab Z (fun z85=>?_) (fun z85=>?_)))))
 refine aj (ac (js Z (ae (aC O Z Z (by omega)) Z (ae (ar O (ex:=[.int .i64 (pM x c 0)]) Z Z Z Z (hp0 (by omega)) Z) Z (jf [89,69,67,66,14,13,12,11,10,9,8,6,0,1] Z (aS Z ((pq (x:=pM x c 0) h1 h2).plain (u:=eB false) (by rw[hw])) 91000 Z (js Z (jf [91,69,67,66,14,13,12,11,10,9,8,6,0,1] Z (jn (ab Z (fun z91=>?_) (fun z91=>?_)))))))))))
 refine ac (aa Z (jr ?_))
 rw[show bb x c=4 from by rw[nM hx,hw];rfl]
 refine⟨.inl Z,_,aW,_,Z,Z,Z⟩
 exact absurd z91 (by decide)
 exact absurd hx (bo z85)
 obtain⟨hx,hw⟩:=hf
 have hmv:mv x=(2,1):=by rw[ce hx];decide
 have hpk1:pk=2:=by rw[hmv]at hpm;exact Int.ofNat.inj hpm
 have hp0:l+0<c.stack.length→(c.stack.map (fun n=>[D.int .i64 n]))[l+0]? = some [.int .i64 (pM x c 0)]:=fun h=>by have:=bn (xs:=c.stack) h rfl;rw[this];unfold pM;rw[←hl]
 have hp1:l+1<c.stack.length→(c.stack.map (fun n=>[D.int .i64 n]))[l+1]? = some [.int .i64 (pM x c 1)]:=fun h=>by have:=bn (xs:=c.stack) h rfl;rw[this];unfold pM;rw[←hl]
 refine au (ac (aa Z (jn (ab Z (fun z68=>?_) (fun z68=>?_)))))
 exact absurd (aB z68) (by omega)
 refine ac (aa Z (jf [70,69,67,66,14,13,12,11,10,9,8,6,0,1] Z (jn (ab Z (fun z70=>?_) (fun z70=>?_)))))
 exact absurd (aB z70) (by omega)
 refine ac (aa Z (jf [74,69,67,66,14,13,12,11,10,9,8,6,0,1] Z (jn (ab Z (fun z74=>?_) (fun z74=>?_)))))
 exact absurd (aB z74) (by omega)
 refine ac (aa Z (jf [85,69,67,66,14,13,12,11,10,9,8,6,0,1] Z (jn (ab Z (fun z85=>?_) (fun z85=>?_)))))
 exact absurd (aB z85) (by omega)
 refine ac (aa Z (jf [103,69,67,66,14,13,12,11,10,9,8,6,0,1] Z (jn (ab Z (fun z103=>?_) (fun z103=>?_)))))
 refine aj (jw [69,67,66,14,12,11,10,9,8,6,0,1] Z (hZ [_,_,_,_,_,_,_,_] [aZ,av [0],av [0,1],aZ,av [3],av [3,4],av (rg 0 6),av (rg 0 7)] [] [_] (kc Z (ai (aC O Z Z (by omega)) (ai (ar O (ex:=[.int .i64 (pM x c 0)]) Z Z Z Z (hp0 (by omega)) Z) (kc Z (ai (aC O Z Z (by omega)) (ai (ar O (ex:=[.int .i64 (pM x c 1)]) Z Z Z Z (hp1 (by omega)) Z) (ai (ah O Z Z (by have:=kH.1 (hC.pw (x:=x) (j:=0) (by rw[←hl];omega));have:=kH.1 (hC.pw (x:=x) (j:=1) (by rw[←hl];omega));omega) (by have:=kH.1 (hC.pw (x:=x) (j:=0) (by rw[←hl];omega));have:=kH.1 (hC.pw (x:=x) (j:=1) (by rw[←hl];omega));omega)) (kc Z trivial)))))))) ?_))
 refine jw [13,69,67,66,14,12,11,10,9,8,6,0,1] Z (dK ?_)
 refine ag (js Z (aS Z ((mo (n:=pM x c 0+pM x c 1) h1 h2).plain (u:=eB false) (by rw[hw])) 114000 Z (js Z (jf [14,13,69,67,66,12,11,10,9,8,6,0,1] Z (jn (aj (ac (aa Z (jf [183,13,69,67,66,12,11,10,9,8,6,0,1] Z (jn (ab Z (fun z183=>?_) (fun z183=>?_))))))))))))
 refine ac (aa Z (jr ?_))
 rw[show bb x c=4 from by rw[nL hx,hw];rfl]
 refine⟨.inl Z,_,aW,_,Z,Z,Z⟩
 exact absurd z183 (by decide)
 exact absurd hx (bo z103)
 obtain⟨hx,hw⟩:=hf
 have hmv:mv x=(1,1):=by rw[ce hx];decide
 have hpk1:pk=1:=by rw[hmv]at hpm;exact Int.ofNat.inj hpm
 have hp0:l+0<c.stack.length→(c.stack.map (fun n=>[D.int .i64 n]))[l+0]? = some [.int .i64 (pM x c 0)]:=fun h=>by have:=bn (xs:=c.stack) h rfl;rw[this];unfold pM;rw[←hl]
 refine au (ac (aa Z (jn (ab Z (fun z68=>?_) (fun z68=>?_)))))
 exact absurd (aB z68) (by omega)
 refine ac (aa Z (jf [70,69,67,66,14,13,12,11,10,9,8,6,0,1] Z (jn (ab Z (fun z70=>?_) (fun z70=>?_)))))
 exact absurd (aB z70) (by omega)
 refine ac (aa Z (jf [74,69,67,66,14,13,12,11,10,9,8,6,0,1] Z (jn (ab Z (fun z74=>?_) (fun z74=>?_)))))
 exact absurd (aB z74) (by omega)
 refine ac (aa Z (jf [85,69,67,66,14,13,12,11,10,9,8,6,0,1] Z (jn (ab Z (fun z85=>?_) (fun z85=>?_)))))
 exact absurd (aB z85) (by omega)
 refine ac (aa Z (jf [103,69,67,66,14,13,12,11,10,9,8,6,0,1] Z (jn (ab Z (fun z103=>?_) (fun z103=>?_)))))
 exact absurd (aB z103) (by omega)
 refine ac (aa Z (jf [114,69,67,66,14,13,12,11,10,9,8,6,0,1] Z (jn (ab Z (fun z114=>?_) (fun z114=>?_)))))
 refine jw [69,67,66,12,11,10,9,8,6,0,1] Z (hZ [_,_,_,_,_,_,_,_,_,_,_] [aZ,av [0],av [0,1],aZ,av [3],pe (rg 0 5) 0,pn (rg 0 6) 1 1,pn (rg 0 7) 1 1,pn (rg 0 7) 1 1,pn (rg 0 8) 1 1,pn (rg 0 10) 1 1] [5] [_,_] (kc Z (ai (aC O Z Z (by omega)) (ai (ar O (ex:=[.int .i64 (pM x c 0)]) Z Z Z Z (hp0 (by omega)) Z) (kc Z (kc Z (ai (d9 O (B0:=123000) Z Z Z Z ((qz (n:=pM x c 0) (b:=x.a) h1 h2 (hC.pw (by rw[←hl];omega)) (nV hix (.inr hx))).plain (u:=.tup [eI 0,eB false]) (by unfold qE;rw[if_neg (by rw[hw];decide)])) (ak Z) Z Z Z Z Z) (dg Z (kc Z trivial)))))))) ?_)
 refine jw [14,13,69,67,66,12,11,10,9,8,6,0,1] Z (dK ?_)
 refine aj (ac (aa Z (jf [183,13,69,67,66,12,11,10,9,8,6,0,1] Z (jn (ab Z (fun z183=>?_) (fun z183=>?_))))))
 refine ac (aa Z (jr ?_))
 rw[show bb x c=4 from by rw[nK hx,hw];rfl]
 refine⟨.inl Z,_,aW,_,Z,Z,Z⟩
 exact absurd z183 (by decide)
 exact absurd hx (bo z114)
 obtain⟨hx,hw⟩:=hf
 have hmv:mv x=(1,1):=by rw[ce hx];decide
 have hpk1:pk=1:=by rw[hmv]at hpm;exact Int.ofNat.inj hpm
 have hp0:l+0<c.stack.length→(c.stack.map (fun n=>[D.int .i64 n]))[l+0]? = some [.int .i64 (pM x c 0)]:=fun h=>by have:=bn (xs:=c.stack) h rfl;rw[this];unfold pM;rw[←hl]
 refine au (ac (aa Z (jn (ab Z (fun z68=>?_) (fun z68=>?_)))))
 exact absurd (aB z68) (by omega)
 refine ac (aa Z (jf [70,69,67,66,14,13,12,11,10,9,8,6,0,1] Z (jn (ab Z (fun z70=>?_) (fun z70=>?_)))))
 exact absurd (aB z70) (by omega)
 refine ac (aa Z (jf [74,69,67,66,14,13,12,11,10,9,8,6,0,1] Z (jn (ab Z (fun z74=>?_) (fun z74=>?_)))))
 exact absurd (aB z74) (by omega)
 refine ac (aa Z (jf [85,69,67,66,14,13,12,11,10,9,8,6,0,1] Z (jn (ab Z (fun z85=>?_) (fun z85=>?_)))))
 exact absurd (aB z85) (by omega)
 refine ac (aa Z (jf [103,69,67,66,14,13,12,11,10,9,8,6,0,1] Z (jn (ab Z (fun z103=>?_) (fun z103=>?_)))))
 exact absurd (aB z103) (by omega)
 refine ac (aa Z (jf [114,69,67,66,14,13,12,11,10,9,8,6,0,1] Z (jn (ab Z (fun z114=>?_) (fun z114=>?_)))))
 exact absurd (aB z114) (by omega)
 refine ac (aa Z (jf [125,69,67,66,14,13,12,11,10,9,8,6,0,1] Z (jn (ab Z (fun z125=>?_) (fun z125=>?_)))))
 exact absurd (aB z125) (by omega)
 refine ac (aa Z (jf [129,69,67,66,14,13,12,11,10,9,8,6,0,1] Z (jn (ab Z (fun z129=>?_) (fun z129=>?_)))))
 exact absurd (aB z129) (by omega)
 refine aj (ac (aa Z (jf [137,69,67,66,14,13,12,11,10,9,8,6,0,1] Z (jn (ab Z (fun z137=>?_) (fun z137=>?_))))))
 refine al (ab Z (fun z137=>?_) (fun z137=>?_))
 refine ac (js Z (ae (aC O Z Z (by omega)) Z (ae (ar O (ex:=[.int .i64 (pM x c 0)]) Z Z Z Z (hp0 (by omega)) Z) Z (js Z (jf [15,69,67,66,14,13,12,11,10,9,8,6,0,1] Z (jn (aj (ac (js Z (aS Z ((fh (x:=pM x c 0) (lo:=0) (hi:=7) h1 h2).plain (u:=eB false) (by rw[hw])) 145000 Z (js Z (jf [145,15,69,67,66,14,13,12,11,10,9,8,6,0,1] Z (jn (ab Z (fun z145=>?_) (fun z145=>?_)))))))))))))))
 refine ac (aa Z (jr ?_))
 rw[show bb x c=2 from by rw[nJ hx,hw];rfl]
 refine⟨.inl Z,_,aW,_,Z,Z,Z⟩
 exact absurd z145 (by decide)
 exact absurd hx (bo z137)
 exact absurd hx (bo z137)
 obtain⟨hx,hw⟩:=hf
 have hmv:mv x=(2,0):=by rw[ce hx];decide
 have hpk1:pk=2:=by rw[hmv]at hpm;exact Int.ofNat.inj hpm
 have hp0:l+0<c.stack.length→(c.stack.map (fun n=>[D.int .i64 n]))[l+0]? = some [.int .i64 (pM x c 0)]:=fun h=>by have:=bn (xs:=c.stack) h rfl;rw[this];unfold pM;rw[←hl]
 have hp1:l+1<c.stack.length→(c.stack.map (fun n=>[D.int .i64 n]))[l+1]? = some [.int .i64 (pM x c 1)]:=fun h=>by have:=bn (xs:=c.stack) h rfl;rw[this];unfold pM;rw[←hl]
 refine au (ac (aa Z (jn (ab Z (fun z68=>?_) (fun z68=>?_)))))
 exact absurd (aB z68) (by omega)
 refine ac (aa Z (jf [70,69,67,66,14,13,12,11,10,9,8,6,0,1] Z (jn (ab Z (fun z70=>?_) (fun z70=>?_)))))
 exact absurd (aB z70) (by omega)
 refine ac (aa Z (jf [74,69,67,66,14,13,12,11,10,9,8,6,0,1] Z (jn (ab Z (fun z74=>?_) (fun z74=>?_)))))
 exact absurd (aB z74) (by omega)
 refine ac (aa Z (jf [85,69,67,66,14,13,12,11,10,9,8,6,0,1] Z (jn (ab Z (fun z85=>?_) (fun z85=>?_)))))
 exact absurd (aB z85) (by omega)
 refine ac (aa Z (jf [103,69,67,66,14,13,12,11,10,9,8,6,0,1] Z (jn (ab Z (fun z103=>?_) (fun z103=>?_)))))
 exact absurd (aB z103) (by omega)
 refine ac (aa Z (jf [114,69,67,66,14,13,12,11,10,9,8,6,0,1] Z (jn (ab Z (fun z114=>?_) (fun z114=>?_)))))
 exact absurd (aB z114) (by omega)
 refine ac (aa Z (jf [125,69,67,66,14,13,12,11,10,9,8,6,0,1] Z (jn (ab Z (fun z125=>?_) (fun z125=>?_)))))
 exact absurd (aB z125) (by omega)
 refine ac (aa Z (jf [129,69,67,66,14,13,12,11,10,9,8,6,0,1] Z (jn (ab Z (fun z129=>?_) (fun z129=>?_)))))
 exact absurd (aB z129) (by omega)
 refine aj (ac (aa Z (jf [137,69,67,66,14,13,12,11,10,9,8,6,0,1] Z (jn (ab Z (fun z137=>?_) (fun z137=>?_))))))
 exact absurd (aB z137) (by omega)
 refine ag (aa Z (jn (ab Z (fun z137=>?_) (fun z137=>?_))))
 refine ac (js Z (ae (aC O Z Z (by omega)) Z (ae (ar O (ex:=[.int .i64 (pM x c 0)]) Z Z Z Z (hp0 (by omega)) Z) Z (js Z (jf [15,139,69,67,66,14,13,12,11,10,9,8,6,0,1] Z (jn (aj (ac (js Z (aS Z ((fh (x:=pM x c 0) (lo:=0) (hi:=7) h1 h2).plain (u:=eB false) (by rw[hw])) 145000 Z (js Z (jf [145,15,139,69,67,66,14,13,12,11,10,9,8,6,0,1] Z (jn (ab Z (fun z145=>?_) (fun z145=>?_)))))))))))))))
 refine ac (aa Z (jr ?_))
 rw[show bb x c=2 from by rw[mg hx,hw];rfl]
 refine⟨.inl Z,_,aW,_,Z,Z,Z⟩
 exact absurd z145 (by decide)
 exact absurd hx (bo z137)
 obtain⟨hx,hw⟩:=hf
 have hmv:mv x=(2,0):=by rw[ce hx];decide
 have hpk1:pk=2:=by rw[hmv]at hpm;exact Int.ofNat.inj hpm
 have hp0:l+0<c.stack.length→(c.stack.map (fun n=>[D.int .i64 n]))[l+0]? = some [.int .i64 (pM x c 0)]:=fun h=>by have:=bn (xs:=c.stack) h rfl;rw[this];unfold pM;rw[←hl]
 have hp1:l+1<c.stack.length→(c.stack.map (fun n=>[D.int .i64 n]))[l+1]? = some [.int .i64 (pM x c 1)]:=fun h=>by have:=bn (xs:=c.stack) h rfl;rw[this];unfold pM;rw[←hl]
 refine au (ac (aa Z (jn (ab Z (fun z68=>?_) (fun z68=>?_)))))
 exact absurd (aB z68) (by omega)
 refine ac (aa Z (jf [70,69,67,66,14,13,12,11,10,9,8,6,0,1] Z (jn (ab Z (fun z70=>?_) (fun z70=>?_)))))
 exact absurd (aB z70) (by omega)
 refine ac (aa Z (jf [74,69,67,66,14,13,12,11,10,9,8,6,0,1] Z (jn (ab Z (fun z74=>?_) (fun z74=>?_)))))
 exact absurd (aB z74) (by omega)
 refine ac (aa Z (jf [85,69,67,66,14,13,12,11,10,9,8,6,0,1] Z (jn (ab Z (fun z85=>?_) (fun z85=>?_)))))
 exact absurd (aB z85) (by omega)
 refine ac (aa Z (jf [103,69,67,66,14,13,12,11,10,9,8,6,0,1] Z (jn (ab Z (fun z103=>?_) (fun z103=>?_)))))
 exact absurd (aB z103) (by omega)
 refine ac (aa Z (jf [114,69,67,66,14,13,12,11,10,9,8,6,0,1] Z (jn (ab Z (fun z114=>?_) (fun z114=>?_)))))
 exact absurd (aB z114) (by omega)
 refine ac (aa Z (jf [125,69,67,66,14,13,12,11,10,9,8,6,0,1] Z (jn (ab Z (fun z125=>?_) (fun z125=>?_)))))
 exact absurd (aB z125) (by omega)
 refine ac (aa Z (jf [129,69,67,66,14,13,12,11,10,9,8,6,0,1] Z (jn (ab Z (fun z129=>?_) (fun z129=>?_)))))
 exact absurd (aB z129) (by omega)
 refine aj (ac (aa Z (jf [137,69,67,66,14,13,12,11,10,9,8,6,0,1] Z (jn (ab Z (fun z137=>?_) (fun z137=>?_))))))
 exact absurd (aB z137) (by omega)
 refine ag (aa Z (jn (ab Z (fun z137=>?_) (fun z137=>?_))))
 refine ac (js Z (ae (aC O Z Z (by omega)) Z (ae (ar O (ex:=[.int .i64 (pM x c 0)]) Z Z Z Z (hp0 (by omega)) Z) Z (js Z (jf [15,139,69,67,66,14,13,12,11,10,9,8,6,0,1] Z (jn (aj (ac (js Z (aS Z ((fh (x:=pM x c 0) (lo:=0) (hi:=7) h1 h2).plain (u:=eB true) (by rw[hw.1])) 145000 Z (js Z (jf [145,15,139,69,67,66,14,13,12,11,10,9,8,6,0,1] Z (jn (ab Z (fun z145=>?_) (fun z145=>?_)))))))))))))))
 exact absurd z145 (by decide)
 refine al (ac (bi Z (jf [148,15,139,69,67,66,14,13,12,11,10,9,8,6,0,1] Z (jn (ab Z (fun z148=>?_) (fun z148=>?_))))))
 exact absurd (aB z148) (by omega)
 refine ac (js Z (ae (aC O Z Z (by omega)) Z (ae (ar O (ex:=[.int .i64 (pM x c 1)]) Z Z Z Z (hp1 (by omega)) Z) Z (jf [159,15,139,69,67,66,14,13,12,11,10,9,8,6,0,1] Z (aS Z ((pq (x:=pM x c 1) h1 h2).plain (u:=eB false) (by rw[hw.2])) 161000 Z (js Z (jf [161,15,139,69,67,66,14,13,12,11,10,9,8,6,0,1] Z (jn (ab Z (fun z161=>?_) (fun z161=>?_))))))))))
 refine ac (aa Z (jr ?_))
 rw[show bb x c=4 from by rw[mg hx,hw.1,hw.2];rfl]
 refine⟨.inl Z,_,aW,_,Z,Z,Z⟩
 exact absurd z161 (by decide)
 exact absurd hx (bo z137)
 obtain⟨hx,hw⟩:=hf
 have hmv:mv x=(1,0):=by rw[ce hx];decide
 have hpk1:pk=1:=by rw[hmv]at hpm;exact Int.ofNat.inj hpm
 have hp0:l+0<c.stack.length→(c.stack.map (fun n=>[D.int .i64 n]))[l+0]? = some [.int .i64 (pM x c 0)]:=fun h=>by have:=bn (xs:=c.stack) h rfl;rw[this];unfold pM;rw[←hl]
 refine au (ac (aa Z (jn (ab Z (fun z68=>?_) (fun z68=>?_)))))
 exact absurd (aB z68) (by omega)
 refine ac (aa Z (jf [70,69,67,66,14,13,12,11,10,9,8,6,0,1] Z (jn (ab Z (fun z70=>?_) (fun z70=>?_)))))
 exact absurd (aB z70) (by omega)
 refine ac (aa Z (jf [74,69,67,66,14,13,12,11,10,9,8,6,0,1] Z (jn (ab Z (fun z74=>?_) (fun z74=>?_)))))
 exact absurd (aB z74) (by omega)
 refine ac (aa Z (jf [85,69,67,66,14,13,12,11,10,9,8,6,0,1] Z (jn (ab Z (fun z85=>?_) (fun z85=>?_)))))
 exact absurd (aB z85) (by omega)
 refine ac (aa Z (jf [103,69,67,66,14,13,12,11,10,9,8,6,0,1] Z (jn (ab Z (fun z103=>?_) (fun z103=>?_)))))
 exact absurd (aB z103) (by omega)
 refine ac (aa Z (jf [114,69,67,66,14,13,12,11,10,9,8,6,0,1] Z (jn (ab Z (fun z114=>?_) (fun z114=>?_)))))
 exact absurd (aB z114) (by omega)
 refine ac (aa Z (jf [125,69,67,66,14,13,12,11,10,9,8,6,0,1] Z (jn (ab Z (fun z125=>?_) (fun z125=>?_)))))
 exact absurd (aB z125) (by omega)
 refine ac (aa Z (jf [129,69,67,66,14,13,12,11,10,9,8,6,0,1] Z (jn (ab Z (fun z129=>?_) (fun z129=>?_)))))
 exact absurd (aB z129) (by omega)
 refine aj (ac (aa Z (jf [137,69,67,66,14,13,12,11,10,9,8,6,0,1] Z (jn (ab Z (fun z137=>?_) (fun z137=>?_))))))
 exact absurd (aB z137) (by omega)
 refine ag (aa Z (jn (ab Z (fun z137=>?_) (fun z137=>?_))))
 exact absurd (aB z137) (by omega)
 refine ac (aa Z (jf [172,139,69,67,66,14,13,12,11,10,9,8,6,0,1] Z (jn (ab Z (fun z172=>?_) (fun z172=>?_)))))
 exact absurd (aB z172) (by omega)
 refine ac (aa Z (jf [176,139,69,67,66,14,13,12,11,10,9,8,6,0,1] Z (jn (ab Z (fun z176=>?_) (fun z176=>?_)))))
 refine ac (js Z (ae (aC O Z Z (by omega)) Z (ae (ar O (ex:=[.int .i64 (pM x c 0)]) Z Z Z Z (hp0 (by omega)) Z) Z (js Z (jf [181,139,69,67,66,14,13,12,11,10,9,8,6,0,1] Z (jn (ab Z (fun z181=>?_) (fun z181=>?_))))))))
 refine ac (aa Z (jr ?_))
 rw[show bb x c=3 from by rw[lx hx,if_pos hw]]
 refine⟨.inl Z,_,aW,_,Z,Z,Z⟩
 exact absurd hw (bo z181)
 exact absurd hx (bo z176)
def ch(code:List In)(s:Sx):Rn:=⟨⟨s.vars,s.cells,[],0⟩,[],List.replicate code.length 0,0⟩
abbrev ub(R:Rn):List (Nat×B):=[(0,df R.c R.c.stack.length R.ev R.cnt R.out 1 2 3 4 5),(1,am R.c.vars),(2,am R.c.cells),(3,am R.c.stack),(4,am R.ev),(5,am R.cnt)]
theorem bO{c:List In}(h:bm c=true):(∀x∈c,aw x=true)∧1≤c.length∧c.length≤80:=by
 unfold bm bU at h
 simp only[bj,decide_eq_true_eq,List.all_eq_true]at h
 exact⟨h.1,by omega,by omega⟩
abbrev xM(code:List In)(c:Cf):In:=code.getD c.at_.toNat default
abbrev ln(code:List In)(c:Cf):Prop:=0≤c.at_∧c.at_<code.length
theorem fC{code:List In}{r:Rn}:aN code 0 r={r with out:=1}:=rfl
theorem dW{code:List In}{n:Nat}{r:Rn}(h: ¬(ln code r.c∧b9 (xM code r.c) r.c.stack.length=false)):aN code (n+1) r={r with out:=5}:=by
 rw[aN,if_neg h]
theorem fB{code:List In}{n:Nat}{r:Rn}(h:ln code r.c)(hl:b9 (xM code r.c) r.c.stack.length=false)(ho:bb (xM code r.c) r.c=6):aN code (n+1) r=r:=by
 rw[aN,if_pos ⟨h,hl⟩,if_pos ho]
theorem eD{code:List In}{n:Nat}{r:Rn}(h:ln code r.c)(hl:b9 (xM code r.c) r.c.stack.length=false)(h6:bb (xM code r.c) r.c≠6)(ho:bb (xM code r.c) r.c≠0):aN code (n+1) r={r with out:=bb (xM code r.c) r.c}:=by
 rw[aN,if_pos ⟨h,hl⟩,if_neg h6,if_pos ho]
def fM(code:List In)(r:Rn):Rn:=⟨cr (xM code r.c) r.c,jP r.ev (cZ (xM code r.c)),r.cnt.set r.c.at_.toNat (r.cnt.getD r.c.at_.toNat default+1),r.out⟩
theorem cD{code:List In}{n:Nat}{r:Rn}(h:ln code r.c)(hl:b9 (xM code r.c) r.c.stack.length=false)(ho:bb (xM code r.c) r.c=0):aN code (n+1) r=aN code n (fM code r):=by
 rw[aN,if_pos ⟨h,hl⟩,if_neg (by rw[ho];decide),if_neg (by rw[ho];simp)];rfl
structure RnOk(code:List In)(F k:Nat)(r:Rn):Prop where
  ok:COk r.c
  cl:r.cnt.length=code.length
  cb: ∀n∈r.cnt,0≤n∧n+k≤F
  el:r.ev.length+k≤F
  kF:k≤F
theorem RnOk.zero{code:List In}{s:Sx}{F:Nat}(hs:lr s=true):RnOk code F F (ch code s):=by
 unfold lr cN at hs
 simp only[bj,decide_eq_true_eq,List.all_eq_true]at hs
 refine⟨⟨by show s.vars.length=4;omega,by show s.cells.length=8;omega,hs.1.1,hs.2.1,fun n hn=>(by cases hn),by show(0:Nat)≤6;omega⟩,by simp[ch],fun n hn=>?_,by show 0+F≤F;omega,cJ _⟩
 have:=(List.mem_replicate.1 hn).2
 omega
theorem RnOk.next{code:List In}{F k:Nat}{r:Rn}(hc:bm code=true)(h:RnOk code F (k+1) r)(hi:ln code r.c)(hl:b9 (xM code r.c) r.c.stack.length=false)(ho:bb (xM code r.c) r.c=0):RnOk code F k (fM code r):=by
  have hx:aw (xM code r.c)=true:=by
    unfold xM;rw[aH (by omega)];exact(bO hc).1 _ (List.getElem_mem _)
  have h1:=h.cl
  have h2:=h.el
  have h3:=h.kF
  refine⟨h.ok.next hx hl ho,by show(r.cnt.set _ _).length=_;rw[List.length_set,h1],fun n hn=>?_,?_,by omega⟩
  · rcases List.mem_or_eq_of_mem_set hn with h4|h4
    · have:=h.cb n h4;omega
    · have:=h.cb (r.cnt.getD r.c.at_.toNat default) (by rw[aH (by omega)];exact List.getElem_mem _)
      omega
  · show(jP r.ev _).length+k≤F
    unfold jP;split
    · rw[cC,gU];omega
    · omega
theorem mA{cnt:List Int}{i:Nat}(h:i<cnt.length):(cnt.map (fun n=>[D.int .i64 n])).set (0+i) [.int .i64 (cnt.getD i default+1)]=(cnt.set i (cnt.getD i default+1)).map (fun n=>[D.int .i64 n]):=by
 rw[Nat.zero_add,List.map_set]
variable{s:Sx}{F:Nat}
theorem qB (hcb:bm code=true)(hs:lr s=true)(hF2:F≤2000):MQ h1 h2 44 [aJ code,em s,eI F] [] (bV (.tup [.c (.pt 0 0 0),eB true]) (ub (aN code F (ch code s)))):=by
 refine jB 85 h1 h2 Tryz.func44 Z fun O hF=>?_
 have hin:=bO hcb
 have hix: ∀{c:Cf},ln code c→aw (xM code c)=true:=fun{c} h=>by unfold xM;rw[aH (by omega)];exact hin.1 _ (List.getElem_mem _)
 refine ac (jx Z (ax ?_))
 refine az (Ent.freeze 4 (e':=[(4,_),(0,_),(1,_),(2,_)]) Z (.cons Z (.c (.box (cs:=Sx.data s) Z (aQ Z))) (fe [0,1,2] Z)) (.skip .nil)) ?_
 refine ax ?_
 refine aa Z (jn (aj (ac (js Z (aS Z ((mR (c:=code) h1 h2).plain (u:=eB true) (by rw[hcb])) 14000 Z (aa Z (jf [15,7,6,4,0,1,2] Z (br Z (js Z (br Z (aS Z ((uI (s:=s) h1 h2).plain (u:=eB true) (by rw[hs])) 18000 Z (jf [17,15,7,6,4,0,1,2] Z (br Z (js Z (ae (aM O Z Z Z Z Z) Z (js Z (jf [20,7,6,4,0,1,2] Z (br Z (js Z (br Z (aS Z ((fh (x:=(F:Int)) (lo:=0) (hi:=2000) h1 h2).plain (u:=eB true) (by unfold bU;simp;omega)) 23000 Z (jf [22,20,7,6,4,0,1,2] Z (br Z (js Z (ae (aM O Z Z Z Z Z) Z (jf [24,7,6,4,0,1,2] Z (jn (ab Z (fun z24=>?_) (fun z24=>?_)))))))))))))))))))))))))))))
 ·
  skip
  exact absurd z24 (by decide)
 ·
  skip
  refine al (aj (jw [7,6,4,0,1,2] Z (jdF [_,_,_,_,_,_,_,_,_] [aZ,pe [0] 0,pn [0,1] 1 1,pn [] 0 1,pn [3] 0 1,pn [3,4] 0 1,pn [0,1,2,3,4,5] 1 1,pe [0,1,2,3,4,5,6] 1,pn [0,1,2,3,4,5,6,7] 2 2] [1,7] 5 30 (.row true 1 (List.replicate (code.length:Int).toNat [.int .i64 0])) [_,_] [_] [[],[]] (kf Z Z Z (ai (ai (bH (cX (f7 O (B0:=27000) Z Z Z Z (sa (v:=s.vars) (c:=s.cells) h1 h2) (ak Z) Z Z Z Z Z)) (cX (f7 O (B0:=27000) Z Z Z Z (sa (v:=s.vars) (c:=s.cells) h1 h2) (ak Z) Z Z Z Z Z))) Z) (kf Z Z Z (ai (kf Z Z Z (kg Z Z Z)) (ai (ai (ai (bH (bF O Z Z Z Z Z Z Z Z) (bF O Z Z Z Z Z Z Z Z)) Z) (ai (bH (bF O Z Z Z Z Z Z Z Z) (bF O Z Z Z Z Z Z Z Z)) Z)) (ai (ai (ai (cX (k7 O Z Z Z Z Z Z Z Z Z (by first|omega|(simp at *;omega)) (by first|omega|(simp at *;omega)) (by first|omega|(simp at *;omega)) (by first|omega|(dsimp only;omega)|(simp only[bJ]at *;omega)) (by first|omega|(simp at *;omega)) Z Z Z Z)) Z) (ai (cX (k7 O Z Z Z Z Z Z Z Z Z (by first|omega|(simp at *;omega)) (by first|omega|(simp at *;omega)) (by first|omega|(simp at *;omega)) (by first|omega|(dsimp only;omega)|(simp only[bJ]at *;omega)) (by first|omega|(simp at *;omega)) Z Z Z Z)) Z)) (ai (ai (bH trivial (V Z)) Z) (ai (ai (bH trivial (cX (Eff.box O Z Z Z Z Z Z Z Z))) Z) (ai (ai (bH trivial (V Z)) Z) trivial))))))))) ?_)))
  refine jw [8,7,6,4,0,1,2] Z (dK ?_)
  refine au (aK (X:=Nat×Rn) (fun x=>⟨[(0,aJ code),(2,eI x.1),(8,.c (.pt 32 0 0))],[(32,df x.2.c x.2.c.stack.length x.2.ev x.2.cnt x.2.out 901 902 903 904 905),(901,am x.2.c.vars),(902,am x.2.c.cells),(903,am x.2.c.stack),(904,am x.2.ev),(905,am x.2.cnt)]⟩) (fun x=>RnOk code F x.1 x.2∧aN code F (ch code s)=aN code x.1 x.2) (fun x=>x.1) (F,ch code s) ((((((aI [32,27000,27001,30] (e':=[(0,_),(2,_),(8,_)]) Z Z ⟨Z,Z,Z,aD⟩ Z).trans (ao 27000 901 Z Z)).trans (ao 27001 902 Z Z)).trans (ao 30 905 Z Z)).trans ((gS 32 903 1 true 2 Z Z Z).trans (gS 32 904 1 true 4 Z Z Z))).trans (Ent.to ⟨Z,Z,Z,aD⟩ (by show _=[(32,df (ch code s).c (ch code s).c.stack.length (ch code s).ev (ch code s).cnt (ch code s).out 901 902 903 904 905),(901,am s.vars),(902,am s.cells),(903,am []),(904,am []),(905,am (List.replicate code.length 0))];simp only[df,ch,List.length_replicate,am,List.map_replicate];rfl))) ?_ (fun x hi=>?_))
  ·
   exact⟨RnOk.zero hs,Z⟩
  refine aj (au (aj (ac (aa Z (jn (ab Z (fun z36=>?_) (fun z36=>?_)))))))
  ·
   skip
   refine ac (bi Z (jf [39,36,35,0,2,8] Z (jo Z (ax ?_))))
   refine bc (bi Z (jr ?_))
   rw[hi.2,show x.1=0 by have:=aB z36;omega,fC]
   refine⟨.inl Z,_,((((((ao 32 0 Z Z).trans (ao 901 1 Z Z)).trans (ao 902 2 Z Z)).trans (ao 903 3 Z Z)).trans (ao 904 4 Z Z)).trans (ao 905 5 Z Z)),_,Z,Z,Z⟩
  ·
   skip
   refine al (ac ?_)
   obtain⟨k,hk⟩: ∃k,x.1=k+1:=⟨x.1-1,by have:=bo z36;omega⟩
   have hkF:=hi.1.kF
   have hcl:=hi.1.cl
   refine aE Z (aa Z (jf [9,36,35,0,2,8] Z (bc ?_)))
   cases hb47:bU 0 ((code.length:Int)-1) x.2.c.at_ with
   | true =>
    have hat:ln code x.2.c:=mH.1 hb47
    refine js Z ?_
    cases hb48:b9 (xM code x.2.c) x.2.c.stack.length with
    | true=>
     have hlow:=hb48
     refine bi Z (jf [50,49,9,36,35,0,2,8] Z ?_)
     first|refine ap O [32,901,902,903,904,905] (bin:=[df x.2.c x.2.c.stack.length x.2.ev x.2.cnt x.2.out 1 2 3 4 5,am x.2.c.vars,am x.2.c.cells,am x.2.c.stack,am x.2.ev,am x.2.cnt]) Z Z Z Z (iv (code:=code) (c:=x.2.c) (x:=(xM code x.2.c)) (ev:=x.2.ev) (cnt:=x.2.cnt) (o:=x.2.out) h1 h2 hi.1.ok (by omega) (hix hat) hat Z hlow) Z Z Z Z Z Z (B0:=52000) Z Z ?_|refine ap O [32,901,902,903,904,905] (bin:=[df x.2.c x.2.c.stack.length x.2.ev x.2.cnt x.2.out 1 2 3 4 5,am x.2.c.vars,am x.2.c.cells,am x.2.c.stack,am x.2.ev,am x.2.cnt]) Z Z Z Z (iq (code:=code) (c:=x.2.c) (x:=(xM code x.2.c)) (ev:=x.2.ev) (cnt:=x.2.cnt) (o:=x.2.out) h1 h2 hi.1.ok (by omega) (hix hat) hat Z hlo hou hpu) Z Z Z Z Z Z (B0:=52000) Z Z ?_|refine ap O [32,901,902,903,904,905] (bin:=[df x.2.c x.2.c.stack.length x.2.ev x.2.cnt x.2.out 1 2 3 4 5,am x.2.c.vars,am x.2.c.cells,am x.2.c.stack,am x.2.ev,am x.2.cnt]) Z Z Z Z (iu (code:=code) (c:=x.2.c) (x:=(xM code x.2.c)) (ev:=x.2.ev) (cnt:=x.2.cnt) (o:=x.2.out) h1 h2 hi.1.ok (by omega) (hix hat) hat Z hlo hou hpu') Z Z Z Z Z Z (B0:=52000) Z Z ?_|refine ap O [32,901,902,903,904,905] (bin:=[df x.2.c x.2.c.stack.length x.2.ev x.2.cnt x.2.out 1 2 3 4 5,am x.2.c.vars,am x.2.c.cells,am x.2.c.stack,am x.2.ev,am x.2.cnt]) Z Z Z Z (iw (code:=code) (c:=x.2.c) (x:=(xM code x.2.c)) (ev:=x.2.ev) (cnt:=x.2.cnt) (o:=x.2.out) h1 h2 hi.1.ok (by omega) (hix hat) hat Z hlo hou') Z Z Z Z Z Z (B0:=52000) Z Z ?_|refine ap O [32,901,902,903,904,905] (bin:=[df x.2.c x.2.c.stack.length x.2.ev x.2.cnt x.2.out 1 2 3 4 5,am x.2.c.vars,am x.2.c.cells,am x.2.c.stack,am x.2.ev,am x.2.cnt]) Z Z Z Z (ir (code:=code) (c:=x.2.c) (ev:=x.2.ev) (cnt:=x.2.cnt) (o:=x.2.out) h1 h2 (by omega) hat') Z Z Z Z Z Z (B0:=52000) Z Z ?_
     refine ax ?_
     refine aE Z (js Z (jf [11,10,9,36,35,0,2,8] Z (jn (aj (ac (aa Z (jn (ab Z (fun z55=>?_) (fun z55=>?_)))))))))
     ·
      skip
      exact absurd z55 (by decide)
     ·
      skip
      refine al (aj (ac (aa Z (jn (ab Z (fun z58=>?_) (fun z58=>?_))))))
      ·
       skip
       refine ac (aE Z (jf [62,60,58,57,55,54,11,10,9,36,35,0,2,8] Z (jo Z (ax ?_))))
       refine jf [58,57,55,54,11,10,9,36,35,0,2,8] Z (bc (bi Z (jr ?_)))
       rw[hi.2,hk,dW (fun h=>by rw[hlow]at h;cases h.2)]
       refine⟨.inl Z,_,((((((ao 32 0 Z Z).trans (ao 901 1 Z Z)).trans (ao 902 2 Z Z)).trans (ao 903 3 Z Z)).trans (ao 904 4 Z Z)).trans (ao 905 5 Z Z)),_,Z,Z,Z⟩
      ·
       skip
       exact absurd z58 (by decide)
    | false =>
     have hlo:=hb48
     refine js Z ?_
     cases hb49:decide (bb (xM code x.2.c) x.2.c=0)with
     | true =>
      have hou:=aB hb49
      refine js Z ?_
      cases hb50:decide (0<(mv (xM code x.2.c)).2)with
      | true=>
       have hpu:=aB hb50
       refine js Z (jf [50,49,9,36,35,0,2,8] Z ?_)
       first|refine ap O [32,901,902,903,904,905] (bin:=[df x.2.c x.2.c.stack.length x.2.ev x.2.cnt x.2.out 1 2 3 4 5,am x.2.c.vars,am x.2.c.cells,am x.2.c.stack,am x.2.ev,am x.2.cnt]) Z Z Z Z (iv (code:=code) (c:=x.2.c) (x:=(xM code x.2.c)) (ev:=x.2.ev) (cnt:=x.2.cnt) (o:=x.2.out) h1 h2 hi.1.ok (by omega) (hix hat) hat Z hlow) Z Z Z Z Z Z (B0:=52000) Z Z ?_|refine ap O [32,901,902,903,904,905] (bin:=[df x.2.c x.2.c.stack.length x.2.ev x.2.cnt x.2.out 1 2 3 4 5,am x.2.c.vars,am x.2.c.cells,am x.2.c.stack,am x.2.ev,am x.2.cnt]) Z Z Z Z (iq (code:=code) (c:=x.2.c) (x:=(xM code x.2.c)) (ev:=x.2.ev) (cnt:=x.2.cnt) (o:=x.2.out) h1 h2 hi.1.ok (by omega) (hix hat) hat Z hlo hou hpu) Z Z Z Z Z Z (B0:=52000) Z Z ?_|refine ap O [32,901,902,903,904,905] (bin:=[df x.2.c x.2.c.stack.length x.2.ev x.2.cnt x.2.out 1 2 3 4 5,am x.2.c.vars,am x.2.c.cells,am x.2.c.stack,am x.2.ev,am x.2.cnt]) Z Z Z Z (iu (code:=code) (c:=x.2.c) (x:=(xM code x.2.c)) (ev:=x.2.ev) (cnt:=x.2.cnt) (o:=x.2.out) h1 h2 hi.1.ok (by omega) (hix hat) hat Z hlo hou hpu') Z Z Z Z Z Z (B0:=52000) Z Z ?_|refine ap O [32,901,902,903,904,905] (bin:=[df x.2.c x.2.c.stack.length x.2.ev x.2.cnt x.2.out 1 2 3 4 5,am x.2.c.vars,am x.2.c.cells,am x.2.c.stack,am x.2.ev,am x.2.cnt]) Z Z Z Z (iw (code:=code) (c:=x.2.c) (x:=(xM code x.2.c)) (ev:=x.2.ev) (cnt:=x.2.cnt) (o:=x.2.out) h1 h2 hi.1.ok (by omega) (hix hat) hat Z hlo hou') Z Z Z Z Z Z (B0:=52000) Z Z ?_|refine ap O [32,901,902,903,904,905] (bin:=[df x.2.c x.2.c.stack.length x.2.ev x.2.cnt x.2.out 1 2 3 4 5,am x.2.c.vars,am x.2.c.cells,am x.2.c.stack,am x.2.ev,am x.2.cnt]) Z Z Z Z (ir (code:=code) (c:=x.2.c) (ev:=x.2.ev) (cnt:=x.2.cnt) (o:=x.2.out) h1 h2 (by omega) hat') Z Z Z Z Z Z (B0:=52000) Z Z ?_
       refine ax ?_
       refine aE Z (js Z (jf [11,10,9,36,35,0,2,8] Z (jn (aj (ac (aa Z (jn (ab Z (fun z55=>?_) (fun z55=>?_)))))))))
       ·
        skip
        exact absurd z55 (by decide)
       ·
        skip
        refine al (aj (ac (aa Z (jn (ab Z (fun z58=>?_) (fun z58=>?_))))))
        ·
         skip
         exact absurd z58 (by decide)
        ·
         skip
         refine al (ac (aE Z (js Z ?_)))
         have hel:=hi.1.el
         have hcb2:=hi.1.cb (x.2.cnt.getD x.2.c.at_.toNat default) (by rw[aH (by omega)];exact List.getElem_mem _)
         refine ae (aC O Z Z (by omega)) Z (ae (ar O (ex:=[.int .i64 (x.2.cnt.getD x.2.c.at_.toNat default)]) Z Z Z Z (bn (by omega) (Nat.zero_add _)) Z) Z (ae (ah O Z Z (by omega) (by omega)) Z (ae (aC O Z Z (by omega)) Z (jf [72,71,58,57,55,54,11,10,36,35,0,2,8] Z (bg (bI (ex:=[.int .i64 (x.2.cnt.getD x.2.c.at_.toNat default)]) (xs':=(x.2.cnt.set x.2.c.at_.toNat (x.2.cnt.getD x.2.c.at_.toNat default+1)).map (fun n=>[D.int .i64 n])) O Z Z Z Z Z Z Z Z Z Z Z Z Z Z (bn (by omega) (Nat.zero_add _)) (mA (by omega))) Z (ax ?_))))))
         refine ax ?_
         refine jf [58,57,55,54,11,10,36,35,0,2,8] Z (bc (aa Z (jn (ab Z (fun z74=>?_) (fun z74=>?_)))))
         ·
          skip
          refine ag (aE Z (aa Z (jf [80,79,75,74,73,58,57,55,54,11,10,36,35,0,2,8] Z (bg (HS.lit O Z Z Z) Z (ax ?_)))))
          refine jf [81,79,75,74,73,58,57,55,54,11,10,36,35,0,2,8] Z (bg (bd (zs:=(x.2.ev++[cZ (xM code x.2.c)]).map (fun n=>[D.int .i64 n])) (n:=x.2.ev.length+1) O Z Z Z Z Z Z Z Z Z Z Z Z Z Z Z Z (.row Z (cV _).symm) Z Z (by decide) Z (by simp;omega) (by simp;omega) (by rw[List.map_append];rfl) (by simp)) Z (ax ?_))
          refine ax ?_
          refine aa Z (jf [84,82,74,73,58,57,55,54,11,10,36,35,0,2,8] Z (jo Z (ax ?_)))
          refine jf [74,73,58,57,55,54,11,10,36,35,0,2,8] Z (jn (ag (js Z (ae ((ah O Z Z (by omega) (by omega)).cast (v':=eI ((k:Nat):Int)) (congrArg eI (by omega))) Z (js Z (jf [2,74,73,58,57,55,54,11,10,36,35,0,8] Z (jn ?_)))))))
          have hN:=hi.1
          rw[hk]at hN
          have hN2:=hN.next hcb hat hlo hou
          have hrun:=hi.2
          rw[hk,cD hat hlo hou]at hrun
          have hE:jP x.2.ev (cZ (xM code x.2.c))=x.2.ev++[cZ (xM code x.2.c)]:=if_pos (show 0≤cZ (xM code x.2.c)from aB z74)
          have hR:fM code x.2=⟨cr (xM code x.2.c) x.2.c,x.2.ev++[cZ (xM code x.2.c)],x.2.cnt.set x.2.c.at_.toNat (x.2.cnt.getD x.2.c.at_.toNat default+1),x.2.out⟩:=by unfold fM;rw[hE]
          rw[hR]at hrun hN2
          refine⟨(k,⟨cr (xM code x.2.c) x.2.c,x.2.ev++[cZ (xM code x.2.c)],x.2.cnt.set x.2.c.at_.toNat (x.2.cnt.getD x.2.c.at_.toNat default+1),x.2.out⟩),(((aI [32,901,902,52006,82,905] (e':=[(0,_),(2,_),(8,_)]) Z Z ⟨Z,Z,Z,aD⟩ Z).trans (ao 52006 903 Z Z)).trans (ao 82 904 Z Z)).trans (Ent.to ⟨Z,Z,Z,aD⟩ (by simp only[df,List.length_set,cC,gU]<;>rfl)),⟨hN2,hrun⟩,by show k<x.1;omega⟩
         ·
          skip
          refine al (ag (js Z (ae ((ah O Z Z (by omega) (by omega)).cast (v':=eI ((k:Nat):Int)) (congrArg eI (by omega))) Z (js Z (jf [2,74,73,58,57,55,54,11,10,36,35,0,8] Z (jn ?_))))))
          have hN:=hi.1
          rw[hk]at hN
          have hN2:=hN.next hcb hat hlo hou
          have hrun:=hi.2
          rw[hk,cD hat hlo hou]at hrun
          have hE:jP x.2.ev (cZ (xM code x.2.c))=x.2.ev:=if_neg (show¬0≤cZ (xM code x.2.c)from bo z74)
          have hR:fM code x.2=⟨cr (xM code x.2.c) x.2.c,x.2.ev,x.2.cnt.set x.2.c.at_.toNat (x.2.cnt.getD x.2.c.at_.toNat default+1),x.2.out⟩:=by unfold fM;rw[hE]
          rw[hR]at hrun hN2
          refine⟨(k,⟨cr (xM code x.2.c) x.2.c,x.2.ev,x.2.cnt.set x.2.c.at_.toNat (x.2.cnt.getD x.2.c.at_.toNat default+1),x.2.out⟩),((aI [32,901,902,52006,904,905] (e':=[(0,_),(2,_),(8,_)]) Z Z ⟨Z,Z,Z,aD⟩ Z).trans (ao 52006 903 Z Z)).trans (Ent.to ⟨Z,Z,Z,aD⟩ (by simp only[df,List.length_set,cC,gU]<;>rfl)),⟨hN2,hrun⟩,by show k<x.1;omega⟩
      | false=>
       have hpu':=bo hb50
       refine js Z (jf [50,49,9,36,35,0,2,8] Z ?_)
       first|refine ap O [32,901,902,903,904,905] (bin:=[df x.2.c x.2.c.stack.length x.2.ev x.2.cnt x.2.out 1 2 3 4 5,am x.2.c.vars,am x.2.c.cells,am x.2.c.stack,am x.2.ev,am x.2.cnt]) Z Z Z Z (iv (code:=code) (c:=x.2.c) (x:=(xM code x.2.c)) (ev:=x.2.ev) (cnt:=x.2.cnt) (o:=x.2.out) h1 h2 hi.1.ok (by omega) (hix hat) hat Z hlow) Z Z Z Z Z Z (B0:=52000) Z Z ?_|refine ap O [32,901,902,903,904,905] (bin:=[df x.2.c x.2.c.stack.length x.2.ev x.2.cnt x.2.out 1 2 3 4 5,am x.2.c.vars,am x.2.c.cells,am x.2.c.stack,am x.2.ev,am x.2.cnt]) Z Z Z Z (iq (code:=code) (c:=x.2.c) (x:=(xM code x.2.c)) (ev:=x.2.ev) (cnt:=x.2.cnt) (o:=x.2.out) h1 h2 hi.1.ok (by omega) (hix hat) hat Z hlo hou hpu) Z Z Z Z Z Z (B0:=52000) Z Z ?_|refine ap O [32,901,902,903,904,905] (bin:=[df x.2.c x.2.c.stack.length x.2.ev x.2.cnt x.2.out 1 2 3 4 5,am x.2.c.vars,am x.2.c.cells,am x.2.c.stack,am x.2.ev,am x.2.cnt]) Z Z Z Z (iu (code:=code) (c:=x.2.c) (x:=(xM code x.2.c)) (ev:=x.2.ev) (cnt:=x.2.cnt) (o:=x.2.out) h1 h2 hi.1.ok (by omega) (hix hat) hat Z hlo hou hpu') Z Z Z Z Z Z (B0:=52000) Z Z ?_|refine ap O [32,901,902,903,904,905] (bin:=[df x.2.c x.2.c.stack.length x.2.ev x.2.cnt x.2.out 1 2 3 4 5,am x.2.c.vars,am x.2.c.cells,am x.2.c.stack,am x.2.ev,am x.2.cnt]) Z Z Z Z (iw (code:=code) (c:=x.2.c) (x:=(xM code x.2.c)) (ev:=x.2.ev) (cnt:=x.2.cnt) (o:=x.2.out) h1 h2 hi.1.ok (by omega) (hix hat) hat Z hlo hou') Z Z Z Z Z Z (B0:=52000) Z Z ?_|refine ap O [32,901,902,903,904,905] (bin:=[df x.2.c x.2.c.stack.length x.2.ev x.2.cnt x.2.out 1 2 3 4 5,am x.2.c.vars,am x.2.c.cells,am x.2.c.stack,am x.2.ev,am x.2.cnt]) Z Z Z Z (ir (code:=code) (c:=x.2.c) (ev:=x.2.ev) (cnt:=x.2.cnt) (o:=x.2.out) h1 h2 (by omega) hat') Z Z Z Z Z Z (B0:=52000) Z Z ?_
       refine ax ?_
       refine aE Z (js Z (jf [11,10,9,36,35,0,2,8] Z (jn (aj (ac (aa Z (jn (ab Z (fun z55=>?_) (fun z55=>?_)))))))))
       ·
        skip
        exact absurd z55 (by decide)
       ·
        skip
        refine al (aj (ac (aa Z (jn (ab Z (fun z58=>?_) (fun z58=>?_))))))
        ·
         skip
         exact absurd z58 (by decide)
        ·
         skip
         refine al (ac (aE Z (js Z ?_)))
         have hel:=hi.1.el
         have hcb2:=hi.1.cb (x.2.cnt.getD x.2.c.at_.toNat default) (by rw[aH (by omega)];exact List.getElem_mem _)
         refine ae (aC O Z Z (by omega)) Z (ae (ar O (ex:=[.int .i64 (x.2.cnt.getD x.2.c.at_.toNat default)]) Z Z Z Z (bn (by omega) (Nat.zero_add _)) Z) Z (ae (ah O Z Z (by omega) (by omega)) Z (ae (aC O Z Z (by omega)) Z (jf [72,71,58,57,55,54,11,10,36,35,0,2,8] Z (bg (bI (ex:=[.int .i64 (x.2.cnt.getD x.2.c.at_.toNat default)]) (xs':=(x.2.cnt.set x.2.c.at_.toNat (x.2.cnt.getD x.2.c.at_.toNat default+1)).map (fun n=>[D.int .i64 n])) O Z Z Z Z Z Z Z Z Z Z Z Z Z Z (bn (by omega) (Nat.zero_add _)) (mA (by omega))) Z (ax ?_))))))
         refine ax ?_
         refine jf [58,57,55,54,11,10,36,35,0,2,8] Z (bc (aa Z (jn (ab Z (fun z74=>?_) (fun z74=>?_)))))
         ·
          skip
          refine ag (aE Z (aa Z (jf [80,79,75,74,73,58,57,55,54,11,10,36,35,0,2,8] Z (bg (HS.lit O Z Z Z) Z (ax ?_)))))
          refine jf [81,79,75,74,73,58,57,55,54,11,10,36,35,0,2,8] Z (bg (bd (zs:=(x.2.ev++[cZ (xM code x.2.c)]).map (fun n=>[D.int .i64 n])) (n:=x.2.ev.length+1) O Z Z Z Z Z Z Z Z Z Z Z Z Z Z Z Z (.row Z (cV _).symm) Z Z (by decide) Z (by simp;omega) (by simp;omega) (by rw[List.map_append];rfl) (by simp)) Z (ax ?_))
          refine ax ?_
          refine aa Z (jf [84,82,74,73,58,57,55,54,11,10,36,35,0,2,8] Z (jo Z (ax ?_)))
          refine jf [74,73,58,57,55,54,11,10,36,35,0,2,8] Z (jn (ag (js Z (ae ((ah O Z Z (by omega) (by omega)).cast (v':=eI ((k:Nat):Int)) (congrArg eI (by omega))) Z (js Z (jf [2,74,73,58,57,55,54,11,10,36,35,0,8] Z (jn ?_)))))))
          have hN:=hi.1
          rw[hk]at hN
          have hN2:=hN.next hcb hat hlo hou
          have hrun:=hi.2
          rw[hk,cD hat hlo hou]at hrun
          have hE:jP x.2.ev (cZ (xM code x.2.c))=x.2.ev++[cZ (xM code x.2.c)]:=if_pos (show 0≤cZ (xM code x.2.c)from aB z74)
          have hR:fM code x.2=⟨cr (xM code x.2.c) x.2.c,x.2.ev++[cZ (xM code x.2.c)],x.2.cnt.set x.2.c.at_.toNat (x.2.cnt.getD x.2.c.at_.toNat default+1),x.2.out⟩:=by unfold fM;rw[hE]
          rw[hR]at hrun hN2
          refine⟨(k,⟨cr (xM code x.2.c) x.2.c,x.2.ev++[cZ (xM code x.2.c)],x.2.cnt.set x.2.c.at_.toNat (x.2.cnt.getD x.2.c.at_.toNat default+1),x.2.out⟩),((aI [32,901,902,903,82,905] (e':=[(0,_),(2,_),(8,_)]) Z Z ⟨Z,Z,Z,aD⟩ Z).trans (ao 82 904 Z Z)).trans (Ent.to ⟨Z,Z,Z,aD⟩ (by simp only[df,List.length_set,cC,gU]<;>rfl)),⟨hN2,hrun⟩,by show k<x.1;omega⟩
         ·
          skip
          refine al (ag (js Z (ae ((ah O Z Z (by omega) (by omega)).cast (v':=eI ((k:Nat):Int)) (congrArg eI (by omega))) Z (js Z (jf [2,74,73,58,57,55,54,11,10,36,35,0,8] Z (jn ?_))))))
          have hN:=hi.1
          rw[hk]at hN
          have hN2:=hN.next hcb hat hlo hou
          have hrun:=hi.2
          rw[hk,cD hat hlo hou]at hrun
          have hE:jP x.2.ev (cZ (xM code x.2.c))=x.2.ev:=if_neg (show¬0≤cZ (xM code x.2.c)from bo z74)
          have hR:fM code x.2=⟨cr (xM code x.2.c) x.2.c,x.2.ev,x.2.cnt.set x.2.c.at_.toNat (x.2.cnt.getD x.2.c.at_.toNat default+1),x.2.out⟩:=by unfold fM;rw[hE]
          rw[hR]at hrun hN2
          refine⟨(k,⟨cr (xM code x.2.c) x.2.c,x.2.ev,x.2.cnt.set x.2.c.at_.toNat (x.2.cnt.getD x.2.c.at_.toNat default+1),x.2.out⟩),(aI [32,901,902,903,904,905] (e':=[(0,_),(2,_),(8,_)]) Z Z ⟨Z,Z,Z,aD⟩ Z).trans (Ent.to ⟨Z,Z,Z,aD⟩ (by simp only[df,List.length_set,cC,gU]<;>rfl)),⟨hN2,hrun⟩,by show k<x.1;omega⟩
     | false=>
      have hou':=bo hb49
      refine aa Z (jf [50,49,9,36,35,0,2,8] Z ?_)
      first|refine ap O [32,901,902,903,904,905] (bin:=[df x.2.c x.2.c.stack.length x.2.ev x.2.cnt x.2.out 1 2 3 4 5,am x.2.c.vars,am x.2.c.cells,am x.2.c.stack,am x.2.ev,am x.2.cnt]) Z Z Z Z (iv (code:=code) (c:=x.2.c) (x:=(xM code x.2.c)) (ev:=x.2.ev) (cnt:=x.2.cnt) (o:=x.2.out) h1 h2 hi.1.ok (by omega) (hix hat) hat Z hlow) Z Z Z Z Z Z (B0:=52000) Z Z ?_|refine ap O [32,901,902,903,904,905] (bin:=[df x.2.c x.2.c.stack.length x.2.ev x.2.cnt x.2.out 1 2 3 4 5,am x.2.c.vars,am x.2.c.cells,am x.2.c.stack,am x.2.ev,am x.2.cnt]) Z Z Z Z (iq (code:=code) (c:=x.2.c) (x:=(xM code x.2.c)) (ev:=x.2.ev) (cnt:=x.2.cnt) (o:=x.2.out) h1 h2 hi.1.ok (by omega) (hix hat) hat Z hlo hou hpu) Z Z Z Z Z Z (B0:=52000) Z Z ?_|refine ap O [32,901,902,903,904,905] (bin:=[df x.2.c x.2.c.stack.length x.2.ev x.2.cnt x.2.out 1 2 3 4 5,am x.2.c.vars,am x.2.c.cells,am x.2.c.stack,am x.2.ev,am x.2.cnt]) Z Z Z Z (iu (code:=code) (c:=x.2.c) (x:=(xM code x.2.c)) (ev:=x.2.ev) (cnt:=x.2.cnt) (o:=x.2.out) h1 h2 hi.1.ok (by omega) (hix hat) hat Z hlo hou hpu') Z Z Z Z Z Z (B0:=52000) Z Z ?_|refine ap O [32,901,902,903,904,905] (bin:=[df x.2.c x.2.c.stack.length x.2.ev x.2.cnt x.2.out 1 2 3 4 5,am x.2.c.vars,am x.2.c.cells,am x.2.c.stack,am x.2.ev,am x.2.cnt]) Z Z Z Z (iw (code:=code) (c:=x.2.c) (x:=(xM code x.2.c)) (ev:=x.2.ev) (cnt:=x.2.cnt) (o:=x.2.out) h1 h2 hi.1.ok (by omega) (hix hat) hat Z hlo hou') Z Z Z Z Z Z (B0:=52000) Z Z ?_|refine ap O [32,901,902,903,904,905] (bin:=[df x.2.c x.2.c.stack.length x.2.ev x.2.cnt x.2.out 1 2 3 4 5,am x.2.c.vars,am x.2.c.cells,am x.2.c.stack,am x.2.ev,am x.2.cnt]) Z Z Z Z (ir (code:=code) (c:=x.2.c) (ev:=x.2.ev) (cnt:=x.2.cnt) (o:=x.2.out) h1 h2 (by omega) hat') Z Z Z Z Z Z (B0:=52000) Z Z ?_
      refine ax ?_
      refine aE Z (js Z (jf [11,10,9,36,35,0,2,8] Z (jn (aj (ac (aa Z (jn (ab Z (fun z55=>?_) (fun z55=>?_)))))))))
      ·
       skip
       refine ac (bi Z (jr ?_))
       rw[hi.2,hk,fB hat hlo (aB z55)]
       refine⟨.inl Z,_,((((((ao 32 0 Z Z).trans (ao 901 1 Z Z)).trans (ao 902 2 Z Z)).trans (ao 903 3 Z Z)).trans (ao 904 4 Z Z)).trans (ao 905 5 Z Z)),_,Z,Z,Z⟩
      ·
       skip
       refine al (aj (ac (aa Z (jn (ab Z (fun z58=>?_) (fun z58=>?_))))))
       ·
        skip
        refine ac (aE Z (jf [62,60,58,57,55,54,11,10,9,36,35,0,2,8] Z (jo Z (ax ?_))))
        refine jf [58,57,55,54,11,10,9,36,35,0,2,8] Z (bc (bi Z (jr ?_)))
        rw[hi.2,hk,eD hat hlo (bo z55) hou']
        refine⟨.inl Z,_,((((((ao 32 0 Z Z).trans (ao 901 1 Z Z)).trans (ao 902 2 Z Z)).trans (ao 903 3 Z Z)).trans (ao 904 4 Z Z)).trans (ao 905 5 Z Z)),_,Z,Z,Z⟩
       ·
        skip
        exact absurd (by simpa using z58) hou'
   | false=>
    have hat': ¬(0≤x.2.c.at_∧x.2.c.at_<code.length):=fun h=>by rw[mH.2 h]at hb47;cases hb47
    refine aE Z (jf [50,49,9,36,35,0,2,8] Z ?_)
    first|refine ap O [32,901,902,903,904,905] (bin:=[df x.2.c x.2.c.stack.length x.2.ev x.2.cnt x.2.out 1 2 3 4 5,am x.2.c.vars,am x.2.c.cells,am x.2.c.stack,am x.2.ev,am x.2.cnt]) Z Z Z Z (iv (code:=code) (c:=x.2.c) (x:=(xM code x.2.c)) (ev:=x.2.ev) (cnt:=x.2.cnt) (o:=x.2.out) h1 h2 hi.1.ok (by omega) (hix hat) hat Z hlow) Z Z Z Z Z Z (B0:=52000) Z Z ?_|refine ap O [32,901,902,903,904,905] (bin:=[df x.2.c x.2.c.stack.length x.2.ev x.2.cnt x.2.out 1 2 3 4 5,am x.2.c.vars,am x.2.c.cells,am x.2.c.stack,am x.2.ev,am x.2.cnt]) Z Z Z Z (iq (code:=code) (c:=x.2.c) (x:=(xM code x.2.c)) (ev:=x.2.ev) (cnt:=x.2.cnt) (o:=x.2.out) h1 h2 hi.1.ok (by omega) (hix hat) hat Z hlo hou hpu) Z Z Z Z Z Z (B0:=52000) Z Z ?_|refine ap O [32,901,902,903,904,905] (bin:=[df x.2.c x.2.c.stack.length x.2.ev x.2.cnt x.2.out 1 2 3 4 5,am x.2.c.vars,am x.2.c.cells,am x.2.c.stack,am x.2.ev,am x.2.cnt]) Z Z Z Z (iu (code:=code) (c:=x.2.c) (x:=(xM code x.2.c)) (ev:=x.2.ev) (cnt:=x.2.cnt) (o:=x.2.out) h1 h2 hi.1.ok (by omega) (hix hat) hat Z hlo hou hpu') Z Z Z Z Z Z (B0:=52000) Z Z ?_|refine ap O [32,901,902,903,904,905] (bin:=[df x.2.c x.2.c.stack.length x.2.ev x.2.cnt x.2.out 1 2 3 4 5,am x.2.c.vars,am x.2.c.cells,am x.2.c.stack,am x.2.ev,am x.2.cnt]) Z Z Z Z (iw (code:=code) (c:=x.2.c) (x:=(xM code x.2.c)) (ev:=x.2.ev) (cnt:=x.2.cnt) (o:=x.2.out) h1 h2 hi.1.ok (by omega) (hix hat) hat Z hlo hou') Z Z Z Z Z Z (B0:=52000) Z Z ?_|refine ap O [32,901,902,903,904,905] (bin:=[df x.2.c x.2.c.stack.length x.2.ev x.2.cnt x.2.out 1 2 3 4 5,am x.2.c.vars,am x.2.c.cells,am x.2.c.stack,am x.2.ev,am x.2.cnt]) Z Z Z Z (ir (code:=code) (c:=x.2.c) (ev:=x.2.ev) (cnt:=x.2.cnt) (o:=x.2.out) h1 h2 (by omega) hat') Z Z Z Z Z Z (B0:=52000) Z Z ?_
    refine ax ?_
    refine aE Z (js Z (jf [11,10,9,36,35,0,2,8] Z (jn (aj (ac (aa Z (jn (ab Z (fun z55=>?_) (fun z55=>?_)))))))))
    ·
     skip
     exact absurd z55 (by decide)
    ·
     skip
     refine al (aj (ac (aa Z (jn (ab Z (fun z58=>?_) (fun z58=>?_))))))
     ·
      skip
      refine ac (aE Z (jf [62,60,58,57,55,54,11,10,9,36,35,0,2,8] Z (jo Z (ax ?_))))
      refine jf [58,57,55,54,11,10,9,36,35,0,2,8] Z (bc (bi Z (jr ?_)))
      rw[hi.2,hk,dW (fun h=>hat' h.1)]
      refine⟨.inl Z,_,((((((ao 32 0 Z Z).trans (ao 901 1 Z Z)).trans (ao 902 2 Z Z)).trans (ao 903 3 Z Z)).trans (ao 904 4 Z Z)).trans (ao 905 5 Z Z)),_,Z,Z,Z⟩
     ·
      skip
      exact absurd z58 (by decide)
theorem tB(hcb:bm code=true)(hs:lr s=true)(hF2:F≤2000):MQ h1 h2 17 [aJ code,em s,eI F] [] (Rows (.tup [.c (.rs 0 0 (aN code F (ch code s)).cnt.length),eB true]) [am (aN code F (ch code s)).cnt]):=by
 refine c8 (jB 23 h1 h2 Tryz.func17 Z fun O hF=>?_)
 obtain⟨R,hR⟩: ∃R,R=(aN code F (ch code s)):=⟨_,rfl⟩
 rw[←hR]
 have hC:MC Tryz.prog L 44 [aJ code,em s,eI F] [] (bV (.tup [.c (.pt 0 0 0),eB true]) (ub R)):=by rw[hR];exact qB (code:=code) (s:=s) (F:=F) h1 h2 hcb hs hF2
 refine ac (jx Z (ax ?_))
 refine az (Ent.freeze 4 (e':=[(4,_),(0,_),(1,_),(2,_)]) Z (.cons Z (.c (.box (cs:=Sx.data s) Z (aQ Z))) (fe [0,1,2] Z)) (.skip .nil)) ?_
 refine ax ?_
 refine aa Z (bc (bi Z (jf [13,12,11,7,6,1] Z (jK O Z Z Z Z (hC) (ak Z) Z Z Z Z (B0:=15000) Z (ax ?_)))))
 refine aE Z (js Z (jf [9,8,7,6,1] Z (jn (aj (ac (aa Z (jf [18,8,7,6,1] Z (jn (ab Z (fun z18=>?_) (fun z18=>?_))))))))))
 exact absurd z18 (by decide)
 refine al (ac (aE Z (aa Z (jf [7,6,1] Z (jr ?_)))))
 refine⟨.inl Z,_,aW,_,Z,[15005],by decide,Z,Z,Z⟩
theorem rn{L:Nat}(h1:4096≤L)(h2:L≤1073741824){code:List In}{s:Sx}{F:Nat}(hcb:bm code=true)(hs:lr s=true)(hF2:F≤2000):MC Tryz.prog L 17 [aJ code,em s,eI F] [] (Plain (.tup [bt (aN code F (ch code s)).cnt,eB true])):=(tB h1 h2 hcb hs hF2).frozen (.tup (.cons (.c (.whole rfl (cV _).symm)) (.cons (.c .d) .nil)))
theorem tA(hcb:bm code=true)(hs:lr s=true)(hF2:F≤2000):MQ h1 h2 14 [aJ code,em s,eI F] [] (Rows (.tup [.agg [.rs 0 0 (aN code F (ch code s)).c.vars.length,.rs 1 0 (aN code F (ch code s)).c.cells.length],.c (.rs 2 0 (aN code F (ch code s)).ev.length),eI (aN code F (ch code s)).out,eB true]) [am (aN code F (ch code s)).c.vars,am (aN code F (ch code s)).c.cells,am (aN code F (ch code s)).ev]):=by
 refine c8 (jB 35 h1 h2 Tryz.func14 Z fun O hF=>?_)
 obtain⟨R,hR⟩: ∃R,R=(aN code F (ch code s)):=⟨_,rfl⟩
 rw[←hR]
 have hC:MC Tryz.prog L 44 [aJ code,em s,eI F] [] (bV (.tup [.c (.pt 0 0 0),eB true]) (ub R)):=by rw[hR];exact qB (code:=code) (s:=s) (F:=F) h1 h2 hcb hs hF2
 refine ac (jx Z (ax ?_))
 refine az (Ent.freeze 4 (e':=[(4,_),(0,_),(1,_),(2,_)]) Z (.cons Z (.c (.box (cs:=Sx.data s) Z (aQ Z))) (fe [0,1,2] Z)) (.skip .nil)) ?_
 refine ax ?_
 refine jf [4,0,2] Z (jl Z (ax ?_))
 refine bi Z (bc (bi Z (jf [15,14,13,9,8,7,6] Z (jK O Z Z Z Z (hC) (ak Z) Z Z Z Z (B0:=17000) Z (ax ?_)))))
 refine aE Z (js Z (jf [11,10,9,8,7,6] Z (jn (aj (ac (aa Z (jf [20,10,9,8,7,6] Z (jn (ab Z (fun z20=>?_) (fun z20=>?_))))))))))
 exact absurd z20 (by decide)
 refine al (aj (jw [10,6] Z (hZ [_,_,_,_,_,_,_,_,_,_,_,_,_,_,_,_,_] [aZ,av [0],av [0,1],av [0,1,2],av (rg 0 4),pn [] 0 1,pn [5] 0 1,pn [5,6] 0 1,pn [5,6,7] 0 1,pn [] 0 1,pn [9] 0 1,pn [9,10] 0 1,pn [9,10,11] 0 1,pe (rg 0 5) 0,pn (rg 0 9++[13]) 1 1,pn (rg 0 15) 1 1,pn (rg 0 16) 1 1] [13] [_,_] (dg Z (kc Z (ai (kc Z (V Z)) (ai (kc Z (V Z)) (ai (kc Z (V Z)) (ai (kc Z (V Z)) (ai (kc Z (V Z)) (ai (kc Z (V Z)) (ai (kc Z (V Z)) (ai (kc Z (V Z)) (ai (eS Z Z Z) (kc Z (kc Z (kc Z trivial)))))))))))))) ?_)))
 refine jw [9,8,7,6] Z (dK ?_)
 refine pm ?_
 refine⟨.inl Z,_,aW,_,Z,[17001,17002,17004],by decide,Z,Z,Z⟩
theorem jV{L:Nat}(h1:4096≤L)(h2:L≤1073741824){code:List In}{s:Sx}{F:Nat}(hcb:bm code=true)(hs:lr s=true)(hF2:F≤2000):MC Tryz.prog L 14 [aJ code,em s,eI F] [] (Plain (.tup [.agg [.d (fP (aN code F (ch code s)).c.vars),.d (fP (aN code F (ch code s)).c.cells)],bt (aN code F (ch code s)).ev,eI (aN code F (ch code s)).out,eB true])):=(tA h1 h2 hcb hs hF2).frozen (.tup (.cons (.agg (.cons (.whole rfl (cV _).symm) (.cons (.whole rfl (cV _).symm) .nil))) (.cons (.c (.whole rfl (cV _).symm)) (.cons (.c .d) (.cons (.c .d) .nil)))))
def ja:Nat→Src→List Int→List Int×Src
  | 0,s,xs=>(xs,s)
  | k+1,s,xs=>ja k (s.pick 9).2 (xs++[(s.pick 9).1-2])
theorem ra: ∀{k:Nat} {s:Src} {xs:List Int},(ja k s xs).2.at_≤s.at_+2*k
 | 0,s,xs=>cJ _
 | k+1,s,xs=>by
  have h1:=ra (k:=k) (s:=(s.pick 9).2) (xs:=xs++[(s.pick 9).1-2])
  have h2:=bk (s:=s) (n:=9)
  rw[ja];omega
theorem lC: ∀{k:Nat} {s:Src} {xs:List Int},s.Ok→(ja k s xs).2.Ok
 | 0,s,xs,h=>h
 | k+1,s,xs,h=>by rw[ja];exact lC h.pick
theorem j6: ∀{k:Nat} {s:Src} {xs:List Int},(ja k s xs).1.length=xs.length+k
 | 0,s,xs=>rfl
 | k+1,s,xs=>by rw[ja,j6,cC,gU];omega
theorem lD: ∀{k:Nat} {s:Src} {xs:List Int},s.Ok→(∀n∈xs,-2≤n∧n≤6)→∀n∈(ja k s xs).1,-2≤n∧n≤6
 | 0,s,xs,h,hx=>hx
 | k+1,s,xs,h,hx=>by
  have h0:=bf h (n:=9) (by omega)
  rw[ja]
  refine lD h.pick (fun n hn=>?_)
  rcases List.mem_append.1 hn with h1|h1
  exact hx n h1
  rw[List.mem_singleton.1 h1];omega
abbrev kx(xs:List Int):B:=.row false 1 (xs.map fun n=>[D.int .i64 n])
def qJ(vs cs:List Int)(s:Src):Sx×Src:=if(s.pick 8).1=0 then(⟨vs.set 0 ([1000000000,-1000000000].getD (((s.pick 8).2.pick 2).1.toNat) default),cs⟩,((s.pick 8).2.pick 2).2)else(⟨vs,cs⟩,(s.pick 8).2)
def qK(vs:List Int)(c:List Int×Src):Sx×Src:=qJ vs c.1 c.2
def nE(v:List Int×Src):Sx×Src:=qK v.1 (ja 8 v.2 [])
def kt(s:Src):Sx×Src:=nE (ja 4 s [])
theorem tG{s:Src}(hs:s.Ok)(ha:s.at_≤999999800):MQ h1 h2 31 [.c (.pt 0 0 0)] [(0,aV s)] (bV (.agg [.rs 1 0 (kt s).1.vars.length,.rs 2 0 (kt s).1.cells.length]) [(0,aV (kt s).2),(1,kx (kt s).1.vars),(2,kx (kt s).1.cells)]):=by
 refine MC.shift 500 Z (MC.keep [500,501,502] (bs:=[aV (kt s).2,kx (kt s).1.vars,kx (kt s).1.cells]) Z Z (jH 42 [500] h1 h2 Tryz.func31 Z fun O hF=>?_))
 refine dK ?_
 obtain⟨R,hR⟩: ∃R,R=kt s:=⟨_,rfl⟩
 rw[←hR]
 refine ac (jl Z (ax ?_))
 refine bc (bg (da O Z Z Z Z Z Z Z Z Z Z Z) Z (ax ?_))
 refine ax ?_
 refine bg (da O Z Z Z Z Z Z Z Z Z Z Z) Z (ax ?_)
 refine ax ?_
 refine js Z (jl Z (ax ?_))
 refine jo Z (ax ?_)
 refine jn (aj (ac (js Z (jn (au (aK (X:=Nat×Src×List Int) (fun x=>⟨[(0,.c (.pt 500 0 0)),(2,.c (.pt 2 0 0)),(3,.c (.pt 3 0 0)),(4,eI (x.1:Nat))],[(2,.box [.d .nils,.d .nils]),(3,.box [.rs 900 0 x.2.2.length,.rs 7 0 0]),(7,kx []),(500,aV x.2.1),(900,kx x.2.2)]⟩) (fun x=>x.2.1.Ok∧ja 4 s []=ja (4-x.1) x.2.1 x.2.2∧x.2.2.length=x.1∧x.1≤4∧x.2.1.at_≤s.at_+2*x.1) (fun x=>4-x.1) (0,s,[]) ((ao 6 900 Z Z).trans ((aI [2,3,7,500,900] (e':=[(0,_),(2,_),(3,_),(4,_)]) Z Z ⟨Z,Z,Z,Z,aD⟩ Z).trans (Ent.to ⟨Z,Z,Z,Z,aD⟩ Z))) ?_ (fun x hi=>?_)))))))
 exact⟨hs,Z,Z,fK _,cJ _⟩
 refine aj (ac (aa Z (jn (ab Z (fun z10=>?_) (fun z10=>?_)))))
 refine al (aj (au ?_))
 have hk:=aB z10
 have hp:=bf hi.1 (n:=9) (by omega)
 have hat:=bk (s:=x.2.1) (n:=9)
 refine uQ [_,_,_,_,_,_,_,_,_] [pn [] 0 2,pn [0] 0 2,aZ,pe [2] 0,pn [2,3] 1 1,pe [2,3,4] 1,pe (rg 0 6) 2,pn (rg 0 7) 3 3,pe (rg 0 8) 3] [3,5,6,8] [_,_,_,_,_] [[],[],[900],[]] (ai (ka Z Z (ka Z Z (kw Z Z))) (ai (ka Z Z (ka Z Z (kw Z Z))) (ka Z Z (ai (ai (cX (ie O [500] (bin:=[aV x.2.1]) Z Z Z Z (cu (s:=x.2.1) (n:=9) h1 h2 hi.1 (by omega) (by omega) (by omega)) Z Z Z Z Z (B0:=17000) Z Z Z Z Z Z)) Z) (ai (ai (ah O Z Z (by omega) (by omega)) Z) (ai (ai (cX (iI O Z Z Z Z Z Z Z Z Z Z Z Z Z)) Z) (ai (ai (gT (own:=false) (xs:=x.2.2.map (fun n:Int=>[D.int .i64 n])) (ys:=[[.int .i64 ((x.2.1.pick 9).1-2)]]) (zs:=(x.2.2++[(x.2.1.pick 9).1-2]).map (fun n:Int=>[D.int .i64 n])) (n:=(x.2.2++[(x.2.1.pick 9).1-2]).length) O Z Z Z Z Z Z Z Z Z Z Z Z Z Z Z Z (.row Z (cV _).symm) (.whole Z Z (.inr ⟨Z,Z⟩)) (by simp) Z (by simp;omega) (by simp;omega) (by simp) (by simp) Z) Z) (ka Z Z (ai (ai (cX (eS Z Z Z)) Z) trivial))))))))) ?_
 refine jw [10,9,0,2,3,4] Z (dK ?_)
 refine ag (js Z ?_)
 first|refine ji Z ?_|refine bP Z Z ?_
 refine js Z (jn ?_)
 refine⟨(x.1+1,(x.2.1.pick 9).2,x.2.2++[(x.2.1.pick 9).1-2]),((ao 19 900 Z Z).trans (aI [2,3,7,500,900] (e':=[(0,_),(2,_),(3,_),(4,_)]) Z Z ⟨Z,Z,Z,Z,aD⟩ Z)).trans (Ent.to ⟨Z,Z,Z,?_,aD⟩ Z),⟨hi.1.pick,?_,by simp only[cC,gU];omega,by simp only;omega,by simp only;omega⟩,by simp only;omega⟩
 exact congrArg (fun z=>some (eI z)) (by simp only;omega)
 rw[hi.2.1,show 4-x.1=(4-(x.1+1))+1 by omega,ja]
 refine bL (aj (ac (js Z (jn (au ?_)))))
 have hk:=bo z10
 obtain⟨k1,s1,xs1⟩:=x
 simp only at hi hk
 obtain rfl:k1=4:=by omega
 obtain⟨ho1,ho2,ho3,ho4,ho5⟩:=hi
 rw[show kt s=nE (xs1,s1)from congrArg nE ho2]at hR
 refine aK (X:=Nat×Src×List Int) (fun y=>⟨[(0,.c (.pt 500 0 0)),(2,.c (.pt 2 0 0)),(3,.c (.pt 3 0 0)),(5,eI (y.1:Nat))],[(2,.box [.d .nils,.d .nils]),(3,.box [.rs 900 0 xs1.length,.rs 901 0 y.2.2.length]),(500,aV y.2.1),(900,kx xs1),(901,kx y.2.2)]⟩) (fun y=>y.2.1.Ok∧ja 8 s1 []=ja (8-y.1) y.2.1 y.2.2∧y.2.2.length=y.1∧y.1≤8∧y.2.1.at_≤s1.at_+2*y.1) (fun y=>8-y.1) (0,s1,[]) ((ao 7 901 Z Z).trans ((aI [2,3,500,900,901] (e':=[(0,_),(2,_),(3,_),(5,_)]) Z Z ⟨Z,Z,Z,Z,aD⟩ Z).trans (Ent.to ⟨Z,Z,Z,Z,aD⟩ Z))) ?_ (fun y hi=>?_)
 exact⟨ho1,Z,Z,fK _,cJ _⟩
 refine aj (ac (aa Z (jn (ab Z (fun z22=>?_) (fun z22=>?_)))))
 refine al (aj (au ?_))
 have hk:=aB z22
 have hp:=bf hi.1 (n:=9) (by omega)
 have hat:=bk (s:=y.2.1) (n:=9)
 refine uQ [_,_,_,_,_,_,_,_,_] [pn [] 0 2,pn [0] 0 2,aZ,pe [2] 0,pn [2,3] 1 1,pe [2,3,4] 1,pe (rg 0 6) 2,pn (rg 0 7) 3 3,pe (rg 0 8) 3] [3,5,6,8] [_,_,_,_,_] [[],[],[901],[]] (ai (ka Z Z (ka Z Z (kw Z Z))) (ai (ka Z Z (ka Z Z (kw Z Z))) (ka Z Z (ai (ai (cX (ie O [500] (bin:=[aV y.2.1]) Z Z Z Z (cu (s:=y.2.1) (n:=9) h1 h2 hi.1 (by omega) (by omega) (by omega)) Z Z Z Z Z (B0:=29000) Z Z Z Z Z Z)) Z) (ai (ai (ah O Z Z (by omega) (by omega)) Z) (ai (ai (cX (iI O Z Z Z Z Z Z Z Z Z Z Z Z Z)) Z) (ai (ai (gT (own:=false) (xs:=y.2.2.map (fun n:Int=>[D.int .i64 n])) (ys:=[[.int .i64 ((y.2.1.pick 9).1-2)]]) (zs:=(y.2.2++[(y.2.1.pick 9).1-2]).map (fun n:Int=>[D.int .i64 n])) (n:=(y.2.2++[(y.2.1.pick 9).1-2]).length) O Z Z Z Z Z Z Z Z Z Z Z Z Z Z Z Z (.row Z (cV _).symm) (.whole Z Z (.inr ⟨Z,Z⟩)) (by simp) Z (by simp;omega) (by simp;omega) (by simp) (by simp) Z) Z) (ka Z Z (ai (ai (cX (eS Z Z Z)) Z) trivial))))))))) ?_
 refine jw [22,21,0,2,3,5] Z (dK ?_)
 refine ag (js Z ?_)
 first|refine ji Z ?_|refine bP Z Z ?_
 refine js Z (jn ?_)
 refine⟨(y.1+1,(y.2.1.pick 9).2,y.2.2++[(y.2.1.pick 9).1-2]),((ao 31 901 Z Z).trans (aI [2,3,500,900,901] (e':=[(0,_),(2,_),(3,_),(5,_)]) Z Z ⟨Z,Z,Z,Z,aD⟩ Z)).trans (Ent.to ⟨Z,Z,Z,?_,aD⟩ Z),⟨hi.1.pick,?_,by simp only[cC,gU];omega,by simp only;omega,by simp only;omega⟩,by simp only;omega⟩
 exact congrArg (fun z=>some (eI z)) (by simp only;omega)
 rw[hi.2.1,show 8-y.1=(8-(y.1+1))+1 by omega,ja]
 refine bL (aj (ac ?_))
 have hk:=bo z22
 obtain⟨k2,s2,ys2⟩:=y
 simp only at hi hk
 obtain rfl:k2=8:=by omega
 obtain⟨hq1,hq2,hq3,hq4,hq5⟩:=hi
 rw[show nE (xs1,s1)=qJ xs1 ys2 s2 from congrArg (qK xs1) hq2]at hR
 have hat2:=bk (s:=s2) (n:=8)
 refine js Z (ap O [500] (bin:=[aV s2]) Z Z Z Z (kE (s:=s2) (n:=8) h1 h2 hq1 (by omega) (by omega) (by omega)) Z Z Z Z Z Z (B0:=35000) Z Z (ax ?_))
 refine jn (ab Z (fun z34=>?_) (fun z34=>?_))
 refine ng O _ [_,_,_,_,_,_,_] [pn [] 0 1,pn [0] 0 1,aZ,aZ,pe [2,3] 0,pn (rg 0 5) 1 1,pe (rg 0 6) 1] [4,6] 0 [_,_,_] [] Z Z (by decide) (by decide) (by decide) Z (by kernel_rfl) (ai (ai (ai (cX (jF (V Z) Z Z)) Z) (ai (cX (jF (V Z) Z Z)) Z)) (ai (ai (ai (bH trivial (.inl (V Z))) Z) (ai (bH trivial (.inl (V Z))) Z)) (ai (ai (bH (.inl (V Z)) (.inl (V Z))) Z) (ai (ai (bH (.inr (jG O Z Z Z Z Z Z Z Z Z Z Z Z Z (by repeat' (first|exact .nil|refine .skip ?_|refine cU Z ?_|refine .cons Z (.box (FMs.keep Z)) ?_)))) (.inr (jG O Z Z Z Z Z Z Z Z Z Z Z Z Z (by repeat' (first|exact .nil|refine .skip ?_|refine cU Z ?_|refine .cons Z (.box (FMs.keep Z)) ?_))))) Z) (ai (ai (bH (cX (ie O [500] (bin:=[aV (s2.pick 8).2]) Z Z Z Z (mq (s:=(s2.pick 8).2) (xs:=[1000000000,-1000000000]) h1 h2 hq1.pick (by omega) (by decide) (by decide)) Z Z Z Z Z (B0:=40000) Z Z Z Z Z Z)) (cX (ie O [500] (bin:=[aV (s2.pick 8).2]) Z Z Z Z (mq (s:=(s2.pick 8).2) (xs:=[1000000000,-1000000000]) h1 h2 hq1.pick (by omega) (by decide) (by decide)) Z Z Z Z Z (B0:=40000) Z Z Z Z Z Z))) Z) (ai (ai (bH trivial (.inl (aC (c:=(0:Int)≤0∧(0:Int)<((xs1.length:Nat):Int)) (v:=.c (.pt 900 0 0)) O Z Z (by omega)))) Z) (ai (ai (bH trivial (cX (cB (ex:=[.int .i64 (xs1.getD 0 default)]) (xs':=(xs1.set 0 ([1000000000,-1000000000].getD (((s2.pick 8).2.pick 2).1.toNat) default)).map (fun n:Int=>[D.int .i64 n])) O Z Z Z Z Z Z Z Z Z Z Z Z Z Z Z (gj (by omega)) (by rw[List.map_set];rfl) Z))) Z) trivial))))))) ?_
 refine jw [34,33,22,21,0,2,3,5] Z (dK ?_)
 refine ac (js Z (jo Z (ax ?_)))
 refine jr ?_
 have ho:=aB z34
 rw[show R=(⟨xs1.set 0 ([1000000000,-1000000000].getD (((s2.pick 8).2.pick 2).1.toNat) default),ys2⟩,((s2.pick 8).2.pick 2).2)from hR.trans (if_pos ho)]
 simp only[List.length_set]
 refine⟨.inl trivial,_,(ao 900 501 Z Z).trans (ao 901 502 Z Z),_,Z,Z,Z⟩
 refine al (ac (js Z (jo Z (ax ?_))))
 refine jr ?_
 have ho:=bo z34
 rw[show R=(⟨xs1,ys2⟩,(s2.pick 8).2)from hR.trans (if_neg ho)]
 refine⟨.inl Z,_,(ao 900 501 Z Z).trans (ao 901 502 Z Z),_,Z,Z,Z⟩
theorem jX{vs:List Int}{n:Nat}(hl:vs.length=n)(h: ∀v∈vs,ic v=true):cN vs n=true:=by
 unfold cN
 rw[decide_eq_true (by omega),List.all_eq_true.2 h];rfl
theorem oH{vs:List Int}{n:Nat}(h:cN vs n=true):vs.length=n:=by
 unfold cN at h
 cases hl:decide ((vs.length:Int)=n)with
 | true=>have:=aB hl;omega
 | false=>rw[hl]at h;simp at h
theorem oI{vs:List Int}{n:Nat}(h:cN vs n=true): ∀v∈vs,ic v=true:=by
 unfold cN at h
 cases ha:vs.all ic with
 | true=>exact List.all_eq_true.1 ha
 | false=>rw[ha]at h;simp at h
theorem lE{v:Int}(h: -1000000000≤v∧v≤1000000000):ic v=true:=by
 unfold ic;simp;omega
theorem oG{vs:List Int}{n j:Nat}{v:Int}(h:cN vs n=true)(hv: -1000000000≤v∧v≤1000000000):cN (vs.set j v) n=true:=
  jX (by rw[List.length_set];exact oH h) (fun u hu=>by
 rcases List.mem_or_eq_of_mem_set hu with h1|h1
 exact oI h u h1
 rw[h1];exact lE hv)
theorem q9{s:Src}(h:s.Ok):cN (kt s).1.vars 4=true∧cN (kt s).1.cells 8=true∧(kt s).2.Ok:=by
 have a1:=lC (k:=4) (xs:=[]) h
 have a2:=lD (k:=4) (xs:=[]) h (fun n hn=>by cases hn)
 have a3:=j6 (k:=4) (s:=s) (xs:=[])
 have b1:=lC (k:=8) (xs:=[]) a1
 have b2:=lD (k:=8) (xs:=[]) a1 (fun n hn=>by cases hn)
 have b3:=j6 (k:=8) (s:=(ja 4 s []).2) (xs:=[])
 unfold kt nE qK
 generalize ja 8 (ja 4 s []).2 []=c at b1 b2 b3
 generalize ja 4 s []=v at a1 a2 a3
 have hv:cN v.1 4=true:=jX (by rw[a3];rfl) (fun u hu=>lE (by have:=a2 u hu;omega))
 have hc:cN c.1 8=true:=jX (by rw[b3];rfl) (fun u hu=>lE (by have:=b2 u hu;omega))
 have hp:=bf (b1.pick (n:=8)) (n:=2) (by omega)
 unfold qJ;split
 refine⟨oG hv ?_,hc,b1.pick.pick⟩
 generalize ((c.2.pick 8).2.pick 2).1=z at hp
 rcases(show z=0∨z=1 by omega)with rfl|rfl<;>decide
 exact⟨hv,hc,b1.pick⟩
theorem kC{ys:List Int}:MQ h1 h2 5 [.c (.d (bys xs)),.c (.d (bys ys))] [] (Plain (eB (bif decide ((48:Int)<xs.length)then true else decide ((48:Int)<ys.length)))):=by
 refine aF ?_ Z
 refine jB 13 h1 h2 Tryz.func5 Z fun O hF=>?_
 refine ac (js Z (bc (js Z ?_)))
 first|refine cW Z ?_|refine js Z ?_|refine bP Z Z ?_
 refine aa Z (jf [8,4,1] Z (bz 3 Z Z Z (fun hx=>ba hx Z (dz hx (bF O Z Z Z Z Z Z Z Z) Z (ba hx Z (AN.nil)))) Z Z ?_))
 first|refine ae (bq O Z Z Z Z Z) Z ?_|refine ae (Val.pickB O Z Z Z Z Z) Z ?_|refine ae (aU O Z Z Z Z Z) Z ?_
 refine js Z (jf [4] Z (jr ?_))
 refine aO Z ?_
 rfl
theorem tC(hx: ∀n∈xs,0≤n∧n≤255):MQ h1 h2 7 [.c (.d (bys xs))] [] (Plain (em (kt ⟨xs,0,0⟩).1)):=by
 refine MC.data (jB 8 h1 h2 Tryz.func7 Z fun O hF=>?_)
 obtain⟨R,hR⟩: ∃R,R=kt ⟨xs,0,0⟩:=⟨_,rfl⟩
 rw[←hR]
 refine ac (jl Z (ax ?_))
 refine bc (js Z (jf [4,2] Z (ap O [] (bin:=[]) Z Z Z Z (qD (xs:=xs) h1 h2) Z Z Z Z Z Z (B0:=6000) Z Z (ax ?_))))
 refine js Z (jf [3,2] Z (bc (js Z (jf [6,2] Z (ap O [6000] (bin:=[aV ⟨xs,0,0⟩]) Z Z Z Z (tG (s:=⟨xs,0,0⟩) h1 h2 ⟨hx⟩ (by show(0:Nat)≤999999800;decide)) Z Z Z Z Z Z (B0:=8000) Z Z (ax ?_))))))
 rw[←hR]
 refine jf [7,2] Z (jo Z (ax ?_))
 refine jr ?_
 refine aO Z ?_
 exact .v (.agg (.cons (.whole Z (cV _).symm) (.cons (.whole Z (cV _).symm) .nil)))
def cY(o n:Int)(s:Src):Int×Src:=
  if o=0∨o=4 then(if((s.pick 9).2.pick 20).1=0 then([1000000,-1000000].getD (((s.pick 9).2.pick 20).2.pick 2).1.toNat default,(((s.pick 9).2.pick 20).2.pick 2).2)else((s.pick 9).1-3,((s.pick 9).2.pick 20).2))
  else if o=1∨o=2 then s.pick 4
  else if o=5∨o=6 then s.pick (if n+1<80 then n+1 else 80)
  else if o=9 then s.pick 4 else(0,s)
def lp(n:Int)(s:Src):In×Src:=(⟨(s.pick 12).1,(cY (s.pick 12).1 n (s.pick 12).2).1⟩,(cY (s.pick 12).1 n (s.pick 12).2).2)
theorem q7{o n:Int}{s:Src}(h:s.Ok):(cY o n s).2.Ok:=by
 unfold cY
 split
 split
 exact h.pick.pick.pick
 exact h.pick.pick
 split
 exact h.pick
 split
 exact h.pick
 split
 exact h.pick
 exact h
theorem q8{o n:Int}{s:Src}:(cY o n s).2.at_≤s.at_+6:=by
 have h1:=bk (s:=s) (n:=9)
 have h2:=bk (s:=(s.pick 9).2) (n:=20)
 have h3:=bk (s:=((s.pick 9).2.pick 20).2) (n:=2)
 have h4:=bk (s:=s) (n:=4)
 have h5:=bk (s:=s) (n:=if n+1<80 then n+1 else 80)
 unfold cY
 split
 split
 show(((s.pick 9).2.pick 20).2.pick 2).2.at_≤_;omega
 show((s.pick 9).2.pick 20).2.at_≤_;omega
 split
 omega
 split
 omega
 split
 omega
 exact Nat.le_add_right _ _
theorem q6{n:Int}{s:Src}:(lp n s).2.at_≤s.at_+8:=by
 have h1:=bk (s:=s) (n:=12)
 have h2:=q8 (o:=(s.pick 12).1) (n:=n) (s:=(s.pick 12).2)
 show(cY _ n _).2.at_≤_
 omega
theorem oi{n:Int}{s:Src}(h:s.Ok):(lp n s).2.Ok:=q7 h.pick
theorem qp{x:Int}(h: -1000000≤x∧x≤1000000):gx x=true:=by unfold gx;simp;omega
theorem sg{z:Int}(h:0≤z∧z<2):gx ([1000000,-1000000].getD z.toNat default)=true:=by
 rcases(show z=0∨z=1 by omega)with rfl|rfl<;>decide
theorem nR{o a:Int}(h:o=0∨o=4)(ha:gx a=true):aw ⟨o,a⟩=true:=by
 show(if o=0∨o=4 then gx a else _)=true
 rw[if_pos h];exact ha
theorem kA{a lo hi:Int}(h:lo≤a∧a≤hi):bU lo hi a=true:=by unfold bU;rw[decide_eq_true h.1,decide_eq_true h.2];rfl
theorem nQ{o a:Int}(h:o=1∨o=2)(ha:0≤a∧a≤3):aw ⟨o,a⟩=true:=by
 show(if o=0∨o=4 then gx a else if o=1∨o=2 then bU 0 3 a else _)=true
 rw[if_neg (by omega),if_pos h];exact kA ha
theorem nP{o a:Int}(h:o=5∨o=6)(ha:0≤a∧a≤79):aw ⟨o,a⟩=true:=by
 show(if o=0∨o=4 then gx a else if o=1∨o=2 then bU 0 3 a else if o=5∨o=6 then bU 0 79 a else _)=true
 rw[if_neg (by omega),if_neg (by omega),if_pos h];exact kA ha
theorem nO{o a:Int}(h:o=9)(ha:0≤a∧a≤3):aw ⟨o,a⟩=true:=by
 show(if o=0∨o=4 then gx a else if o=1∨o=2 then bU 0 3 a else if o=5∨o=6 then bU 0 79 a else if o=9 then bU 0 3 a else _)=true
 rw[if_neg (by omega),if_neg (by omega),if_neg (by omega),if_pos h];exact kA ha
theorem sX{o a:Int}(h:o=3∨o=7∨o=8∨o=10∨o=11)(ha:a=0):aw ⟨o,a⟩=true:=by
 show(if o=0∨o=4 then gx a else if o=1∨o=2 then bU 0 3 a else if o=5∨o=6 then bU 0 79 a else if o=9 then bU 0 3 a else if o=3∨o=7∨o=8∨o=10∨o=11 then decide (a=0)else false)=true
 rw[if_neg (by omega),if_neg (by omega),if_neg (by omega),if_neg (by omega),if_pos h];exact decide_eq_true ha
theorem q5{n:Int}{s:Src}(h:s.Ok)(hn:1≤n):aw (lp n s).1=true:=by
 have h0:=bf h (n:=12) (by omega)
 have hp:=h.pick (n:=12)
 show aw ⟨(s.pick 12).1,(cY (s.pick 12).1 n (s.pick 12).2).1⟩=true
 generalize (s.pick 12).1=o at h0
 generalize (s.pick 12).2=s at hp
 have h9:=bf hp (n:=9) (by omega)
 have h4:=bf hp (n:=4) (by omega)
 have h8:=bf hp (n:=if n+1<80 then n+1 else 80) (by split<;>omega)
 have hle:(if n+1<80 then n+1 else(80:Int))≤80:=by split<;>omega
 have h80:(s.pick (if n+1<80 then n+1 else 80)).1≤79:=by omega
 unfold cY
 split
 rename_i e
 refine nR e ?_
 split
 exact sg (bf (hp.pick (n:=9)).pick (n:=2) (by omega))
 exact qp (by show -1000000≤(s.pick 9).1-3∧(s.pick 9).1-3≤1000000;omega)
 rename_i e
 split
 rename_i e2;exact nQ e2 (by omega)
 rename_i e2
 split
 rename_i e3;exact nP e3 ⟨h8.1,h80⟩
 rename_i e3
 split
 rename_i e4;exact nO e4 (by omega)
 rename_i e4;exact sX (by omega) Z
theorem qA{a b:Int}:MQ h1 h2 103 [eI a,eI b] [] (Plain (eI (if a<b then a else b))):=by
 refine aF ?_ Z
 refine jB 10 h1 h2 Tryz.func103 Z fun O hF=>?_
 refine ac (js Z (jn (aj (ac (bi Z (jn (ab Z (fun z7=>?_) (fun z7=>?_))))))))
 refine ac (aa Z (jr ?_))
 refine aO Z ?_
 rw[if_pos (aB z7)]
 refine al (ac (aa Z (jr ?_)))
 refine aO Z ?_
 rw[if_neg (bo z7)]
theorem tv{s:Src}(hs:s.Ok)(ha:s.at_≤999999900)(hn:1≤n)(hn2:n≤1000):MQ h1 h2 66 [.c (.pt 0 0 0),eI n] [(0,aV s)] (bV (.agg ((lp n s).1.cells.map .d)) [(0,aV (lp n s).2)]):=by
 refine MC.shift 500 Z (MC.keep [500] (bs:=[aV (lp n s).2]) Z Z (jH 45 [500] h1 h2 Tryz.func66 Z fun O hF=>?_))
 refine dK ?_
 obtain⟨R,hR⟩: ∃R,R=lp n s:=⟨_,rfl⟩
 rw[←hR]
 have h12:=bf hs (n:=12) (by omega)
 have hat0:=bk (s:=s) (n:=12)
 refine ac (jl Z (ax ?_))
 refine jn (ac (js Z (ap O [500] (bin:=[aV s]) Z Z Z Z (cu (s:=s) (n:=12) h1 h2 hs (by omega) (by omega) (by omega)) Z Z Z Z Z Z (B0:=8000) Z Z (ax ?_))))
 obtain⟨o,ho⟩: ∃o,o=(s.pick 12).1:=⟨_,rfl⟩
 obtain⟨s1,hs1e⟩: ∃s1,s1=(s.pick 12).2:=⟨_,rfl⟩
 rw[←ho]at h12
 rw[←hs1e]at hat0
 rw[←ho,←hs1e]
 have hs1:s1.Ok:=by rw[hs1e];exact hs.pick
 have hat1:=bk (s:=s1) (n:=9)
 have hat2:=bk (s:=(s1.pick 9).2) (n:=20)
 have hat3:=bk (s:=((s1.pick 9).2.pick 20).2) (n:=2)
 refine js Z (jf [8,4,0,1] Z (jl Z (ax ?_)))
 refine jo Z (ax ?_)
 refine jn (aj (ac (aa Z (jn ?_))))
 rcases(show o=0∨o=4∨o=1∨o=2∨o=5∨o=6∨o=9∨(o≠0∧o≠4∧o≠1∧o≠2∧o≠5∧o≠6∧o≠9) by omega)with hx|hx|hx|hx|hx|hx|hx|hx
 refine au (aj (ac (aa Z (jn (ab Z (fun z11=>?_) (fun z11=>?_))))))
 refine al (ab Z (fun z11=>?_) (fun z11=>?_))
 refine ac (js Z (jf [14,12,10,9,5,8,4,0,1] Z (ap O [500] (bin:=[aV s1]) Z Z Z Z (cu (s:=s1) (n:=9) h1 h2 hs1 (by omega) (by omega) (by omega)) Z Z Z Z Z Z (B0:=16000) Z Z (ax ?_))))
 have hp9:=bf hs1 (n:=9) (by omega)
 refine ae (ah O Z Z (by omega) (by omega)) Z (js Z (jf [17,16,12,10,9,5,8,4,0,1] Z (jo Z (ax ?_))))
 refine jf [12,10,9,5,8,4,0,1] Z (jn (ac (js Z (ap O [500] (bin:=[aV (s1.pick 9).2]) Z Z Z Z (kE (s:=(s1.pick 9).2) (n:=20) h1 h2 hs1.pick (by omega) (by omega) (by omega)) Z Z Z Z Z Z (B0:=20000) Z Z (ax ?_)))))
 refine jn (ab Z (fun z19=>?_) (fun z19=>?_))
 refine ag (js Z (jf [20,18,12,10,9,5,8,4,0,1] Z ?_))
 have hone:=aB z19
 refine bg (da O Z Z Z Z Z Z Z Z Z Z Z) Z (ax ?_)
 refine az (aI [4,5,500,21] (e':=[(21,_),(20,_),(0,_),(4,_),(5,_)]) Z Z ⟨Z,Z,Z,Z,Z,aD⟩ Z) (az (Ent.freeze 21 (e':=[(21,_),(20,_),(0,_),(4,_),(5,_)]) Z (.cons Z (.c (.row Z Z)) (fe [20,0,4,5] Z)) (gf Z (gf Z (gf Z (.skip .nil))))) ?_)
 refine ax ?_
 refine ax ?_
 refine ap O [500] (bin:=[aV ((s1.pick 9).2.pick 20).2]) Z Z Z Z (mq (s:=((s1.pick 9).2.pick 20).2) (xs:=[1000000,-1000000]) h1 h2 hs1.pick.pick (by omega) (by decide) (by decide)) Z Z Z Z Z Z (B0:=23000) Z Z (ax ?_)
 refine js Z (jf [23,22,0,4,5] Z (jo Z (ax ?_)))
 refine jf [0,4,5] Z (jn (ac (js Z (jo Z (ax ?_)))))
 refine jr ?_
 have hG:cY o n s1=([1000000,-1000000].getD (((s1.pick 9).2.pick 20).2.pick 2).1.toNat default,(((s1.pick 9).2.pick 20).2.pick 2).2):=by unfold cY;rw[if_pos (by omega),if_pos hone]
 rw[show R=(⟨o,(cY o n s1).1⟩,(cY o n s1).2)from by rw[hR,ho,hs1e];rfl,hG]
 refine⟨.inl Z,_,aW,_,Z,Z,Z⟩
 refine al (ac (js Z (jf [44,18,12,10,9,5,8,4,0,1] Z (jo Z (ax ?_)))))
 refine jr ?_
 have hG:cY o n s1=((s1.pick 9).1-3,((s1.pick 9).2.pick 20).2):=by unfold cY;rw[if_pos (by omega),if_neg (bo z19)]
 rw[show R=(⟨o,(cY o n s1).1⟩,(cY o n s1).2)from by rw[hR,ho,hs1e];rfl,hG]
 refine⟨.inl Z,_,aW,_,Z,Z,Z⟩
 exact absurd hx (bo z11)
 exact absurd hx (bo z11)
 refine au (aj (ac (aa Z (jn (ab Z (fun z11=>?_) (fun z11=>?_))))))
 exact absurd (aB z11) (by omega)
 refine ag (aa Z (jn (ab Z (fun z11=>?_) (fun z11=>?_))))
 refine ac (js Z (jf [14,13,12,10,9,5,8,4,0,1] Z (ap O [500] (bin:=[aV s1]) Z Z Z Z (cu (s:=s1) (n:=9) h1 h2 hs1 (by omega) (by omega) (by omega)) Z Z Z Z Z Z (B0:=16000) Z Z (ax ?_))))
 have hp9:=bf hs1 (n:=9) (by omega)
 refine ae (ah O Z Z (by omega) (by omega)) Z (js Z (jf [17,16,13,12,10,9,5,8,4,0,1] Z (jo Z (ax ?_))))
 refine jf [13,12,10,9,5,8,4,0,1] Z (jn (ac (js Z (ap O [500] (bin:=[aV (s1.pick 9).2]) Z Z Z Z (kE (s:=(s1.pick 9).2) (n:=20) h1 h2 hs1.pick (by omega) (by omega) (by omega)) Z Z Z Z Z Z (B0:=20000) Z Z (ax ?_)))))
 refine jn (ab Z (fun z19=>?_) (fun z19=>?_))
 refine ag (js Z (jf [20,18,13,12,10,9,5,8,4,0,1] Z ?_))
 have hone:=aB z19
 refine bg (da O Z Z Z Z Z Z Z Z Z Z Z) Z (ax ?_)
 refine az (aI [4,5,500,21] (e':=[(21,_),(20,_),(0,_),(4,_),(5,_)]) Z Z ⟨Z,Z,Z,Z,Z,aD⟩ Z) (az (Ent.freeze 21 (e':=[(21,_),(20,_),(0,_),(4,_),(5,_)]) Z (.cons Z (.c (.row Z Z)) (fe [20,0,4,5] Z)) (gf Z (gf Z (gf Z (.skip .nil))))) ?_)
 refine ax ?_
 refine ax ?_
 refine ap O [500] (bin:=[aV ((s1.pick 9).2.pick 20).2]) Z Z Z Z (mq (s:=((s1.pick 9).2.pick 20).2) (xs:=[1000000,-1000000]) h1 h2 hs1.pick.pick (by omega) (by decide) (by decide)) Z Z Z Z Z Z (B0:=23000) Z Z (ax ?_)
 refine js Z (jf [23,22,0,4,5] Z (jo Z (ax ?_)))
 refine jf [0,4,5] Z (jn (ac (js Z (jo Z (ax ?_)))))
 refine jr ?_
 have hG:cY o n s1=([1000000,-1000000].getD (((s1.pick 9).2.pick 20).2.pick 2).1.toNat default,(((s1.pick 9).2.pick 20).2.pick 2).2):=by unfold cY;rw[if_pos (by omega),if_pos hone]
 rw[show R=(⟨o,(cY o n s1).1⟩,(cY o n s1).2)from by rw[hR,ho,hs1e];rfl,hG]
 refine⟨.inl Z,_,aW,_,Z,Z,Z⟩
 refine al (ac (js Z (jf [44,18,13,12,10,9,5,8,4,0,1] Z (jo Z (ax ?_)))))
 refine jr ?_
 have hG:cY o n s1=((s1.pick 9).1-3,((s1.pick 9).2.pick 20).2):=by unfold cY;rw[if_pos (by omega),if_neg (bo z19)]
 rw[show R=(⟨o,(cY o n s1).1⟩,(cY o n s1).2)from by rw[hR,ho,hs1e];rfl,hG]
 refine⟨.inl Z,_,aW,_,Z,Z,Z⟩
 exact absurd hx (bo z11)
 refine au (aj (ac (aa Z (jn (ab Z (fun z11=>?_) (fun z11=>?_))))))
 exact absurd (aB z11) (by omega)
 refine ag (aa Z (jn (ab Z (fun z11=>?_) (fun z11=>?_))))
 exact absurd (aB z11) (by omega)
 refine aj (ac (aa Z (jf [24,13,12,10,9,5,8,4,0,1] Z (jn (ab Z (fun z24=>?_) (fun z24=>?_))))))
 refine al (ab Z (fun z24=>?_) (fun z24=>?_))
 refine ag (js Z (jf [27,13,12,10,9,5,8,4,0,1] Z (ap O [500] (bin:=[aV s1]) Z Z Z Z (cu (s:=s1) (n:=4) h1 h2 hs1 (by omega) (by omega) (by omega)) Z Z Z Z Z Z (B0:=29000) Z Z (ax ?_))))
 refine js Z (jf [29,28,13,12,10,9,5,8,4,0,1] Z (jo Z (ax ?_)))
 refine jf [13,12,10,9,5,8,4,0,1] Z (jn (ac (js Z (jo Z (ax ?_)))))
 refine jr ?_
 have hG:cY o n s1=s1.pick 4:=by unfold cY;rw[if_neg (by omega),if_pos (by omega)]
 rw[show R=(⟨o,(cY o n s1).1⟩,(cY o n s1).2)from by rw[hR,ho,hs1e];rfl,hG]
 refine⟨.inl Z,_,aW,_,Z,Z,Z⟩
 exact absurd hx (bo z24)
 exact absurd hx (bo z24)
 refine au (aj (ac (aa Z (jn (ab Z (fun z11=>?_) (fun z11=>?_))))))
 exact absurd (aB z11) (by omega)
 refine ag (aa Z (jn (ab Z (fun z11=>?_) (fun z11=>?_))))
 exact absurd (aB z11) (by omega)
 refine aj (ac (aa Z (jf [24,13,12,10,9,5,8,4,0,1] Z (jn (ab Z (fun z24=>?_) (fun z24=>?_))))))
 exact absurd (aB z24) (by omega)
 refine ag (aa Z (jn (ab Z (fun z24=>?_) (fun z24=>?_))))
 refine ag (js Z (jf [27,26,13,12,10,9,5,8,4,0,1] Z (ap O [500] (bin:=[aV s1]) Z Z Z Z (cu (s:=s1) (n:=4) h1 h2 hs1 (by omega) (by omega) (by omega)) Z Z Z Z Z Z (B0:=29000) Z Z (ax ?_))))
 refine js Z (jf [29,28,26,13,12,10,9,5,8,4,0,1] Z (jo Z (ax ?_)))
 refine jf [26,13,12,10,9,5,8,4,0,1] Z (jn (ac (js Z (jo Z (ax ?_)))))
 refine jr ?_
 have hG:cY o n s1=s1.pick 4:=by unfold cY;rw[if_neg (by omega),if_pos (by omega)]
 rw[show R=(⟨o,(cY o n s1).1⟩,(cY o n s1).2)from by rw[hR,ho,hs1e];rfl,hG]
 refine⟨.inl Z,_,aW,_,Z,Z,Z⟩
 exact absurd hx (bo z24)
 refine au (aj (ac (aa Z (jn (ab Z (fun z11=>?_) (fun z11=>?_))))))
 exact absurd (aB z11) (by omega)
 refine ag (aa Z (jn (ab Z (fun z11=>?_) (fun z11=>?_))))
 exact absurd (aB z11) (by omega)
 refine aj (ac (aa Z (jf [24,13,12,10,9,5,8,4,0,1] Z (jn (ab Z (fun z24=>?_) (fun z24=>?_))))))
 exact absurd (aB z24) (by omega)
 refine ag (aa Z (jn (ab Z (fun z24=>?_) (fun z24=>?_))))
 exact absurd (aB z24) (by omega)
 refine aj (ac (aa Z (jf [30,26,13,12,10,9,5,8,4,0,1] Z (jn (ab Z (fun z30=>?_) (fun z30=>?_))))))
 refine al (ab Z (fun z30=>?_) (fun z30=>?_))
 refine ag (aa Z (ae (ah O Z Z (by omega) (by omega)) Z (jf [35,33,26,13,12,10,9,5,8,4,0] Z (aS Z (qA (a:=n+1) (b:=80) h1 h2) 37000 Z (jf [36,33,26,13,12,10,9,5,8,4,0] Z (ap O [500] (bin:=[aV s1]) Z Z Z Z (cu (s:=s1) (n:=(if n+1<80 then n+1 else 80)) h1 h2 hs1 (by omega) (by split<;>omega) (by split<;>omega)) Z Z Z Z Z Z (B0:=38000) Z Z (ax ?_)))))))
 refine js Z (jf [38,37,26,13,12,10,9,5,8,4,0] Z (jo Z (ax ?_)))
 refine jf [26,13,12,10,9,5,8,4,0] Z (jn (ac (js Z (jo Z (ax ?_)))))
 refine jr ?_
 have hG:cY o n s1=s1.pick (if n+1<80 then n+1 else 80):=by unfold cY;rw[if_neg (by omega),if_neg (by omega),if_pos (by omega)]
 rw[show R=(⟨o,(cY o n s1).1⟩,(cY o n s1).2)from by rw[hR,ho,hs1e];rfl,hG]
 refine⟨.inl Z,_,aW,_,Z,Z,Z⟩
 exact absurd hx (bo z30)
 exact absurd hx (bo z30)
 refine au (aj (ac (aa Z (jn (ab Z (fun z11=>?_) (fun z11=>?_))))))
 exact absurd (aB z11) (by omega)
 refine ag (aa Z (jn (ab Z (fun z11=>?_) (fun z11=>?_))))
 exact absurd (aB z11) (by omega)
 refine aj (ac (aa Z (jf [24,13,12,10,9,5,8,4,0,1] Z (jn (ab Z (fun z24=>?_) (fun z24=>?_))))))
 exact absurd (aB z24) (by omega)
 refine ag (aa Z (jn (ab Z (fun z24=>?_) (fun z24=>?_))))
 exact absurd (aB z24) (by omega)
 refine aj (ac (aa Z (jf [30,26,13,12,10,9,5,8,4,0,1] Z (jn (ab Z (fun z30=>?_) (fun z30=>?_))))))
 exact absurd (aB z30) (by omega)
 refine ag (aa Z (jn (ab Z (fun z30=>?_) (fun z30=>?_))))
 refine ag (aa Z (ae (ah O Z Z (by omega) (by omega)) Z (jf [35,33,32,26,13,12,10,9,5,8,4,0] Z (aS Z (qA (a:=n+1) (b:=80) h1 h2) 37000 Z (jf [36,33,32,26,13,12,10,9,5,8,4,0] Z (ap O [500] (bin:=[aV s1]) Z Z Z Z (cu (s:=s1) (n:=(if n+1<80 then n+1 else 80)) h1 h2 hs1 (by omega) (by split<;>omega) (by split<;>omega)) Z Z Z Z Z Z (B0:=38000) Z Z (ax ?_)))))))
 refine js Z (jf [38,37,32,26,13,12,10,9,5,8,4,0] Z (jo Z (ax ?_)))
 refine jf [32,26,13,12,10,9,5,8,4,0] Z (jn (ac (js Z (jo Z (ax ?_)))))
 refine jr ?_
 have hG:cY o n s1=s1.pick (if n+1<80 then n+1 else 80):=by unfold cY;rw[if_neg (by omega),if_neg (by omega),if_pos (by omega)]
 rw[show R=(⟨o,(cY o n s1).1⟩,(cY o n s1).2)from by rw[hR,ho,hs1e];rfl,hG]
 refine⟨.inl Z,_,aW,_,Z,Z,Z⟩
 exact absurd hx (bo z30)
 refine au (aj (ac (aa Z (jn (ab Z (fun z11=>?_) (fun z11=>?_))))))
 exact absurd (aB z11) (by omega)
 refine ag (aa Z (jn (ab Z (fun z11=>?_) (fun z11=>?_))))
 exact absurd (aB z11) (by omega)
 refine aj (ac (aa Z (jf [24,13,12,10,9,5,8,4,0,1] Z (jn (ab Z (fun z24=>?_) (fun z24=>?_))))))
 exact absurd (aB z24) (by omega)
 refine ag (aa Z (jn (ab Z (fun z24=>?_) (fun z24=>?_))))
 exact absurd (aB z24) (by omega)
 refine aj (ac (aa Z (jf [30,26,13,12,10,9,5,8,4,0,1] Z (jn (ab Z (fun z30=>?_) (fun z30=>?_))))))
 exact absurd (aB z30) (by omega)
 refine ag (aa Z (jn (ab Z (fun z30=>?_) (fun z30=>?_))))
 exact absurd (aB z30) (by omega)
 refine ac (aa Z (jf [39,32,26,13,12,10,9,5,8,4,0,1] Z (jn (ab Z (fun z39=>?_) (fun z39=>?_)))))
 refine ag (js Z (jf [41,32,26,13,12,10,9,5,8,4,0,1] Z (ap O [500] (bin:=[aV s1]) Z Z Z Z (cu (s:=s1) (n:=4) h1 h2 hs1 (by omega) (by omega) (by omega)) Z Z Z Z Z Z (B0:=43000) Z Z (ax ?_))))
 refine js Z (jf [43,42,32,26,13,12,10,9,5,8,4,0,1] Z (jo Z (ax ?_)))
 refine jf [32,26,13,12,10,9,5,8,4,0,1] Z (jn (ac (js Z (jo Z (ax ?_)))))
 refine jr ?_
 have hG:cY o n s1=s1.pick 4:=by unfold cY;rw[if_neg (by omega),if_neg (by omega),if_neg (by omega),if_pos (by omega)]
 rw[show R=(⟨o,(cY o n s1).1⟩,(cY o n s1).2)from by rw[hR,ho,hs1e];rfl,hG]
 refine⟨.inl Z,_,aW,_,Z,Z,Z⟩
 exact absurd hx (bo z39)
 refine au (aj (ac (aa Z (jn (ab Z (fun z11=>?_) (fun z11=>?_))))))
 exact absurd (aB z11) (by omega)
 refine ag (aa Z (jn (ab Z (fun z11=>?_) (fun z11=>?_))))
 exact absurd (aB z11) (by omega)
 refine aj (ac (aa Z (jf [24,13,12,10,9,5,8,4,0,1] Z (jn (ab Z (fun z24=>?_) (fun z24=>?_))))))
 exact absurd (aB z24) (by omega)
 refine ag (aa Z (jn (ab Z (fun z24=>?_) (fun z24=>?_))))
 exact absurd (aB z24) (by omega)
 refine aj (ac (aa Z (jf [30,26,13,12,10,9,5,8,4,0,1] Z (jn (ab Z (fun z30=>?_) (fun z30=>?_))))))
 exact absurd (aB z30) (by omega)
 refine ag (aa Z (jn (ab Z (fun z30=>?_) (fun z30=>?_))))
 exact absurd (aB z30) (by omega)
 refine ac (aa Z (jf [39,32,26,13,12,10,9,5,8,4,0,1] Z (jn (ab Z (fun z39=>?_) (fun z39=>?_)))))
 exact absurd (aB z39) (by omega)
 refine al (ac (js Z (jf [44,32,26,13,12,10,9,5,8,4,0,1] Z (jo Z (ax ?_)))))
 refine jr ?_
 have hG:cY o n s1=(0,s1):=by unfold cY;rw[if_neg (by omega),if_neg (by omega),if_neg (by omega),if_neg (by omega)]
 rw[show R=(⟨o,(cY o n s1).1⟩,(cY o n s1).2)from by rw[hR,ho,hs1e];rfl,hG]
 refine⟨.inl Z,_,aW,_,Z,Z,Z⟩
def sA(s:Src):Src:=(s.pick 4).2
def iZ(s:Src):Src:=((sA s).pick 9).2
def sC(s:Src):Src:=((iZ s).pick 4).2
def jh(n:Int)(s:Src):Src:=((sC s).pick (n+1)).2
def sE(n:Int)(s:Src):Src:=((jh n s).pick 6).2
def o9(c l p st to k:Int):List In:=
  if c=0 then[⟨1,l⟩,⟨0,p⟩,⟨3,0⟩,⟨2,st⟩]else if c=1 then[⟨1,l⟩,⟨4,p⟩,⟨6,to⟩,⟨9,k.tmod 4⟩]
  else if c=2 then[⟨0,p⟩,⟨7,0⟩,⟨2,st⟩,⟨9,st⟩]else if c=3 then[⟨0,p⟩,⟨1,l⟩,⟨8,0⟩,⟨5,to⟩]
  else if c=4 then[⟨1,l⟩,⟨10,0⟩,⟨0,p⟩,⟨2,st⟩]else[⟨1,l⟩,⟨0,p⟩,⟨3,0⟩,⟨6,to⟩]
theorem pZ{c l p st to k:Int}:(o9 c l p st to k).length=4:=by
  unfold o9;repeat' split
  all_goals exact Z
def nv(n k:Int)(s:Src):List In:=o9 ((jh n s).pick 6).1 (s.pick 4).1 (((sA s).pick 9).1-2) ((iZ s).pick 4).1 (4*((sC s).pick (n+1)).1) k
def fy(n:Int):Nat→Src→List In→List In×Src
  | 0,s,out=>(out,s)
  | j+1,s,out=>fy n j (sE n s) (out++nv n (n-(j+1)) s)
def ny(s:Src):List In×Src:=((fy (1+(s.pick 5).1) (1+(s.pick 5).1).toNat (s.pick 5).2 []).1++[⟨11,0⟩],(fy (1+(s.pick 5).1) (1+(s.pick 5).1).toNat (s.pick 5).2 []).2)
theorem il{n:Int}{s:Src}(h:s.Ok):(sE n s).Ok:=by unfold sE jh sC iZ sA;exact h.pick.pick.pick.pick.pick
theorem sO{n:Int}{s:Src}:(sE n s).at_≤s.at_+10∧(sA s).at_≤s.at_+2∧(iZ s).at_≤s.at_+4∧(sC s).at_≤s.at_+6∧(jh n s).at_≤s.at_+8:=by
 have h1:=bk (s:=s) (n:=4)
 have h2:=bk (s:=sA s) (n:=9)
 have h3:=bk (s:=iZ s) (n:=4)
 have h4:=bk (s:=sC s) (n:=n+1)
 have h5:=bk (s:=jh n s) (n:=6)
 show(_:Nat)≤_∧(_:Nat)≤_∧(_:Nat)≤_∧(_:Nat)≤_∧(_:Nat)≤_
 have e1:sA s=(s.pick 4).2:=rfl
 have e2:iZ s=((sA s).pick 9).2:=rfl
 have e3:sC s=((iZ s).pick 4).2:=rfl
 have e4:jh n s=((sC s).pick (n+1)).2:=rfl
 have e5:sE n s=((jh n s).pick 6).2:=rfl
 rw[←e1]at h1;rw[←e2]at h2;rw[←e3]at h3;rw[←e4]at h4;rw[←e5]at h5
 omega
theorem qo{a:Int}(h: -2≤a∧a≤6):gx a=true:=qp (by omega)
theorem qY{n k:Int}{s:Src}(h:s.Ok)(hn:1≤n)(hn2:n≤5)(hk:0≤k): ∀x∈nv n k s,aw x=true:=by
  have hA:(sA s).Ok:=h.pick
  have hB:(iZ s).Ok:=hA.pick
  have hC:(sC s).Ok:=hB.pick
  have hD:(jh n s).Ok:=hC.pick
  have h1:=bf h (n:=4) (by omega)
  have h2:=bf hA (n:=9) (by omega)
  have h3:=bf hB (n:=4) (by omega)
  have h4:=bf hC (n:=n+1) (by omega)
  have h5:=dA hk (show(0:Int)<4 by decide)
  unfold nv o9
  generalize (s.pick 4).1=l at h1
  generalize ((sA s).pick 9).1=p at h2
  generalize ((iZ s).pick 4).1=st at h3
  generalize ((sC s).pick (n+1)).1=to at h4
  have i1:aw ⟨1,l⟩=true:=nQ (.inl Z) (by omega)
  have i0:aw ⟨0,p-2⟩=true:=nR (.inl Z) (qo (by omega))
  have i4:aw ⟨4,p-2⟩=true:=nR (.inr Z) (qo (by omega))
  have i2:aw ⟨2,st⟩=true:=nQ (.inr Z) (by omega)
  have i9:aw ⟨9,st⟩=true:=nO Z (by omega)
  have i9':aw ⟨9,k.tmod 4⟩=true:=nO Z (by omega)
  have i5:aw ⟨5,4*to⟩=true:=nP (.inl Z) (by omega)
  have i6:aw ⟨6,4*to⟩=true:=nP (.inr Z) (by omega)
  have i3:aw ⟨3,0⟩=true:=by decide
  have i7:aw ⟨7,0⟩=true:=by decide
  have i8:aw ⟨8,0⟩=true:=by decide
  have i10:aw ⟨10,0⟩=true:=by decide
  intro x hx
  repeat' split at hx
  all_goals
    simp only[List.mem_cons,List.not_mem_nil,or_false]at hx
    rcases hx with rfl|rfl|rfl|rfl<;>assumption
theorem og{n:Int}(hn:1≤n)(hn2:n≤5): ∀{j:Nat} {s:Src} {out:List In},(j:Int)≤n→s.Ok→(∀x∈out,aw x=true)→(∀x∈(fy n j s out).1,aw x=true)∧(fy n j s out).1.length=out.length+4*j
 | 0,s,out,_,_,h=>⟨h,rfl⟩
 | j + 1,s,out,hj,hs,h=>by
  rw[fy]
  have h1:=og hn hn2 (j:=j) (s:=sE n s) (out:=out++nv n (n-(j+1)) s) (by omega) (il hs) (fun x hx=>by
   rcases List.mem_append.1 hx with h2|h2
   · exact h x h2
   · exact qY hs hn hn2 (by omega) x h2)
  refine⟨h1.1,?_⟩
  rw[h1.2,cC,show(nv n (n-(j+1)) s).length=4 from pZ];omega
theorem qZ{s:Src}(h:s.Ok):bm (ny s).1=true:=by
 have h5:=bf h (n:=5) (by omega)
 have h1:=og (n:=1+(s.pick 5).1) (by omega) (by omega) (j:=(1+(s.pick 5).1).toNat) (s:=(s.pick 5).2) (out:=[]) (by omega) h.pick (fun x hx=>by cases hx)
 unfold bm ny
 rw[bj,List.all_eq_true]
 refine⟨fun x hx=>?_,kA ?_⟩
 rcases List.mem_append.1 hx with h2|h2
 exact h1.1 x h2
 rw[List.mem_singleton.1 h2];decide
 have:=h1.2
 show 1≤(((fy _ _ _ []).1++[_]).length:Int)∧(((fy _ _ _ []).1++[_]).length:Int)≤80
 rw[cC,this,gU,List.length_nil];omega
def md(n:Int):Nat→Src→List In→List In×Src
  | 0,s,out=>(out,s)
  | j+1,s,out=>md n j (lp n s).2 (out++[(lp n s).1])
theorem om{n:Int}(hn:1≤n): ∀{j:Nat} {s:Src} {out:List In},s.Ok→(∀x∈out,aw x=true)→(∀x∈(md n j s out).1,aw x=true)∧(md n j s out).1.length=out.length+j
 | 0,s,out,_,h=>⟨h,rfl⟩
 | j + 1,s,out,hs,h=>by
  rw[md]
  have h1:=om hn (j:=j) (s:=(lp n s).2) (out:=out++[(lp n s).1]) (oi hs) (fun x hx=>by
   rcases List.mem_append.1 hx with h2|h2
   · exact h x h2
   · rw[List.mem_singleton.1 h2];exact q5 hs hn)
  refine⟨h1.1,?_⟩
  rw[h1.2,cC,gU];omega
def pc(s:Src):Int:=if((s.pick 9).2.pick 14).1=0 then 80 else 1+(s.pick 9).1
def t8(s:Src):List In×Src:=md (pc s) (pc s).toNat ((s.pick 9).2.pick 14).2 []
def mb(s:Src):List In×Src:=if(s.pick 3).1=0 then t8 (s.pick 3).2 else ny (s.pick 3).2
theorem oh{s:Src}(h:s.Ok):1≤pc s∧pc s≤80:=by
 have:=bf h (n:=9) (by omega)
 unfold pc;split<;>omega
theorem ol{s:Src}(h:s.Ok):bm (mb s).1=true:=by
 unfold mb;split
 have hn:=oh (h.pick (n:=3))
 have h1:=om hn.1 (j:=(pc (s.pick 3).2).toNat) (s:=(((s.pick 3).2.pick 9).2.pick 14).2) (out:=[]) h.pick.pick.pick (fun x hx=>by cases hx)
 unfold bm
 rw[bj,List.all_eq_true]
 refine⟨h1.1,kA ?_⟩
 have h2:=h1.2
 show 1≤((md _ _ _ []).1.length:Int)∧((md _ _ _ []).1.length:Int)≤80
 rw[h2,List.length_nil];omega
 exact qZ h.pick
theorem tw{s:Src}(hs:s.Ok)(ha:s.at_≤999999800):MQ h1 h2 64 [.c (.pt 0 0 0)] [(0,aV s)] (bV (.c (.rs 1 0 (ny s).1.length)) [(0,aV (ny s).2),(1,ij (ny s).1)]):=by
 refine MC.shift 500 Z (MC.keep [500,501] (bs:=[aV (ny s).2,ij (ny s).1]) Z Z (jH 103 [500] h1 h2 Tryz.func64 Z fun O hF=>?_))
 refine dK ?_
 obtain⟨R,hR⟩: ∃R,R=ny s:=⟨_,rfl⟩
 rw[←hR]
 have h5:=bf hs (n:=5) (by omega)
 have hat0:=bk (s:=s) (n:=5)
 obtain⟨N,hN⟩: ∃N:Nat,N=(1+(s.pick 5).1).toNat:=⟨_,rfl⟩
 have hN1:(N:Int)=1+(s.pick 5).1:=by omega
 have hR2:R=((fy N N (s.pick 5).2 []).1++[⟨11,0⟩],(fy N N (s.pick 5).2 []).2):=by rw[hR];unfold ny;rw[←hN,←hN1]
 refine ac (js Z (bc (bg (HS.lit O Z Z Z) Z (ax ?_))))
 refine js Z (bc (js Z (ap O [500] (bin:=[aV s]) Z Z Z Z (cu (s:=s) (n:=5) h1 h2 hs (by omega) (by omega) (by omega)) Z Z Z Z Z Z (B0:=13000) Z Z (ax ?_))))
 refine ae ((ah O Z Z (by omega) (by omega)).cast (v':=eI ((N:Nat):Int)) (congrArg eI hN1.symm)) Z (js Z (jf [4,3,10,2,0] Z (jn (aj (ac (js Z (jn (au (aK (X:=Nat×Src×List In) (fun x=>⟨[(0,.c (.pt 500 0 0)),(3,.c (.rs 900 0 x.2.2.length)),(4,eI ((N:Nat):Int)),(5,eI ((N:Int)-x.1))],[(500,aV x.2.1),(900,ij x.2.2)]⟩) (fun x=>x.2.1.Ok∧fy N N (s.pick 5).2 []=fy N x.1 x.2.1 x.2.2∧x.1≤N∧x.2.2.length+4*x.1=4*N∧x.2.1.at_+10*x.1≤s.at_+70) (fun x=>x.1) (N,(s.pick 5).2,[]) ((ao 10 900 Z Z).trans ((aI [500,900] (e':=[(0,_),(3,_),(4,_),(5,_)]) Z Z ⟨Z,Z,Z,Z,aD⟩ Z).trans (Ent.to ⟨Z,Z,Z,congrArg (fun z=>some (eI z)) (show(0:Int)=(N:Int)-N by omega),aD⟩ Z))) ?_ (fun x hi=>?_))))))))))
 exact⟨hs.pick,Z,cJ _,by show 0+4*N=4*N;omega,by show(s.pick 5).2.at_+10*N≤s.at_+70;omega⟩
 refine aj (ac (bi Z (jf [16,0,3,4,5] Z (jn (ab Z (fun z16=>?_) (fun z16=>?_))))))
 refine al (aj (au (ac (js Z ?_))))
 have hxl:0<x.1:=by have:=aB z16;omega
 obtain⟨j,hj⟩: ∃j,x.1=j+1:=⟨x.1-1,by omega⟩
 have hat:=sO (n:=N) (s:=x.2.1)
 obtain⟨hi1,hi2,hi3,hi4,hi5⟩:=hi
 have hi:=ai hi1 (ai hi2 (ai hi3 (ai hi4 hi5)))
 have hA:(sA x.2.1).Ok:=hi1.pick
 have hB:(iZ x.2.1).Ok:=hA.pick
 have hC:(sC x.2.1).Ok:=hB.pick
 have hD:(jh N x.2.1).Ok:=hC.pick
 have k1:=bf hi1 (n:=4) (by omega)
 have k2:=bf hA (n:=9) (by omega)
 have k3:=bf hB (n:=4) (by omega)
 have k4:=bf hC (n:=(N:Int)+1) (by omega)
 have k5:=bf hD (n:=6) (by omega)
 refine ap O [500] (bin:=[aV x.2.1]) Z Z Z Z (cu (s:=x.2.1) (n:=4) h1 h2 hi1 (by omega) (by omega) (by omega)) Z Z Z Z Z Z (B0:=21000) Z Z (ax ?_)
 rw[show(x.2.1.pick 4).2=sA x.2.1 from Z]
 obtain⟨l,hl⟩: ∃l,l=(x.2.1.pick 4).1:=⟨_,rfl⟩
 rw[←hl]at k1 ⊢
 refine js Z (jf [21,16,0,3,4,5] Z (jl Z (ax ?_)))
 refine jo Z (ax ?_)
 refine az (Ent.freeze 6 (e':=[(6,_),(0,_),(3,_),(4,_),(5,_)]) Z (.cons Z (.c (.box (cs:=[.int .i64 1,.int .i64 l]) Z (aQ Z))) (fe [0,3,4,5] Z)) (.skip (cU Z (gf Z .nil)))) ?_
 refine ax ?_
 refine bc (js Z (ap O [500] (bin:=[aV (sA x.2.1)]) Z Z Z Z (cu (s:=(sA x.2.1)) (n:=9) h1 h2 hA (by omega) (by omega) (by omega)) Z Z Z Z Z Z (B0:=24000) Z Z (ax ?_)))
 rw[show((sA x.2.1).pick 9).2=iZ x.2.1 from Z]
 obtain⟨p,hp⟩: ∃p,p=((sA x.2.1).pick 9).1:=⟨_,rfl⟩
 rw[←hp]at k2 ⊢
 refine ae (ah O Z Z (by omega) (by omega)) Z (js Z (jf [25,6,0,3,4,5] Z (jl Z (ax ?_))))
 refine jo Z (ax ?_)
 refine az (Ent.freeze 7 (e':=[(7,_),(6,_),(0,_),(3,_),(4,_),(5,_)]) Z (.cons Z (.c (.box (cs:=[.int .i64 0,.int .i64 (p-2)]) Z (aQ Z))) (fe [6,0,3,4,5] Z)) (.skip (cU Z (gf Z .nil)))) ?_
 refine ax ?_
 refine bc (js Z (ap O [500] (bin:=[aV (iZ x.2.1)]) Z Z Z Z (cu (s:=(iZ x.2.1)) (n:=4) h1 h2 hB (by omega) (by omega) (by omega)) Z Z Z Z Z Z (B0:=28000) Z Z (ax ?_)))
 rw[show((iZ x.2.1).pick 4).2=sC x.2.1 from Z]
 obtain⟨st,hst⟩: ∃st,st=((iZ x.2.1).pick 4).1:=⟨_,rfl⟩
 rw[←hst]at k3 ⊢
 refine js Z (jf [28,7,6,0,3,4,5] Z (jl Z (ax ?_)))
 refine jo Z (ax ?_)
 refine az (Ent.freeze 8 (e':=[(8,_),(7,_),(6,_),(0,_),(3,_),(4,_),(5,_)]) Z (.cons Z (.c (.box (cs:=[.int .i64 2,.int .i64 st]) Z (aQ Z))) (fe [7,6,0,3,4,5] Z)) (.skip (cU Z (gf Z .nil)))) ?_
 refine ax ?_
 refine bc (aa Z (ae (ah O Z Z (by omega) (by omega)) Z (jf [31,29,8,7,6,0,3,4,5] Z (ap O [500] (bin:=[aV (sC x.2.1)]) Z Z Z Z (cu (s:=(sC x.2.1)) (n:=((N:Int)+1)) h1 h2 hC (by omega) (by omega) (by omega)) Z Z Z Z Z Z (B0:=33000) Z Z (ax ?_)))))
 rw[show((sC x.2.1).pick ((N:Int)+1)).2=jh N x.2.1 from Z]
 obtain⟨to,hto⟩: ∃to,to=((sC x.2.1).pick ((N:Int)+1)).1:=⟨_,rfl⟩
 rw[←hto]at k4 ⊢
 refine ae (ah O Z Z (by omega) (by omega)) Z (js Z (jf [9,8,7,6,0,3,4,5] Z (bc (js Z (ap O [500] (bin:=[aV (jh N x.2.1)]) Z Z Z Z (cu (s:=(jh N x.2.1)) (n:=6) h1 h2 hD (by omega) (by omega) (by omega)) Z Z Z Z Z Z (B0:=36000) Z Z (ax ?_))))))
 rw[show((jh N x.2.1).pick 6).2=sE N x.2.1 from Z]
 obtain⟨c,hc⟩: ∃c,c=((jh N x.2.1).pick 6).1:=⟨_,rfl⟩
 rw[←hc]at k5 ⊢
 refine jn ?_
 rcases(show c=0∨c=1∨c=2∨c=3∨c=4∨c=5 by omega)with hx|hx|hx|hx|hx|hx
 refine au (ac (aa Z (jn (ab Z (fun z36=>?_) (fun z36=>?_)))))
 refine ag (aE Z (js Z (bg (HS.lit O Z Z Z) Z (ax ?_))))
 refine jf [43,38,36,37,35,34,9,8,7,6,0,3,4,5] Z (bg (bd (zs:=(x.2.2++[(⟨1,l⟩:In),⟨0,p-2⟩,⟨3,0⟩,⟨2,st⟩]).map In.cells) (n:=(x.2.2++[(⟨1,l⟩:In),⟨0,p-2⟩,⟨3,0⟩,⟨2,st⟩]).length) O Z Z Z Z Z Z Z Z Z Z Z Z Z Z Z Z (.row Z (cV _).symm) Z Z (by decide) Z (by simp;omega) (by simp;omega) (by rw[List.map_append];rfl) (by simp)) Z (ax ?_))
 refine ax ?_
 refine js Z (jf [3,36,37,35,34,9,8,7,6,0,4,5] Z (jn (ag (js Z (ae ((ah O Z Z (by omega) (by omega)).cast (v':=eI ((N:Int)-(j:Nat))) (congrArg eI (by omega))) Z (js Z (jf [5,3,36,37,35,34,9,8,7,6,0,4] Z (jn ?_))))))))
 have hB:nv (N:Int) ((N:Int)-(j+1)) x.2.1=[(⟨1,l⟩:In),⟨0,p-2⟩,⟨3,0⟩,⟨2,st⟩]:=by
  show o9 ((jh (N:Int) x.2.1).pick 6).1 (x.2.1.pick 4).1 (((sA x.2.1).pick 9).1-2) ((iZ x.2.1).pick 4).1 (4*((sC x.2.1).pick ((N:Int)+1)).1) _=_
  rw[←hl,←hp,←hst,←hto,←hc,hx]
  rfl
 refine⟨(j,sE N x.2.1,x.2.2++[(⟨1,l⟩:In),⟨0,p-2⟩,⟨3,0⟩,⟨2,st⟩]),((aI [500,44] (e':=[(0,_),(3,_),(4,_),(5,_)]) Z Z ⟨Z,Z,Z,Z,aD⟩ Z).trans (ao 44 900 Z Z)).trans (Ent.to ⟨Z,Z,Z,Z,aD⟩ Z),⟨il hi.1,hi.2.1.trans (by rw[show fy (N:Int) x.1=fy (N:Int) (j+1)from congrArg _ hj,fy,hB]),by show j≤N;omega,by show(x.2.2++_).length+4*j=4*N;rw[cC];show x.2.2.length+4+4*j=4*N;omega,by show(sE N x.2.1).at_+10*j≤_;omega⟩,by show j<x.1;omega⟩
 exact absurd hx (bo z36)
 refine au (ac (aa Z (jn (ab Z (fun z36=>?_) (fun z36=>?_)))))
 exact absurd (aB z36) (by omega)
 refine ac (aa Z (jn (ab Z (fun z45=>?_) (fun z45=>?_))))
 refine ag (aE Z (aE Z ?_))
 have ht4:=dA (a:=(N:Int)-x.1) (n:=4) (by omega) (by decide)
 refine ae (gt O Z Z Z Z (by decide) (by omega) (by omega)) Z (js Z (jf [56,53,51,48,47,45,46,36,37,35,34,9,8,7,6,0,3,4,5] Z (bg (HS.lit O Z Z Z) Z (ax ?_))))
 refine jf [57,47,45,46,36,37,35,34,9,8,7,6,0,3,4,5] Z (bg (bd (zs:=(x.2.2++[(⟨1,l⟩:In),⟨4,p-2⟩,⟨6,4*to⟩,⟨9,((N:Int)-x.1).tmod 4⟩]).map In.cells) (n:=(x.2.2++[(⟨1,l⟩:In),⟨4,p-2⟩,⟨6,4*to⟩,⟨9,((N:Int)-x.1).tmod 4⟩]).length) O Z Z Z Z Z Z Z Z Z Z Z Z Z Z Z Z (.row Z (cV _).symm) Z Z (by decide) Z (by simp;omega) (by simp;omega) (by rw[List.map_append];rfl) (by simp)) Z (ax ?_))
 refine ax ?_
 refine js Z (jf [3,45,46,36,37,35,34,9,8,7,6,0,4,5] Z (jn (ag (js Z (ae ((ah O Z Z (by omega) (by omega)).cast (v':=eI ((N:Int)-(j:Nat))) (congrArg eI (by omega))) Z (js Z (jf [5,3,45,46,36,37,35,34,9,8,7,6,0,4] Z (jn ?_))))))))
 have hB:nv (N:Int) ((N:Int)-(j+1)) x.2.1=[(⟨1,l⟩:In),⟨4,p-2⟩,⟨6,4*to⟩,⟨9,((N:Int)-x.1).tmod 4⟩]:=by
  show o9 ((jh (N:Int) x.2.1).pick 6).1 (x.2.1.pick 4).1 (((sA x.2.1).pick 9).1-2) ((iZ x.2.1).pick 4).1 (4*((sC x.2.1).pick ((N:Int)+1)).1) _=_
  rw[←hl,←hp,←hst,←hto,←hc,hx,hj]
  simp only[Int.natCast_add,Int.natCast_one];rfl
 refine⟨(j,sE N x.2.1,x.2.2++[(⟨1,l⟩:In),⟨4,p-2⟩,⟨6,4*to⟩,⟨9,((N:Int)-x.1).tmod 4⟩]),((aI [500,58] (e':=[(0,_),(3,_),(4,_),(5,_)]) Z Z ⟨Z,Z,Z,Z,aD⟩ Z).trans (ao 58 900 Z Z)).trans (Ent.to ⟨Z,Z,Z,Z,aD⟩ Z),⟨il hi.1,hi.2.1.trans (by rw[show fy (N:Int) x.1=fy (N:Int) (j+1)from congrArg _ hj,fy,hB]),by show j≤N;omega,by show(x.2.2++_).length+4*j=4*N;rw[cC];show x.2.2.length+4+4*j=4*N;omega,by show(sE N x.2.1).at_+10*j≤_;omega⟩,by show j<x.1;omega⟩
 exact absurd hx (bo z45)
 refine au (ac (aa Z (jn (ab Z (fun z36=>?_) (fun z36=>?_)))))
 exact absurd (aB z36) (by omega)
 refine ac (aa Z (jn (ab Z (fun z45=>?_) (fun z45=>?_))))
 exact absurd (aB z45) (by omega)
 refine ac (aa Z (jn (ab Z (fun z59=>?_) (fun z59=>?_))))
 refine ag (aE Z (bi Z (jf [67,64,63,62,61,59,60,45,46,36,37,35,34,9,8,7,6,0,3,4,5] Z (bg (HS.lit O Z Z Z) Z (ax ?_)))))
 refine jf [68,61,59,60,45,46,36,37,35,34,9,8,7,6,0,3,4,5] Z (bg (bd (zs:=(x.2.2++[(⟨0,p-2⟩:In),⟨7,0⟩,⟨2,st⟩,⟨9,st⟩]).map In.cells) (n:=(x.2.2++[(⟨0,p-2⟩:In),⟨7,0⟩,⟨2,st⟩,⟨9,st⟩]).length) O Z Z Z Z Z Z Z Z Z Z Z Z Z Z Z Z (.row Z (cV _).symm) Z Z (by decide) Z (by simp;omega) (by simp;omega) (by rw[List.map_append];rfl) (by simp)) Z (ax ?_))
 refine ax ?_
 refine js Z (jf [3,59,60,45,46,36,37,35,34,9,8,7,6,0,4,5] Z (jn (ag (js Z (ae ((ah O Z Z (by omega) (by omega)).cast (v':=eI ((N:Int)-(j:Nat))) (congrArg eI (by omega))) Z (js Z (jf [5,3,59,60,45,46,36,37,35,34,9,8,7,6,0,4] Z (jn ?_))))))))
 have hB:nv (N:Int) ((N:Int)-(j+1)) x.2.1=[(⟨0,p-2⟩:In),⟨7,0⟩,⟨2,st⟩,⟨9,st⟩]:=by
  show o9 ((jh (N:Int) x.2.1).pick 6).1 (x.2.1.pick 4).1 (((sA x.2.1).pick 9).1-2) ((iZ x.2.1).pick 4).1 (4*((sC x.2.1).pick ((N:Int)+1)).1) _=_
  rw[←hl,←hp,←hst,←hto,←hc,hx]
  rfl
 refine⟨(j,sE N x.2.1,x.2.2++[(⟨0,p-2⟩:In),⟨7,0⟩,⟨2,st⟩,⟨9,st⟩]),((aI [500,69] (e':=[(0,_),(3,_),(4,_),(5,_)]) Z Z ⟨Z,Z,Z,Z,aD⟩ Z).trans (ao 69 900 Z Z)).trans (Ent.to ⟨Z,Z,Z,Z,aD⟩ Z),⟨il hi.1,hi.2.1.trans (by rw[show fy (N:Int) x.1=fy (N:Int) (j+1)from congrArg _ hj,fy,hB]),by show j≤N;omega,by show(x.2.2++_).length+4*j=4*N;rw[cC];show x.2.2.length+4+4*j=4*N;omega,by show(sE N x.2.1).at_+10*j≤_;omega⟩,by show j<x.1;omega⟩
 exact absurd hx (bo z59)
 refine au (ac (aa Z (jn (ab Z (fun z36=>?_) (fun z36=>?_)))))
 exact absurd (aB z36) (by omega)
 refine ac (aa Z (jn (ab Z (fun z45=>?_) (fun z45=>?_))))
 exact absurd (aB z45) (by omega)
 refine ac (aa Z (jn (ab Z (fun z59=>?_) (fun z59=>?_))))
 exact absurd (aB z59) (by omega)
 refine ac (aa Z (jn (ab Z (fun z70=>?_) (fun z70=>?_))))
 refine ag (aE Z (aa Z (jf [77,75,74,73,72,70,71,59,60,45,46,36,37,35,34,9,8,7,6,0,3,4,5] Z (bg (HS.lit O Z Z Z) Z (ax ?_)))))
 refine jf [78,72,70,71,59,60,45,46,36,37,35,34,9,8,7,6,0,3,4,5] Z (bg (bd (zs:=(x.2.2++[(⟨0,p-2⟩:In),⟨1,l⟩,⟨8,0⟩,⟨5,4*to⟩]).map In.cells) (n:=(x.2.2++[(⟨0,p-2⟩:In),⟨1,l⟩,⟨8,0⟩,⟨5,4*to⟩]).length) O Z Z Z Z Z Z Z Z Z Z Z Z Z Z Z Z (.row Z (cV _).symm) Z Z (by decide) Z (by simp;omega) (by simp;omega) (by rw[List.map_append];rfl) (by simp)) Z (ax ?_))
 refine ax ?_
 refine js Z (jf [3,70,71,59,60,45,46,36,37,35,34,9,8,7,6,0,4,5] Z (jn (ag (js Z (ae ((ah O Z Z (by omega) (by omega)).cast (v':=eI ((N:Int)-(j:Nat))) (congrArg eI (by omega))) Z (js Z (jf [5,3,70,71,59,60,45,46,36,37,35,34,9,8,7,6,0,4] Z (jn ?_))))))))
 have hB:nv (N:Int) ((N:Int)-(j+1)) x.2.1=[(⟨0,p-2⟩:In),⟨1,l⟩,⟨8,0⟩,⟨5,4*to⟩]:=by
  show o9 ((jh (N:Int) x.2.1).pick 6).1 (x.2.1.pick 4).1 (((sA x.2.1).pick 9).1-2) ((iZ x.2.1).pick 4).1 (4*((sC x.2.1).pick ((N:Int)+1)).1) _=_
  rw[←hl,←hp,←hst,←hto,←hc,hx]
  rfl
 refine⟨(j,sE N x.2.1,x.2.2++[(⟨0,p-2⟩:In),⟨1,l⟩,⟨8,0⟩,⟨5,4*to⟩]),((aI [500,79] (e':=[(0,_),(3,_),(4,_),(5,_)]) Z Z ⟨Z,Z,Z,Z,aD⟩ Z).trans (ao 79 900 Z Z)).trans (Ent.to ⟨Z,Z,Z,Z,aD⟩ Z),⟨il hi.1,hi.2.1.trans (by rw[show fy (N:Int) x.1=fy (N:Int) (j+1)from congrArg _ hj,fy,hB]),by show j≤N;omega,by show(x.2.2++_).length+4*j=4*N;rw[cC];show x.2.2.length+4+4*j=4*N;omega,by show(sE N x.2.1).at_+10*j≤_;omega⟩,by show j<x.1;omega⟩
 exact absurd hx (bo z70)
 refine au (ac (aa Z (jn (ab Z (fun z36=>?_) (fun z36=>?_)))))
 exact absurd (aB z36) (by omega)
 refine ac (aa Z (jn (ab Z (fun z45=>?_) (fun z45=>?_))))
 exact absurd (aB z45) (by omega)
 refine ac (aa Z (jn (ab Z (fun z59=>?_) (fun z59=>?_))))
 exact absurd (aB z59) (by omega)
 refine ac (aa Z (jn (ab Z (fun z70=>?_) (fun z70=>?_))))
 exact absurd (aB z70) (by omega)
 refine ac (aa Z (jn (ab Z (fun z80=>?_) (fun z80=>?_))))
 refine ag (aE Z (js Z (bg (HS.lit O Z Z Z) Z (ax ?_))))
 refine jf [87,82,80,81,70,71,59,60,45,46,36,37,35,34,9,8,7,6,0,3,4,5] Z (bg (bd (zs:=(x.2.2++[(⟨1,l⟩:In),⟨10,0⟩,⟨0,p-2⟩,⟨2,st⟩]).map In.cells) (n:=(x.2.2++[(⟨1,l⟩:In),⟨10,0⟩,⟨0,p-2⟩,⟨2,st⟩]).length) O Z Z Z Z Z Z Z Z Z Z Z Z Z Z Z Z (.row Z (cV _).symm) Z Z (by decide) Z (by simp;omega) (by simp;omega) (by rw[List.map_append];rfl) (by simp)) Z (ax ?_))
 refine ax ?_
 refine js Z (jf [3,80,81,70,71,59,60,45,46,36,37,35,34,9,8,7,6,0,4,5] Z (jn (ag (js Z (ae ((ah O Z Z (by omega) (by omega)).cast (v':=eI ((N:Int)-(j:Nat))) (congrArg eI (by omega))) Z (js Z (jf [5,3,80,81,70,71,59,60,45,46,36,37,35,34,9,8,7,6,0,4] Z (jn ?_))))))))
 have hB:nv (N:Int) ((N:Int)-(j+1)) x.2.1=[(⟨1,l⟩:In),⟨10,0⟩,⟨0,p-2⟩,⟨2,st⟩]:=by
  show o9 ((jh (N:Int) x.2.1).pick 6).1 (x.2.1.pick 4).1 (((sA x.2.1).pick 9).1-2) ((iZ x.2.1).pick 4).1 (4*((sC x.2.1).pick ((N:Int)+1)).1) _=_
  rw[←hl,←hp,←hst,←hto,←hc,hx]
  rfl
 refine⟨(j,sE N x.2.1,x.2.2++[(⟨1,l⟩:In),⟨10,0⟩,⟨0,p-2⟩,⟨2,st⟩]),((aI [500,88] (e':=[(0,_),(3,_),(4,_),(5,_)]) Z Z ⟨Z,Z,Z,Z,aD⟩ Z).trans (ao 88 900 Z Z)).trans (Ent.to ⟨Z,Z,Z,Z,aD⟩ Z),⟨il hi.1,hi.2.1.trans (by rw[show fy (N:Int) x.1=fy (N:Int) (j+1)from congrArg _ hj,fy,hB]),by show j≤N;omega,by show(x.2.2++_).length+4*j=4*N;rw[cC];show x.2.2.length+4+4*j=4*N;omega,by show(sE N x.2.1).at_+10*j≤_;omega⟩,by show j<x.1;omega⟩
 exact absurd hx (bo z80)
 refine au (ac (aa Z (jn (ab Z (fun z36=>?_) (fun z36=>?_)))))
 exact absurd (aB z36) (by omega)
 refine ac (aa Z (jn (ab Z (fun z45=>?_) (fun z45=>?_))))
 exact absurd (aB z45) (by omega)
 refine ac (aa Z (jn (ab Z (fun z59=>?_) (fun z59=>?_))))
 exact absurd (aB z59) (by omega)
 refine ac (aa Z (jn (ab Z (fun z70=>?_) (fun z70=>?_))))
 exact absurd (aB z70) (by omega)
 refine ac (aa Z (jn (ab Z (fun z80=>?_) (fun z80=>?_))))
 exact absurd (aB z80) (by omega)
 refine ac (aa Z (jn (ab Z (fun z89=>?_) (fun z89=>?_))))
 refine ag (aE Z (aa Z (jf [96,94,93,92,91,89,90,80,81,70,71,59,60,45,46,36,37,35,34,9,8,7,6,0,3,4,5] Z (bg (HS.lit O Z Z Z) Z (ax ?_)))))
 refine jf [97,91,89,90,80,81,70,71,59,60,45,46,36,37,35,34,9,8,7,6,0,3,4,5] Z (bg (bd (zs:=(x.2.2++[(⟨1,l⟩:In),⟨0,p-2⟩,⟨3,0⟩,⟨6,4*to⟩]).map In.cells) (n:=(x.2.2++[(⟨1,l⟩:In),⟨0,p-2⟩,⟨3,0⟩,⟨6,4*to⟩]).length) O Z Z Z Z Z Z Z Z Z Z Z Z Z Z Z Z (.row Z (cV _).symm) Z Z (by decide) Z (by simp;omega) (by simp;omega) (by rw[List.map_append];rfl) (by simp)) Z (ax ?_))
 refine ax ?_
 refine js Z (jf [3,89,90,80,81,70,71,59,60,45,46,36,37,35,34,9,8,7,6,0,4,5] Z (jn (ag (js Z (ae ((ah O Z Z (by omega) (by omega)).cast (v':=eI ((N:Int)-(j:Nat))) (congrArg eI (by omega))) Z (js Z (jf [5,3,89,90,80,81,70,71,59,60,45,46,36,37,35,34,9,8,7,6,0,4] Z (jn ?_))))))))
 have hB:nv (N:Int) ((N:Int)-(j+1)) x.2.1=[(⟨1,l⟩:In),⟨0,p-2⟩,⟨3,0⟩,⟨6,4*to⟩]:=by
  show o9 ((jh (N:Int) x.2.1).pick 6).1 (x.2.1.pick 4).1 (((sA x.2.1).pick 9).1-2) ((iZ x.2.1).pick 4).1 (4*((sC x.2.1).pick ((N:Int)+1)).1) _=_
  rw[←hl,←hp,←hst,←hto,←hc,hx]
  rfl
 refine⟨(j,sE N x.2.1,x.2.2++[(⟨1,l⟩:In),⟨0,p-2⟩,⟨3,0⟩,⟨6,4*to⟩]),((aI [500,98] (e':=[(0,_),(3,_),(4,_),(5,_)]) Z Z ⟨Z,Z,Z,Z,aD⟩ Z).trans (ao 98 900 Z Z)).trans (Ent.to ⟨Z,Z,Z,Z,aD⟩ Z),⟨il hi.1,hi.2.1.trans (by rw[show fy (N:Int) x.1=fy (N:Int) (j+1)from congrArg _ hj,fy,hB]),by show j≤N;omega,by show(x.2.2++_).length+4*j=4*N;rw[cC];show x.2.2.length+4+4*j=4*N;omega,by show(sE N x.2.1).at_+10*j≤_;omega⟩,by show j<x.1;omega⟩
 exact absurd hx (bo z89)
 refine bL (ac ?_)
 have hx0:x.1=0:=by have:=bo z16;omega
 have hxe:=hi.2.1
 rw[hx0,fy]at hxe
 refine aa Z (bg (HS.lit O Z Z Z) Z (ax ?_))
 refine jf [101,99,16,0,3,4,5] Z (bg (bd (zs:=(x.2.2++[(⟨11,0⟩:In)]).map In.cells) (n:=(x.2.2++[(⟨11,0⟩:In)]).length) O Z Z Z Z Z Z Z Z Z Z Z Z Z Z Z Z (.row Z (cV _).symm) Z Z (by decide) Z (by simp;omega) (by simp;omega) (by rw[List.map_append];rfl) (by simp)) Z (ax ?_))
 refine ax ?_
 refine js Z (jf [2,16,0,3,4,5] Z (jr ?_))
 rw[hR2,hxe]
 refine⟨.inl Z,_,ao 102 501 Z Z,_,Z,Z,Z⟩
theorem tz{s:Src}(hs:s.Ok)(ha:s.at_≤999998000):MQ h1 h2 30 [.c (.pt 0 0 0)] [(0,aV s)] (bV (.c (.rs 1 0 (mb s).1.length)) [(0,aV (mb s).2),(1,ij (mb s).1)]):=by
 refine MC.shift 500 Z (MC.keep [500,501] (bs:=[aV (mb s).2,ij (mb s).1]) Z Z (jH 29 [500] h1 h2 Tryz.func30 Z fun O hF=>?_))
 refine dK ?_
 obtain⟨R,hR⟩: ∃R,R=mb s:=⟨_,rfl⟩
 rw[←hR]
 have hat0:=bk (s:=s) (n:=3)
 obtain⟨s1,h1e⟩: ∃s1,s1=(s.pick 3).2:=⟨_,rfl⟩
 have hs1:s1.Ok:=by rw[h1e];exact hs.pick
 rw[←h1e]at hat0
 have h9:=bf hs1 (n:=9) (by omega)
 have hat1:=bk (s:=s1) (n:=9)
 have hat2:=bk (s:=(s1.pick 9).2) (n:=14)
 obtain⟨s4,h4e⟩: ∃s4,s4=((s1.pick 9).2.pick 14).2:=⟨_,rfl⟩
 have hs4:s4.Ok:=by rw[h4e];exact hs1.pick.pick
 rw[←h4e]at hat2
 obtain⟨N,hN⟩: ∃N:Nat,N=(pc s1).toNat:=⟨_,rfl⟩
 have hN2:=oh hs1
 have hN1:(N:Int)=pc s1:=by omega
 refine ac (js Z (jn (aj (ac (js Z (ap O [500] (bin:=[aV s]) Z Z Z Z (kE (s:=s) (n:=3) h1 h2 hs (by omega) (by omega) (by omega)) Z Z Z Z Z Z (B0:=8000) Z Z (ax ?_)))))))
 rw[←h1e]
 refine js Z (jf [8,2,0] Z (jn (ab Z (fun z8=>?_) (fun z8=>?_))))
 refine ac (js Z (jf [9,2,0] Z (ap O [500] (bin:=[aV s1]) Z Z Z Z (tw (s:=s1) h1 h2 hs1 (by omega)) Z Z Z Z Z Z (B0:=11000) Z Z (ax ?_))))
 refine js Z (jf [2,0] Z (jr ?_))
 rw[hR.trans (show mb s=ny s1 from by rw[h1e];exact if_neg (bo (uA z8)))]
 refine⟨.inl Z,_,ao 11001 501 Z Z,_,Z,Z,Z⟩
 refine al (ac (bg (HS.lit O Z Z Z) Z (ax ?_)))
 refine js Z (jf [3,2,0] Z (bc (js Z (ap O [500] (bin:=[aV s1]) Z Z Z Z (cu (s:=s1) (n:=9) h1 h2 hs1 (by omega) (by omega) (by omega)) Z Z Z Z Z Z (B0:=14000) Z Z (ax ?_)))))
 refine ae (ah O Z Z (by omega) (by omega)) Z (js Z (jf [4,3,2,0] Z (jn (aj (ac (js Z (ap O [500] (bin:=[aV (s1.pick 9).2]) Z Z Z Z (kE (s:=(s1.pick 9).2) (n:=14) h1 h2 hs1.pick (by omega) (by omega) (by omega)) Z Z Z Z Z Z (B0:=17000) Z Z (ax ?_))))))))
 rw[←h4e]
 refine jn (ig ⟨[(0,.c (.pt 500 0 0)),(3,.c (.rs 11 0 0)),(4,eI ((N:Nat):Int))],[(11,ij []),(500,aV s4)]⟩ ?_ ?_)
 refine ab Z (fun z16=>?_) (fun z16=>?_)
 refine ag (js Z (jn ?_))
 exact⟨Z,aW.trans (Ent.to ⟨Z,Z,congrArg (fun z=>some (eI z)) (show(80:Int)=(N:Int) by rw[hN1];unfold pc;rw[if_pos (aB z16)]),aD⟩ Z)⟩
 refine al ?_
 exact⟨Z,aW.trans (Ent.to ⟨Z,Z,congrArg (fun z=>some (eI z)) (show 1+(s1.pick 9).1=(N:Int) by rw[hN1];unfold pc;rw[if_neg (bo z16)]),aD⟩ Z)⟩
 refine aj (ac (js Z (jn (au (aK (X:=Nat×Src×List In) (fun x=>⟨[(0,.c (.pt 500 0 0)),(3,.c (.rs 900 0 x.2.2.length)),(4,eI ((N:Nat):Int)),(5,eI ((N:Int)-x.1))],[(500,aV x.2.1),(900,ij x.2.2)]⟩) (fun x=>x.2.1.Ok∧md N N s4 []=md N x.1 x.2.1 x.2.2∧x.1≤N∧x.2.2.length+x.1=N∧x.2.1.at_+8*x.1≤s.at_+700) (fun x=>x.1) (N,s4,[]) ((ao 11 900 Z Z).trans ((aI [500,900] (e':=[(0,_),(3,_),(4,_),(5,_)]) Z Z ⟨Z,Z,Z,Z,aD⟩ Z).trans (Ent.to ⟨Z,Z,Z,congrArg (fun z=>some (eI z)) (show(0:Int)=(N:Int)-N by omega),aD⟩ Z))) ?_ (fun x hi=>?_))))))
 exact⟨hs4,Z,cJ _,by show 0+N=N;omega,by show s4.at_+8*N≤s.at_+700;omega⟩
 refine aj (ac (bi Z (jf [19,0,3,4,5] Z (jn (ab Z (fun z19=>?_) (fun z19=>?_))))))
 refine al (aj (au (ag ?_)))
 have hxl:0<x.1:=by have:=aB z19;omega
 obtain⟨j,hj⟩: ∃j,x.1=j+1:=⟨x.1-1,by omega⟩
 obtain⟨hi1,hi2,hi3,hi4,hi5⟩:=hi
 have hat3:=q6 (n:=N) (s:=x.2.1)
 refine bi Z (ap O [500] (bin:=[aV x.2.1]) Z Z Z Z (tv (s:=x.2.1) (n:=N) h1 h2 hi1 (by omega) (by omega) (by omega)) Z Z Z Z Z Z (B0:=26000) Z Z (ax ?_))
 refine jf [25,22,19,0,3,4,5] Z (bg (HS.lit O Z Z Z) Z (ax ?_))
 refine jf [26,22,19,0,3,4,5] Z (bg (bd (zs:=(x.2.2++[(lp N x.2.1).1]).map In.cells) (n:=(x.2.2++[(lp N x.2.1).1]).length) O Z Z Z Z Z Z Z Z Z Z Z Z Z Z Z Z (.row Z (cV _).symm) Z Z (by decide) Z (by simp;omega) (by simp;omega) (by rw[List.map_append];rfl) (by simp)) Z (ax ?_))
 refine ax ?_
 refine js Z (jf [3,19,0,4,5] Z (jn (ag (js Z (ae ((ah O Z Z (by omega) (by omega)).cast (v':=eI ((N:Int)-(j:Nat))) (congrArg eI (by omega))) Z (js Z (jf [5,3,19,0,4] Z (jn ?_))))))))
 refine⟨(j,(lp N x.2.1).2,x.2.2++[(lp N x.2.1).1]),((aI [500,27] (e':=[(0,_),(3,_),(4,_),(5,_)]) Z Z ⟨Z,Z,Z,Z,aD⟩ Z).trans (ao 27 900 Z Z)).trans (Ent.to ⟨Z,Z,Z,Z,aD⟩ Z),⟨oi hi1,hi2.trans (by rw[show md (N:Int) x.1=md (N:Int) (j+1)from congrArg _ hj,md]),by show j≤N;omega,by show(x.2.2++_).length+j=N;rw[cC,gU];omega,by show(lp N x.2.1).2.at_+8*j≤_;omega⟩,by show j<x.1;omega⟩
 refine bL (ac (aa Z (jr ?_)))
 have hx0:x.1=0:=by have:=bo z19;omega
 have hxe:=hi.2.1
 rw[hx0,md]at hxe
 rw[hR.trans (show mb s=md N N s4 []from by show(if(s.pick 3).1=0 then t8 (s.pick 3).2 else _)=_;rw[if_pos (aB (rS z8)),←h1e];unfold t8;rw[←hN,←hN1,←h4e]),hxe]
 refine⟨.inl Z,_,ao 900 501 Z Z,_,Z,Z,Z⟩
theorem qC(hx: ∀n∈xs,0≤n∧n≤255):MQ h1 h2 6 [.c (.d (bys xs))] [] (Plain (aJ (mb ⟨xs,0,0⟩).1)):=by
 refine MC.data (jB 8 h1 h2 Tryz.func6 Z fun O hF=>?_)
 obtain⟨R,hR⟩: ∃R,R=mb ⟨xs,0,0⟩:=⟨_,rfl⟩
 rw[←hR]
 refine ac (js Z (bc (js Z (jf [4,2] Z (ap O [] (bin:=[]) Z Z Z Z (qD (xs:=xs) h1 h2) Z Z Z Z Z Z (B0:=6000) Z Z (ax ?_))))))
 refine js Z (jf [3,2] Z (bc (js Z (jf [6,2] Z (ap O [6000] (bin:=[aV ⟨xs,0,0⟩]) Z Z Z Z (tz (s:=⟨xs,0,0⟩) h1 h2 ⟨hx⟩ (by show(0:Nat)≤999998000;decide)) Z Z Z Z Z Z (B0:=8000) Z Z (ax ?_))))))
 rw[←hR]
 refine js Z (jf [2] Z (jr ?_))
 refine aO Z ?_
 exact .v (.c (.whole Z (cV _).symm))
end Go.Al
