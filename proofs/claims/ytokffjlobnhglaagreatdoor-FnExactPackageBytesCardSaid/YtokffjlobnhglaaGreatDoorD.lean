/- Contracts of the functions that copy, compare, mark and measure; the reference's functions for bh. -/
import Derived.Test.YtokffjlobnhglaaGreatDoorProg
import Derived.Test.YtokffjlobnhglaaGreatDoorC
set_option linter.unusedVariables false
set_option linter.unusedSimpArgs false
set_option maxRecDepth 10000
open Go.Proofs
/- The table of the types that the functions of this seat use, and its proof. -/
namespace Go.Al
variable{L:Nat}(h1:4096≤L)(h2:L≤1073741824)
def tt:List (Nat×TI):=[
  (2,⟨4,false,0,1,8,[.int .i64 0],[]⟩),
  (3,⟨4,false,0,1,8,[.int .i64 0],[]⟩),
  (4,⟨5,false,0,1,1,[.bool false],[]⟩),
  (5,⟨4,false,0,1,1,[.int .u8 0],[]⟩),
  (9,⟨2,false,0,1,16,[.str ByteArray.empty],[]⟩),
  (22,⟨1,false,96,1,24,[.nils],[]⟩),
  (23,⟨1,false,126,1,24,[.nils],[]⟩),
  (24,⟨1,false,99,1,24,[.nils],[]⟩),
  (26,⟨3,true,0,4,96,[.nils,.nils,.nils,.nils],[(0,1),(1,1),(2,1),(3,1)]⟩),
  (27,⟨1,false,58,1,24,[.nils],[]⟩),
  (29,⟨3,true,0,6,136,[.str ByteArray.empty,.nils,.nils,.nils,.nils,.nils],[(0,1),(1,4),(5,1)]⟩),
  (33,⟨1,false,111,1,24,[.nils],[]⟩),
  (34,⟨1,false,120,1,24,[.nils],[]⟩),
  (35,⟨1,false,107,1,24,[.nils],[]⟩),
  (37,⟨3,true,0,4,96,[.nils,.nils,.nils,.nils],[(0,1),(1,1),(2,1),(3,1)]⟩),
  (38,⟨1,false,63,1,24,[.nils],[]⟩),
  (40,⟨3,true,0,6,136,[.str ByteArray.empty,.nils,.nils,.nils,.nils,.nils],[(0,1),(1,4),(5,1)]⟩),
  (58,⟨1,false,102,1,24,[.nils],[]⟩),
  (63,⟨1,false,113,1,24,[.nils],[]⟩),
  (76,⟨1,false,9,1,24,[.nils],[]⟩),
  (77,⟨6,false,0,1,8,[.nilp],[]⟩),
  (78,⟨1,false,5,1,24,[.nils],[]⟩),
  (80,⟨3,true,0,2,32,[.nilp,.nils],[(0,1),(1,1)]⟩),
  (94,⟨1,false,2,1,24,[.nils],[]⟩),
  (96,⟨3,true,0,2,32,[.int .i64 0,.nils],[(0,1),(1,1)]⟩),
  (99,⟨3,true,0,2,32,[.int .i64 0,.nils],[(0,1),(1,1)]⟩),
  (102,⟨3,true,0,5,72,[.int .i64 0,.int .i64 0,.int .i64 0,.nils,.nils],[(0,1),(1,1),(2,2),(4,1)]⟩),
  (107,⟨3,true,0,2,32,[.int .i64 0,.nils],[(0,1),(1,1)]⟩),
  (111,⟨3,true,0,2,32,[.int .i64 0,.nils],[(0,1),(1,1)]⟩),
  (113,⟨3,true,0,5,72,[.int .i64 0,.int .i64 0,.int .i64 0,.nils,.nils],[(0,1),(1,1),(2,2),(4,1)]⟩),
  (120,⟨3,true,0,2,16,[.int .i64 0,.int .i64 0],[(0,1),(1,1)]⟩),
  (126,⟨3,true,0,2,16,[.int .i64 0,.int .i64 0],[(0,1),(1,1)]⟩),
  (140,⟨6,false,0,1,8,[.nilp],[]⟩),
  (171,⟨4,false,0,1,8,[.int .u64 0],[]⟩),
  (180,⟨4,false,0,1,4,[.int .u32 0],[]⟩),
  (183,⟨4,false,0,1,8,[.int .u64 0],[]⟩)
]
theorem tt2:TIok Tryz.prog 2 ⟨4,false,0,1,8,[.int .i64 0],[]⟩:=(by constructor<;>kernel_rfl)
theorem tt3:TIok Tryz.prog 3 ⟨4,false,0,1,8,[.int .i64 0],[]⟩:=(by constructor<;>kernel_rfl)
theorem tt4:TIok Tryz.prog 4 ⟨5,false,0,1,1,[.bool false],[]⟩:=(by constructor<;>kernel_rfl)
theorem tt5:TIok Tryz.prog 5 ⟨4,false,0,1,1,[.int .u8 0],[]⟩:=(by constructor<;>kernel_rfl)
theorem tt9:TIok Tryz.prog 9 ⟨2,false,0,1,16,[.str ByteArray.empty],[]⟩:=(by constructor<;>kernel_rfl)
theorem sB:TIok Tryz.prog 22 ⟨1,false,96,1,24,[.nils],[]⟩:=(by constructor<;>kernel_rfl)
theorem sA:TIok Tryz.prog 23 ⟨1,false,126,1,24,[.nils],[]⟩:=(by constructor<;>kernel_rfl)
theorem sv:TIok Tryz.prog 24 ⟨1,false,99,1,24,[.nils],[]⟩:=(by constructor<;>kernel_rfl)
theorem su:TIok Tryz.prog 26 ⟨3,true,0,4,96,[.nils,.nils,.nils,.nils],[(0,1),(1,1),(2,1),(3,1)]⟩:=(by constructor<;>kernel_rfl)
theorem sr:TIok Tryz.prog 27 ⟨1,false,58,1,24,[.nils],[]⟩:=(by constructor<;>kernel_rfl)
theorem sq:TIok Tryz.prog 29 ⟨3,true,0,6,136,[.str ByteArray.empty,.nils,.nils,.nils,.nils,.nils],[(0,1),(1,4),(5,1)]⟩:=(by constructor<;>kernel_rfl)
theorem so:TIok Tryz.prog 33 ⟨1,false,111,1,24,[.nils],[]⟩:=(by constructor<;>kernel_rfl)
theorem sn:TIok Tryz.prog 34 ⟨1,false,120,1,24,[.nils],[]⟩:=(by constructor<;>kernel_rfl)
theorem sm:TIok Tryz.prog 35 ⟨1,false,107,1,24,[.nils],[]⟩:=(by constructor<;>kernel_rfl)
theorem sl:TIok Tryz.prog 37 ⟨3,true,0,4,96,[.nils,.nils,.nils,.nils],[(0,1),(1,1),(2,1),(3,1)]⟩:=(by constructor<;>kernel_rfl)
theorem sk:TIok Tryz.prog 38 ⟨1,false,63,1,24,[.nils],[]⟩:=(by constructor<;>kernel_rfl)
theorem sj:TIok Tryz.prog 40 ⟨3,true,0,6,136,[.str ByteArray.empty,.nils,.nils,.nils,.nils,.nils],[(0,1),(1,4),(5,1)]⟩:=(by constructor<;>kernel_rfl)
theorem si:TIok Tryz.prog 58 ⟨1,false,102,1,24,[.nils],[]⟩:=(by constructor<;>kernel_rfl)
theorem sf:TIok Tryz.prog 63 ⟨1,false,113,1,24,[.nils],[]⟩:=(by constructor<;>kernel_rfl)
theorem se:TIok Tryz.prog 76 ⟨1,false,9,1,24,[.nils],[]⟩:=(by constructor<;>kernel_rfl)
theorem sd:TIok Tryz.prog 77 ⟨6,false,0,1,8,[.nilp],[]⟩:=(by constructor<;>kernel_rfl)
theorem sc:TIok Tryz.prog 78 ⟨1,false,5,1,24,[.nils],[]⟩:=(by constructor<;>kernel_rfl)
theorem sb:TIok Tryz.prog 80 ⟨3,true,0,2,32,[.nilp,.nils],[(0,1),(1,1)]⟩:=(by constructor<;>kernel_rfl)
theorem sa:TIok Tryz.prog 94 ⟨1,false,2,1,24,[.nils],[]⟩:=(by constructor<;>kernel_rfl)
theorem r9:TIok Tryz.prog 96 ⟨3,true,0,2,32,[.int .i64 0,.nils],[(0,1),(1,1)]⟩:=(by constructor<;>kernel_rfl)
theorem r8:TIok Tryz.prog 99 ⟨3,true,0,2,32,[.int .i64 0,.nils],[(0,1),(1,1)]⟩:=(by constructor<;>kernel_rfl)
theorem qP:TIok Tryz.prog 102 ⟨3,true,0,5,72,[.int .i64 0,.int .i64 0,.int .i64 0,.nils,.nils],[(0,1),(1,1),(2,2),(4,1)]⟩:=(by constructor<;>kernel_rfl)
theorem qO:TIok Tryz.prog 107 ⟨3,true,0,2,32,[.int .i64 0,.nils],[(0,1),(1,1)]⟩:=(by constructor<;>kernel_rfl)
theorem qN:TIok Tryz.prog 111 ⟨3,true,0,2,32,[.int .i64 0,.nils],[(0,1),(1,1)]⟩:=(by constructor<;>kernel_rfl)
theorem qM:TIok Tryz.prog 113 ⟨3,true,0,5,72,[.int .i64 0,.int .i64 0,.int .i64 0,.nils,.nils],[(0,1),(1,1),(2,2),(4,1)]⟩:=(by constructor<;>kernel_rfl)
theorem qL:TIok Tryz.prog 120 ⟨3,true,0,2,16,[.int .i64 0,.int .i64 0],[(0,1),(1,1)]⟩:=(by constructor<;>kernel_rfl)
theorem qK:TIok Tryz.prog 126 ⟨3,true,0,2,16,[.int .i64 0,.int .i64 0],[(0,1),(1,1)]⟩:=(by constructor<;>kernel_rfl)
theorem qJ:TIok Tryz.prog 140 ⟨6,false,0,1,8,[.nilp],[]⟩:=(by constructor<;>kernel_rfl)
theorem qI:TIok Tryz.prog 171 ⟨4,false,0,1,8,[.int .u64 0],[]⟩:=(by constructor<;>kernel_rfl)
theorem qH:TIok Tryz.prog 180 ⟨4,false,0,1,4,[.int .u32 0],[]⟩:=(by constructor<;>kernel_rfl)
theorem qG:TIok Tryz.prog 183 ⟨4,false,0,1,8,[.int .u64 0],[]⟩:=(by constructor<;>kernel_rfl)
theorem qF:TTok Tryz.prog tt:=⟨tt2,tt3,tt4,tt5,tt9,sB,sA,sv,su,sr,sq,so,sn,sm,sl,sk,sj,si,sf,se,sd,sc,sb,sa,r9,r8,qP,qO,qN,qM,qL,qK,qJ,qI,qH,qG,ao⟩
theorem nq:TTplain tt=true:=by kernel_rfl
theorem pJ:Tryz.prog.follows .mixedOrders=true:=by kernel_rfl
theorem ab{σ:Sg}{Q:Exit→St→Prop}{s:St}{id:Nat}{l:List Oper}{y:Code}(h:AOps σ l.toArray (gb (AWP σ y Q) Q) l s):AWP σ (.seq (.region id l.toArray false) y) Q s:=AWP.seq (AWP.region h)
theorem jn{σ:Sg}{Q:Exit→St→Prop}{s:St}{all:Array Oper}(h:Q .normal s):AOps σ all Q [] s:=AOps.nil h
theorem aX{σ:Sg}{Q:Exit→St→Prop}{s:St}{all:Array Oper}{id:Nat}{l:List Oper}{y:Code}(h:AOps σ l.toArray (gb (AWP σ y Q) Q) l s):AOps σ all (gb (AWP σ (.seq (.region id l.toArray false) y) Q) Q) [] s:=AOps.nil (AWP.seq (AWP.region h))
theorem az:(∀{α β:Type} {f:α→β} {l:List α},(l.map f).length=l.length)∧(∀{α:Type} [BEq α] [LawfulBEq α] {a b:α},(a==b)=true↔a=b)∧(∀{p:Prop} [Decidable p],(decide p=true)=p)∧(∀{p:Prop} [Decidable p],(decide p=false)↔¬p)∧(∀{b:Bool},((!b)=true)=(b=false))∧(∀{b:Bool},((!b)=false)=(b=true))∧((!true)=false)∧((!false)=true)∧(∀{a b:Int},¬a<b↔b≤a)∧(∀{a b:Int},¬a≤b↔b<a):=by
 refine⟨?_,?_,?_,?_,?_,?_,?_,?_,?_,?_⟩<;>intros<;>simp
theorem aW{σ:Sg}{Q:bm}{all:Array Oper}{l:List Oper}{e:List (Nat×A)}{H H':List (Nat×B)}(K:AOps σ all Q l ⟨e,H'⟩)(h:HN H H':=by repeat' (first|apply HN.cons rfl|exact HN.nil rfl|exact BN.row rfl|exact BN.map rfl|apply BN.box rfl|apply MN.cons rfl|exact MN.nil rfl|exact XN.d rfl|exact XN.rs rfl|exact jz)):AOps σ all Q l ⟨e,H⟩:=mG h K
theorem nZ{σ:Sg}{Q:Exit→St→Prop}{c:Code}{e:List (Nat×A)}{H H':List (Nat×B)}(K:AWP σ c Q ⟨e,H'⟩)(h:HN H H':=by repeat' (first|apply HN.cons rfl|exact HN.nil rfl|exact BN.row rfl|exact BN.map rfl|apply BN.box rfl|apply MN.cons rfl|exact MN.nil rfl|exact XN.d rfl|exact XN.rs rfl|exact jz)):AWP σ c Q ⟨e,H⟩:=nY h K
def qd(e:List (Nat×A)):List Nat→Option (List (Nat×A))
  | []=>some []
  | k :: ks=>match lk e k,qd e ks with
    | some v,some r=>some ((k,v)::r)
    | _,_=>none
theorem ju{e:List (Nat×A)}: ∀{ks:List Nat} {e':List (Nat×A)},qd e ks=some e'→envSub e e'
 | [],e',h=>by cases h;trivial
 | k::ks,e',h=>by
  unfold qd at h
  split at h
  rename_i v r h1 h2
  cases h
  exact⟨h1,ju h2⟩
  cases h
theorem jf{σ:Sg}{Q:Exit→St→Prop}{all:Array Oper}{l:List Oper}{e e':List (Nat×A)}{H:List (Nat×B)}(ks:List Nat)(h:qd e ks=some e')(K:AOps σ all Q l ⟨e',H⟩):AOps σ all Q l ⟨e,H⟩:=kv e' (ju h) K
theorem jw{σ:Sg}{Q:Exit→St→Prop}{c:Code}{e e':List (Nat×A)}{H:List (Nat×B)}(ks:List Nat)(h:qd e ks=some e')(K:AWP σ c Q ⟨e',H⟩):AWP σ c Q ⟨e,H⟩:=lj e' (ju h) K


noncomputable abbrev SG(L nt:Nat):Sg:=⟨Tryz.prog,tt,L,nt,[]⟩
theorem fC{L nt}(h1:4096≤L)(h2:L≤9223372036854775807):SgOk (SG L nt):=⟨qF,nq,h1,h2,pJ⟩
theorem jB{L f:Nat}{fn:Func}{c:Code}{args:List A}{Q:A→List (Nat×B)→Prop}(nt:Nat)(h1:4096≤L)(h2:L≤1073741824)(hf:Tryz.prog.funcs[f]? = some fn)(hz:(fn.body,fn.ntmps,Nat.ble args.length nt)=(some c,nt,true))(h:SgOk (SG L nt)→As.fact L args→AWP (SG L nt) c (fun e s=>(e= .ret∨e= .normal)∧∃s2,Ent (SG L nt) s s2∧∃res,cv tt s2 fn.results.toList=some res∧Q res s2.H) ⟨bM 0 args,[]⟩)(hn:(fn.name== "runtime.NumGoroutine")=false:=by kernel_rfl):MC Tryz.prog L f args [] Q:=have hσ:=fC (nt:=nt) h1 (Nat.le_trans h2 (by decide));have hz:=Prod.mk.inj hz;have hy:=Prod.mk.inj hz.2;MC.body hσ hf hn hz.1 hy.1 (Nat.le_of_ble_eq_true hy.2) (h hσ)
theorem jH{L f:Nat}{fn:Func}{c:Code}{args:List A}{Hin:List (Nat×B)}{Q:A→List (Nat×B)→Prop}(nt:Nat)(ks:List Nat)(h1:4096≤L)(h2:L≤1073741824)(hf:Tryz.prog.funcs[f]? = some fn)(hz:(fn.body,fn.ntmps,ks,Nat.ble args.length nt)=(some c,nt,Hin.map (·.1),true))(h:SgOk ⟨Tryz.prog,tt,L,nt,ks⟩→As.fact L args→AWP ⟨Tryz.prog,tt,L,nt,ks⟩ c (fun e s=>(e= .ret∨e= .normal)∧∃s2,Ent ⟨Tryz.prog,tt,L,nt,ks⟩ s s2∧∃res,cv tt s2 fn.results.toList=some res∧Q res s2.H) ⟨bM 0 args,Hin⟩)(hn:(fn.name== "runtime.NumGoroutine")=false:=by kernel_rfl):MC Tryz.prog L f args Hin Q:=have hσ:=jI (js:=ks) (fC (nt:=nt) h1 (Nat.le_trans h2 (by decide)));have hz:=Prod.mk.inj hz;have hy:=Prod.mk.inj hz.2;have hx:=Prod.mk.inj hy.2;nW hσ hf hn hz.1 hy.1 hx.1 (Nat.le_of_ble_eq_true hx.2) (h hσ)
abbrev MQ{L:Nat}(h1:4096≤L)(h2:L≤1073741824)(f:Nat)(ds:List A)(Hin:List (Nat×B))(Q:A→List (Nat×B)→Prop):Prop:=MC Tryz.prog L f ds Hin Q
abbrev eI(n:Int):A:=.c (.d (.int .i64 n))
abbrev eB(b:Bool):A:=.c (.d (.bool b))
abbrev fU(xs:List Int):D:=.slc 1 (xs.map fun n=>[.int .i64 n])
structure Tm where
  c:Int
  xs:List Int
  deriving Inhabited
abbrev Tm.cells(t:Tm):List D:=[.int .i64 t.c,fU t.xs]
abbrev ptr(cs:List D):A:=.c (.d (.ptr cs 0))
def gL(x:Int):Bool:=decide (-1000000≤x)&&decide (x≤1000000)
def Tm.ok(t:Tm):Bool:=!(bif (bif !gL t.c then true else decide ((10:Int)<t.xs.length))then true else bif decide ((0:Int)<t.xs.length)then decide (t.xs.getD ((t.xs.length:Int)-1).toNat default=0)else false)&&t.xs.all gL
theorem fi{α:Type}{p:α→Bool}{xs:List α}(h: ∀j (hj:j<xs.length),p xs[j]=true):xs.all p=true:=by
 rw[List.all_eq_true];intro x hx
 obtain⟨j,hj,rfl⟩:=List.mem_iff_getElem.1 hx
 exact h j hj
theorem dP{α:Type}{p:α→Bool}{xs:List α}(j:Nat)(hj:j<xs.length)(h:p xs[j]=false):xs.all p=false:=by
 rw[List.all_eq_false];exact⟨xs[j],List.getElem_mem _,by simp[h]⟩
theorem au{α:Type}[Inhabited α]{xs:List α}{j:Nat}(hj:j<xs.length):xs.getD j default=xs[j]:=by simp[hj]

variable{x lo hi:Int}
theorem kB:MQ h1 h2 59 [eI x,eI lo,eI hi] [] (Plain (eB (decide (lo≤x)&&decide (x≤hi)))):=by
 refine ac ?_ Z
 refine jB 15 h1 h2 Tryz.func59 Z fun O hF=>?_
 refine ab (js Z (aX (aJ Z (aA 3 Z Z Z (fun hx=>ax hx Z (ax hx Z (ax hx Z (AN.nil)))) Z Z (ah (ar O Z Z Z Z Z) Z (js Z (jr ?_)))))))
 refine am Z ?_
 rw[Bool.cond_false_right]
theorem oh:MQ h1 h2 119 [eI x] [] (Plain (eB (gL x))):=by
 refine ac ?_ Z
 refine jB 5 h1 h2 Tryz.func119 Z fun O hF=>?_
 refine ab (js Z (aX (js Z (aB Z (kB h1 h2) 5000 Z (js Z (jr ?_))))))
 refine am Z ?_
 first|rfl|skip
variable{t:Tm}
theorem qA:MQ h1 h2 96 [ptr t.cells] [] (Plain (eB t.ok)):=by
 refine ac ?_ Z
 refine jB 49 h1 h2 Tryz.func96 Z fun O hF=>?_
 have hl:t.xs.length≤L:=by simpa[As.fact,A.fact,M.fact,D.fact,Ds.fact]using hF.1.2.1.1
 refine ab (js Z (aX (aJ Z (bA Z (js Z (jn (af (ab (aJ Z (aB Z (oh h1 h2) 15000 Z (aa Z (aA 2 Z Z Z (fun hx=>ax hx Z (ax hx Z (AN.nil))) Z Z (ah (ay O Z Z Z Z Z) Z (js Z (aA 13 Z Z Z (fun hx=>ax hx Z (ax hx Z (ax hx Z (nn 9 Z Z Z Z (fun hx'=>ax hx' Z (ax hx' Z (ax hx' Z (ax hx' Z (ax hx' Z (c5 hx' (vF Z) Z (c5 hx' (vD Z) Z (ax hx' Z (ax hx' Z (AN.nil)))))))))) Z Z (c5 hx (ar O Z Z Z Z Z) Z (AN.nil)))))) Z Z (ah (ay O Z Z Z Z Z) Z (jn (al Z (fun z34=>?_) (fun z34=>?_)))))))))))))))))))
 try simp only[az]at z34
 refine ab (js Z (jr ?_))
 refine am Z ?_
 simp only[Tm.ok,z34,Bool.not_true,Bool.false_and]
 try simp only[az]at z34
 refine ae (af (ab (js Z (jn (ak (aq (X:=Nat) (fun i=>⟨[(0,ptr t.cells),(3,eI t.xs.length),(4,eI i)],[]⟩) (fun i=>i≤t.xs.length∧∀j (h:j<t.xs.length),j<i→gL t.xs[j]=true) (fun i=>t.xs.length-i) 0 (Ent.env ⟨Z,Z,Z,ao⟩) ?_ (fun i hi=>?_)))))))
 exact⟨bZ _,fun j h hj=>absurd hj (Nat.not_lt_zero j)⟩
 refine af (ab (bc Z (jn (al Z (fun z37=>?_) (fun z37=>?_)))))
 try simp only[az]at z37
 refine ae (af (ak (ab (aJ Z (js Z (eZ Z Z (js Z (aB Z (oh h1 h2) 48000 Z (js Z (jn (al Z (fun z48=>?_) (fun z48=>?_))))))))))))
 try simp only[az]at z48
 refine ab (js Z (jr ?_))
 refine am Z ?_
 rw[Int.toNat_natCast,au (by omega)]at z48
 simp only[Tm.ok,dP i (by omega) z48,Bool.and_false]
 try simp only[az]at z48
 refine ae (ag (js Z (ji Z (js Z (jn ?_)))))
 refine⟨i+1,Ent.env ⟨Z,Z,Z,ao⟩,⟨by omega,fun j h hj=>?_⟩,by omega⟩
 by_cases e:j=i
 subst e;rw[Int.toNat_natCast,au h]at z48;exact z48
 exact hi.2 j h (by omega)
 try simp only[az]at z37
 refine aL (ab (js Z (jr ?_)))
 refine am Z ?_
 simp only[Tm.ok,z34,Bool.not_false,Bool.true_and]
 rw[fi (fun j hj=>hi.2 j hj (by omega))]
abbrev mb(xs:List Int):B:=.row true 1 (xs.map fun n=>[.int .i64 n])
abbrev cr(xs:List Int):A:=.c (.d (fU xs))
variable{xs:List Int}
theorem tI:MQ h1 h2 101 [cr xs] [] (Rows (.c (.rs 0 0 xs.length)) [mb xs]):=by
 refine bW (jB 22 h1 h2 Tryz.func101 Z fun O hF=>?_)
 have hl:xs.length≤L:=by simpa[As.fact,A.fact,M.fact,D.fact,Ds.fact]using hF.1.1
 refine ab (js Z (aX (js Z (bA Z (bC (eK O Z Z Z Z Z Z Z Z Z (by first|omega|(simp at *;omega)) (by first|omega|(simp at *;omega)) (by first|omega|(simp at *;omega)) (by first|omega|(dsimp only;omega)|(simp only[az]at *;omega)) (by first|omega|(simp at *;omega)) Z Z Z) Z (js Z (jn (af (ab (js Z (jn (ak (aq (X:=Nat×List Int) (fun x=>⟨[(0,cr xs),(3,.c (.rs 7 0 xs.length)),(4,eI x.1)],[(7,mb x.2)]⟩) (fun x=>x.1≤xs.length∧x.2.length=xs.length∧∀j,j<x.1→x.2[j]? = xs[j]?) (fun x=>xs.length-x.1) (0,List.replicate xs.length 0) (Ent.to ⟨Z,Z,Z,ao⟩ (by simp[ins,mb])) ?_ (fun x hi=>?_))))))))))))))
 exact⟨bZ _,List.length_replicate,fun j hj=>absurd hj (Nat.not_lt_zero j)⟩
 refine af (ab (aa Z (bA Z (js Z (jn (al Z (fun z11=>?_) (fun z11=>?_)))))))
 try simp only[az]at z11
 refine ae (af (ak (ag (aJ Z (eZ Z Z (js Z (aQ Z Z (bC (kr (ex:=[.int .i64 (x.2.getD x.1 default)]) (xs':=(x.2.set x.1 (xs.getD x.1 default)).map fun n=>[.int .i64 n]) O Z Z Z Z Z Z Z Z Z Z Z Z Z Z (by simp[hi.2.1,show x.1<xs.length by omega]) (by simp[List.map_set])) Z (jn (ag (js Z (ji Z (js Z (jn ?_))))))))))))))
 refine⟨(x.1+1,x.2.set x.1 (xs.getD x.1 default)),Ent.to ⟨Z,Z,Z,ao⟩ Z,⟨by omega,by simp[hi.2.1],fun j hj=>?_⟩,by omega⟩
 rw[List.getElem?_set]
 split
 rename_i e;subst e;simp[hi.2.1,show x.1<xs.length by omega]
 exact hi.2.2 j (by omega)
 try simp only[az]at z11
 refine aL (ab (aa Z (jr ?_)))
 have e:x.2=xs:=List.ext_getElem? fun j=>by
  rcases Nat.lt_or_ge j x.1 with h|h
  ·
   exact hi.2.2 j h
  ·
   rw[List.getElem?_eq_none (by omega),List.getElem?_eq_none (by omega)]
 refine⟨.inl Z,_,cp,_,Z,[7],by decide,Z,Z,?_⟩
 rw[←e];rfl

theorem tL{ys:List Int}:MQ h1 h2 118 [cr xs,cr ys] [] (Plain (eB (decide (xs=ys)))):=by
 refine ac ?_ Z
 refine jB 26 h1 h2 Tryz.func118 Z fun O hF=>?_
 have hl:xs.length≤L:=by simpa[As.fact,A.fact,M.fact,D.fact,Ds.fact]using hF.1.1
 have hl2:ys.length≤L:=by simpa[As.fact,A.fact,M.fact,D.fact,Ds.fact]using hF.2.1.1
 refine ab (js Z (jn (af (ab (js Z (bA Z (js Z (bA Z (js Z (jn (al Z (fun z10=>?_) (fun z10=>?_))))))))))))
 try simp only[az]at z10
 refine ab (js Z (jr ?_))
 refine am Z ?_
 rw[decide_eq_false (fun e=>by subst e;simp at z10)]
 try simp only[az]at z10
 refine ae (af (ab (js Z (jn (ak (aq (X:=Nat) (fun i=>⟨[(0,cr xs),(1,cr ys),(5,eI i)],[]⟩) (fun i=>i≤xs.length∧∀j,j<i→xs[j]? = ys[j]?) (fun i=>xs.length-i) 0 (Ent.env ⟨Z,Z,Z,ao⟩) ?_ (fun i hi=>?_)))))))
 exact⟨bZ _,fun j hj=>absurd hj (Nat.not_lt_zero j)⟩
 refine af (ab (aa Z (bA Z (js Z (jn (al Z (fun z14=>?_) (fun z14=>?_)))))))
 try simp only[az]at z14
 refine ae (af (ak (af (kA [_,_,_,_,_,_,_,_,_] [bp,bp,aT [0,1],aT [0,1,2],bp,bp,aT [4,5],aT [4,5,6],aT (rg 0 8)] [] [_] (kc Z (kc Z (ai (vD Z) (kc Z (kc Z (kc Z (ai (vD Z) (kc Z (kc Z trivial))))))))) ?_))))
 refine al Z (fun z25=>?_) (fun z25=>?_)
 try simp only[az]at z25
 refine ab (js Z (jr ?_))
 refine am Z ?_
 rw[decide_eq_false (fun e=>by subst e;simp at z25)]
 try simp only[az]at z25
 refine ae (ag (js Z (ji Z (js Z (jn ?_)))))
 refine⟨i+1,Ent.env ⟨Z,Z,Z,ao⟩,⟨by omega,fun j hj=>?_⟩,by omega⟩
 rcases Nat.lt_or_ge j i with h|h
 exact hi.2 j h
 obtain rfl:j=i:=by omega
 rw[Int.toNat_natCast,au (by omega),au (by omega)]at z25
 rw[List.getElem?_eq_getElem (by omega),List.getElem?_eq_getElem (by omega),z25]
 try simp only[az]at z14
 refine aL (ab (js Z (jr ?_)))
 refine am Z ?_
 have e:xs=ys:=List.ext_getElem? fun j=>by
  rcases Nat.lt_or_ge j i with h|h
  ·
   exact hi.2 j h
  ·
   rw[List.getElem?_eq_none (by omega),List.getElem?_eq_none (by omega)]
 rw[decide_eq_true e]
deriving instance DecidableEq for Tm
abbrev rS(t:Tm):A:=.agg [.d (.int .i64 t.c),.d (fU t.xs)]
abbrev oQ(ts:List Tm):D:=.slc 2 (ts.map Tm.cells)
abbrev dY(ts:List Tm):A:=.c (.d (oQ ts))
abbrev lZ(ts:List Tm):B:=.row true 2 (ts.map Tm.cells)

theorem tG:MQ h1 h2 71 [rS t] [] (Rows (.agg [.d (.int .i64 t.c),.rs 0 0 t.xs.length]) [mb t.xs]):=by
 refine bW (jB 12 h1 h2 Tryz.func71 Z fun O hF=>?_)
 refine ab (jx Z (jl Z (aX (jl Z (aX (bc Z (jo Z (aX (aa Z (bl O (B0:=10000) Z Z Z Z (tI h1 h2) (aj Z) Z Z Z Z Z Z (js Z (jo Z (aX (js Z (jo Z (jr ?_))))))))))))))))
 refine⟨.inl Z,_,cp,_,Z,[10000],by decide,Z,Z,Z⟩
theorem tF{s:Tm}:MQ h1 h2 90 [rS s,rS t] [] (Plain (eB (decide (s=t)))):=by
 refine ac ?_ Z
 refine jB 16 h1 h2 Tryz.func90 Z fun O hF=>?_
 refine ab (jx Z (jx Z (js Z (jn (af (ab (aJ Z (js Z (jn (al Z (fun z9=>?_) (fun z9=>?_)))))))))))
 try simp only[az]at z9
 refine ab (js Z (jr ?_))
 refine am Z ?_
 rw[decide_eq_false (fun e=>z9 (by rw[e]))]
 try simp only[az]at z9
 refine ae (af (ab (aJ Z (aB Z (tL h1 h2) 15000 Z (js Z (jn (al Z (fun z15=>?_) (fun z15=>?_))))))))
 try simp only[az]at z15
 refine ab (js Z (jr ?_))
 refine am Z ?_
 rw[decide_eq_false (fun e=>z15 (by rw[e]))]
 try simp only[az]at z15
 refine ae (ab (js Z (jr ?_)))
 refine am Z ?_
 have e:s=t:=by cases s;cases t;simp_all
 rw[decide_eq_true e]
def bH(left:Int)(n:Nat):Int:=if left<n then -1 else left-n
def Tm.size(t:Tm):Nat:=t.xs.length

theorem tJ{L:Nat}(h1:4096≤L)(h2:L≤9223372036854775807){xs:List Int}{left:Int}(hl0:0≤left)(hl1:left≤1048576):MC Tryz.prog L 94 [cr xs,eI left] [] (Plain (eI (bH left xs.length))):=by
 refine ac ?_ Z
 have O:=fC (nt:=12) h1 h2
 refine MC.body O Tryz.func94 (by kernel_rfl) Z Z (Nat.le_of_ble_eq_true Z) (fun hF=>?_)
 have hl:xs.length≤L:=by simpa[As.fact,A.fact,M.fact,D.fact,Ds.fact]using hF.1.1
 refine ab (js Z (aX (aa Z (bA Z (ji Z (js Z (jn (af (ab (aa Z (jn (al Z (fun z10=>?_) (fun z10=>?_)))))))))))))
 try simp only[az]at z10
 refine ab (js Z (jr ?_))
 refine am Z ?_
 rw[show bH left xs.length= -1 from if_pos (by omega)]
 try simp only[az]at z10
 refine ae (ab (aa Z (jr ?_)))
 refine am Z ?_
 rw[show bH left xs.length=left-xs.length from if_neg (by omega)]
theorem tH{L:Nat}(h1:4096≤L)(h2:L≤9223372036854775807){t:Tm}{left:Int}(hl0:0≤left)(hl1:left≤1048576):MC Tryz.prog L 53 [rS t,eI left] [] (Plain (eI (bH left t.size))):=by
 refine ac ?_ Z
 have O:=fC (nt:=12) h1 h2
 refine MC.body O Tryz.func53 (by kernel_rfl) Z Z (Nat.le_of_ble_eq_true Z) (fun hF=>?_)
 refine ab (jx Z (js Z (aX (bc Z (aB Z (tJ h1 h2 hl0 hl1) 9000 Z (js Z (jn (af (ab (aa Z (jn (al Z (fun z10=>?_) (fun z10=>?_)))))))))))))
 try simp only[az]at z10
 refine ab (js Z (jr ?_))
 refine am Z ?_
 have:bH left t.size= -1:=by unfold bH Tm.size at *;split at z10<;>simp_all<;>omega
 rw[this]
 try simp only[az]at z10
 refine ae (ab (aa Z (jr ?_)))
 refine am Z ?_
 rfl
def szs{α:Type}(f:α→Nat)(xs:List α):Nat:=xs.length+(xs.map f).sum
theorem cK{α:Type}[Inhabited α](f:α→Nat)(xs:List α)(i:Nat)(h:i<xs.length):((xs.take (i+1)).map f).sum=((xs.take i).map f).sum+f (xs.getD i default):=by
 rw[List.take_add_one,List.map_append,List.sum_append,List.getElem?_eq_getElem h]
 simp[h]
theorem i9{α:Type}(f:α→Nat)(xs:List α)(i:Nat):((xs.take i).map f).sum≤(xs.map f).sum:=by
 conv=>rhs;rw[←List.take_append_drop i xs,List.map_append,List.sum_append]
 omega
theorem r4{L:Nat}(h1:4096≤L)(h2:L≤9223372036854775807){ts:List Tm}{left:Int}(hl0:0≤left)(hl1:left≤1048576):MC Tryz.prog L 19 [dY ts,eI left] [] (Plain (eI (bH left (Al.szs Tm.size ts)))):=by
 refine ac ?_ Z
 have O:=fC (nt:=27) h1 h2
 refine MC.body O Tryz.func19 (by kernel_rfl) Z Z (Nat.le_of_ble_eq_true Z) (fun hF=>?_)
 have hl:ts.length≤L:=by simpa[As.fact,A.fact,M.fact,D.fact,Ds.fact]using hF.1.1
 refine ab (js Z (aX (aa Z (bA Z (ji Z (js Z (jn (af (ab (aa Z (jn (al Z (fun z11=>?_) (fun z11=>?_)))))))))))))
 try simp only[az]at z11
 refine ab (js Z (jr ?_))
 refine am Z ?_
 rw[show bH left (Al.szs Tm.size ts)= -1 from if_pos (by unfold Al.szs;omega)]
 try simp only[az]at z11
 refine ae (af (ab (js Z (jn (ak (aq (X:=Nat) (fun i=>⟨[(0,dY ts),(1,eI (left-ts.length-((ts.take i).map Tm.size).sum)),(5,eI i)],[]⟩) (fun i=>i≤ts.length∧(0:Int)≤left-ts.length-((ts.take i).map Tm.size).sum) (fun i=>ts.length-i) 0 (Ent.env ⟨Z,by simp[ap],Z,ao⟩) ?_ (fun i hi=>?_)))))))
 exact⟨bZ _,by simp;omega⟩
 refine af (ab (aa Z (bA Z (js Z (jn (al Z (fun z15=>?_) (fun z15=>?_)))))))
 try simp only[az]at z15
 refine ae (af (ak (ab (aa Z (eZ Z Z (aa Z (aB Z (tH h1 h2 hi.2 (by omega)) 24000 Z (js Z (aX (aa Z (jn (al Z (fun z25=>?_) (fun z25=>?_)))))))))))))
 try simp only[az]at z25
 refine ab (js Z (jr ?_))
 refine am Z ?_
 have e:=cK Tm.size ts i (by omega)
 have e3:=i9 Tm.size ts (i+1)
 rw[Int.toNat_natCast]at z25
 rw[show bH left (Al.szs Tm.size ts)= -1 from if_pos (by unfold bH at z25;unfold Al.szs;split at z25<;>omega)]
 try simp only[az]at z25
 refine ae (ag (js Z (ji Z (js Z (jn ?_)))))
 have e:=cK Tm.size ts i (by omega)
 have e2:bH (left-ts.length-((ts.take i).map Tm.size).sum) (ts.getD i default).size=left-ts.length-((ts.take (i+1)).map Tm.size).sum:=by
  unfold bH at z25 ⊢
  rw[Int.toNat_natCast]at z25
  split at z25<;>omega
 refine⟨i+1,Ent.env ⟨Z,?_,Z,ao⟩,⟨by omega,?_⟩,by omega⟩
 rw[←e2];rfl
 rw[←e2];rw[Int.toNat_natCast]at z25;omega
 try simp only[az]at z15
 refine aL (ab (aa Z (jr ?_)))
 refine am Z ?_
 obtain rfl:i=ts.length:=by omega
 have e4:=hi.2
 rw[List.take_length]at e4 ⊢
 rw[show bH left (Al.szs Tm.size ts)=left-ts.length-(ts.map Tm.size).sum from by unfold bH Al.szs;rw[if_neg (by omega)];omega]

theorem r5{xs ys:List Tm}:MQ h1 h2 49 [dY xs,dY ys] [] (Plain (eB (decide (xs=ys)))):=by
 refine ac ?_ Z
 refine jB 27 h1 h2 Tryz.func49 Z fun O hF=>?_
 have hl:xs.length≤L:=by simpa[As.fact,A.fact,M.fact,D.fact,Ds.fact]using hF.1.1
 have hl2:ys.length≤L:=by simpa[As.fact,A.fact,M.fact,D.fact,Ds.fact]using hF.2.1.1
 refine ab (js Z (jn (af (ab (js Z (bA Z (js Z (bA Z (js Z (jn (al Z (fun z10=>?_) (fun z10=>?_))))))))))))
 try simp only[az]at z10
 refine ab (js Z (jr ?_))
 refine am Z ?_
 rw[decide_eq_false (fun e=>by subst e;simp at z10)]
 try simp only[az]at z10
 refine ae (af (ab (js Z (jn (ak (aq (X:=Nat) (fun i=>⟨[(0,dY xs),(1,dY ys),(5,eI i)],[]⟩) (fun i=>i≤xs.length∧∀j,j<i→xs[j]? = ys[j]?) (fun i=>xs.length-i) 0 (Ent.env ⟨Z,Z,Z,ao⟩) ?_ (fun i hi=>?_)))))))
 exact⟨bZ _,fun j hj=>absurd hj (Nat.not_lt_zero j)⟩
 refine af (ab (aa Z (bA Z (js Z (jn (al Z (fun z14=>?_) (fun z14=>?_)))))))
 try simp only[az]at z14
 refine ae (af (ak (af (kA [_,_,_,_,_,_,_,_,_,_] [bp,bp,aT [0,1],aT [0,1,2],bp,bp,aT [4,5],aT [4,5,6],pe (rg 0 8) 0,pn (rg 0 9) 1 1] [8] [_,_] (kc Z (kc Z (ai (vD Z) (kc Z (kc Z (kc Z (ai (vD Z) (kc Z (ai (aD O (B0:=26000) Z Z Z Z (tF h1 h2) (aj Z) Z Z Z Z Z) (kc Z trivial)))))))))) ?_))))
 refine al Z (fun z26=>?_) (fun z26=>?_)
 try simp only[az]at z26
 refine ab (js Z (jr ?_))
 refine am Z ?_
 rw[decide_eq_false (fun e=>by subst e;simp at z26)]
 try simp only[az]at z26
 refine ae (ag (js Z (ji Z (js Z (jn ?_)))))
 refine⟨i+1,Ent.env ⟨Z,Z,Z,ao⟩,⟨by omega,fun j hj=>?_⟩,by omega⟩
 rcases Nat.lt_or_ge j i with h|h
 exact hi.2 j h
 obtain rfl:j=i:=by omega
 rw[Int.toNat_natCast,au (by omega),au (by omega)]at z26
 rw[List.getElem?_eq_getElem (by omega),List.getElem?_eq_getElem (by omega),z26]
 try simp only[az]at z14
 refine aL (ab (js Z (jr ?_)))
 refine am Z ?_
 have e:xs=ys:=List.ext_getElem? fun j=>by
  rcases Nat.lt_or_ge j i with h|h
  ·
   exact hi.2 j h
  ·
   rw[List.getElem?_eq_none (by omega),List.getElem?_eq_none (by omega)]
 rw[decide_eq_true e]
variable{ts:List Tm}
theorem r3:MQ h1 h2 31 [dY ts] [] (Rows (.c (.rs 0 0 ts.length)) [lZ ts]):=by
 refine bW (jB 23 h1 h2 Tryz.func31 Z fun O hF=>?_)
 have hl:ts.length≤L:=by simpa[As.fact,A.fact,M.fact,D.fact,Ds.fact]using hF.1.1
 refine ab (js Z (aX (js Z (bA Z (bC (eK O Z Z Z Z Z Z Z Z Z (by first|omega|(simp at *;omega)) (by first|omega|(simp at *;omega)) (by first|omega|(simp at *;omega)) (by first|omega|(dsimp only;omega)|(simp only[az]at *;omega)) (by first|omega|(simp at *;omega)) Z Z Z) Z (js Z (jn (af (ab (js Z (jn (ak (aq (X:=Nat×List Tm) (fun x=>⟨[(0,dY ts),(3,.c (.rs 7 0 ts.length)),(4,eI x.1)],[(7,lZ x.2)]⟩) (fun x=>x.1≤ts.length∧x.2.length=ts.length∧∀j,j<x.1→x.2[j]? = ts[j]?) (fun x=>ts.length-x.1) (0,List.replicate ts.length ⟨0,[]⟩) ((Ent.rowLe 7 Z (NLess.replicate (lY (.cons (.nil (sz:=1)) .nil)))).trans (Ent.to ⟨Z,Z,Z,ao⟩ (by simp[ins,cy,lZ]))) ?_ (fun x hi=>?_))))))))))))))
 exact⟨bZ _,List.length_replicate,fun j hj=>absurd hj (Nat.not_lt_zero j)⟩
 refine af (ab (aa Z (bA Z (js Z (jn (al Z (fun z11=>?_) (fun z11=>?_)))))))
 try simp only[az]at z11
 refine ae (af (ak (ag (aJ Z (eZ Z Z (js Z (bl O (B0:=21000) Z Z Z Z (tG h1 h2) (aj Z) Z Z Z Z Z Z (aQ Z Z (bC (cO (ex:=(x.2.getD x.1 default).cells) (xs':=(x.2.set x.1 (ts.getD x.1 default)).map Tm.cells) O Z Z Z Z Z Z Z (.d Z (.rs Z (by simp) .nil)) Z Z Z Z Z Z (by simp[hi.2.1,show x.1<ts.length by omega]) (by simp[List.map_set])) Z (jn (ag (js Z (ji Z (js Z (jn ?_)))))))))))))))
 refine⟨(x.1+1,x.2.set x.1 (ts.getD x.1 default)),Ent.to ⟨Z,Z,Z,ao⟩ Z,⟨by omega,by simp[hi.2.1],fun j hj=>?_⟩,by omega⟩
 rw[List.getElem?_set]
 split
 rename_i e;subst e;simp[hi.2.1,show x.1<ts.length by omega]
 exact hi.2.2 j (by omega)
 try simp only[az]at z11
 refine aL (ab (aa Z (jr ?_)))
 have e:x.2=ts:=List.ext_getElem? fun j=>by
  rcases Nat.lt_or_ge j x.1 with h|h
  ·
   exact hi.2.2 j h
  ·
   rw[List.getElem?_eq_none (by omega),List.getElem?_eq_none (by omega)]
 refine⟨.inl Z,_,cp,_,Z,[7],by decide,Z,Z,?_⟩
 rw[←e];rfl
structure Sm where
  kind:Int
  var:Int
  event:Int
  sum:Tm
  index:Tm
  facts:List Tm
  deriving Inhabited,DecidableEq
theorem gP{left:Int}(h:0≤left)(n:Nat):bH left n≤left:=by unfold bH;split<;>omega
theorem di{left:Int}{a:Nat}(b:Nat)(h:0≤bH left a):bH (bH left a) b=bH left (a+b):=by unfold bH at *;split at h<;>repeat' (first|omega|split)
theorem gC{left:Int}{a:Nat}(b:Nat)(h:bH left a<0):bH left (a+b)= -1:=by unfold bH at *;split at h<;>repeat' (first|omega|split)

structure Pm where
  pre:List Tm
  body:List Sm
  post:List Tm
  deriving Inhabited,DecidableEq
structure Sx where
  vars:List Int
  cells:List Int
  deriving Inhabited,DecidableEq
def oY{α:Type}(f:Int→α→α)(sz:α→Nat):Int→List α→List α
  | _,[]=>[]
  | k,a::r=>f k a::oY f sz (k+sz a) r
def rQ{α:Type}(sz:α→Nat)(l:List α):Nat:=(l.map sz).sum
def mk{α:Type}(f:Int→α→α)(sz:α→Nat)(k:Int)(i:Nat)(l:List α):List α:=oY f sz k (l.take i)++l.drop i
section
variable{α:Type}{f:Int→α→α}{sz:α→Nat}
end

def Tm.term(t:Tm):Bool:=t.ok&&decide ((t.xs.length:Int)≤4)
def bh(ts:List Tm)(n:Int):Bool:=ts.all Tm.term&&decide ((ts.length:Int)≤n)
def below(k:Int):Int:=if k=1 then 2 else if k=7 then 2 else if k=8 then 1 else 0
def Tm.zero(t:Tm):Bool:=decide (t.c=0)&&decide ((t.xs.length:Int)=0)

theorem qy:MQ h1 h2 97 [ptr t.cells] [] (Plain (eB t.zero)):=by
 refine ac ?_ Z
 refine jB 16 h1 h2 Tryz.func97 Z fun O hF=>?_
 refine ab (js Z (aX (aJ Z (aa Z (aA 6 Z Z Z (fun hx=>ax hx Z (ax hx Z (ax hx Z (ax hx Z (c5 hx (aU O Z Z Z Z Z Z Z Z) Z (ax hx Z (AN.nil))))))) Z Z (ah (ar O Z Z Z Z Z) Z (js Z (jr ?_))))))))
 refine am Z ?_
 rw[Bool.cond_false_right];rfl
def sG(s:Sm):Bool:=bif bif bif bif decide (s.kind=2)then true else decide (s.kind=4)then true else decide (s.kind=6)then true else decide (s.kind=7)then true else decide (s.kind=8)
def sI(s:Sm):Bool:=bif decide (s.kind=3)then true else decide (s.kind=4)
def qj(s:Sm):Bool:=bif decide (s.kind=2)then true else decide (s.kind=3)
def sB1(s:Sm):Bool:=bif bif bif !(decide (0≤s.kind)&&decide (s.kind≤8))then true else !s.sum.term then true else !s.index.term then true else !bh s.facts 6
def sB2(s:Sm):Bool:=bif bif bif !sG s then !s.sum.zero else false then true else bif !sI s then !s.index.zero else false then true else bif !decide (s.kind=8)then decide ((0:Int)<s.facts.length)else false
def sB3(s:Sm):Bool:=bif bif qj s then !(decide (0≤s.var)&&decide (s.var≤3))else false then true else bif !qj s then !decide (s.var=0)else false
def qQ(s:Sm):Bool:=bif sB1 s then false else bif sB2 s then false else bif sB3 s then false else bif decide (s.kind=5)then(decide (0≤s.event)&&decide (s.event≤3))else decide (s.event=0)
def big(x:Int):Bool:=decide (-1000000000≤x)&&decide (x≤1000000000)
def oW(xs:List Int)(n:Int):Bool:=xs.all big&&decide ((xs.length:Int)=n)
theorem rV{x:Int}:gL x=true↔ -1000000≤x∧x≤1000000:=by simp[gL]
abbrev mX(t:Tm):A:=.agg (t.cells.map .d)
def cC(lo hi x:Int):Bool:=decide (lo≤x)&&decide (x≤hi)

theorem i7:MQ h1 h2 75 [eI x,eI lo,eI hi] [] (Plain (eB (cC lo hi x))):=by
 refine ac ?_ Z
 refine jB 15 h1 h2 Tryz.func75 Z fun O hF=>?_
 refine ab (js Z (aX (aJ Z (aA 3 Z Z Z (fun hx=>ax hx Z (ax hx Z (ax hx Z (AN.nil)))) Z Z (ah (ar O Z Z Z Z Z) Z (js Z (jr ?_)))))))
 refine am Z ?_
 rw[Bool.cond_false_right];rfl
theorem qz:MQ h1 h2 128 [cr xs,eI lo,eI hi] [] (Plain (eB (xs.all (cC lo hi)))):=by
 refine ac ?_ Z
 refine jB 21 h1 h2 Tryz.func128 Z fun O hF=>?_
 have hl:xs.length≤L:=by simpa[As.fact,A.fact,M.fact,D.fact,Ds.fact]using hF.1.1
 refine ab (js Z (jn (af (ab (js Z (bA Z (js Z (jn (ak (aq (X:=Nat) (fun i=>⟨[(1,eI lo),(2,eI hi),(9,cr xs),(10,eI xs.length),(11,eI i)],[]⟩) (fun i=>i≤xs.length∧∀j (h:j<xs.length),j<i→cC lo hi xs[j]=true) (fun i=>xs.length-i) 0 (Ent.env ⟨Z,Z,Z,Z,Z,ao⟩) ?_ (fun i hi=>?_)))))))))))
 exact⟨bZ _,fun j h hj=>absurd hj (Nat.not_lt_zero j)⟩
 refine ab (js Z (jn (af (al Z (fun z12=>?_) (fun z12=>?_)))))
 try simp only[az]at z12
 refine ae (af (ak (ab (eZ Z Z (aa Z (aX (bc Z (aB Z (i7 h1 h2) 19000 Z (js Z (jn (al Z (fun z19=>?_) (fun z19=>?_))))))))))))
 try simp only[az]at z19
 refine ab (js Z (jr ?_))
 refine am Z ?_
 rw[Int.toNat_natCast,au (by omega)]at z19
 rw[dP i (by omega) z19]
 try simp only[az]at z19
 refine ae (ag (ji Z (js Z (jn ?_))))
 refine⟨i+1,Ent.env ⟨Z,Z,Z,Z,Z,ao⟩,⟨by omega,fun j h hj=>?_⟩,by omega⟩
 by_cases e:j=i
 subst e;rw[Int.toNat_natCast,au h]at z19;exact z19
 exact hi.2 j h (by omega)
 try simp only[az]at z12
 refine aL (ab (js Z (jr ?_)))
 refine am Z ?_
 rw[fi (fun j hj=>hi.2 j hj (by omega))]
theorem pG:MQ h1 h2 121 [eI x] [] (Plain (eB (gL x))):=by
 refine ac ?_ Z
 refine jB 5 h1 h2 Tryz.func121 Z fun O hF=>?_
 refine ab (js Z (aX (js Z (aB Z (i7 h1 h2) 5000 Z (js Z (jr ?_))))))
 refine am Z ?_
 first|rfl|skip
theorem om(t:Tm):(bif bif bif decide ((t.xs.length:Int)≤10)then gL t.c else false then t.xs.all gL else false then bif decide ((t.xs.length:Int)=0)then true else !decide (t.xs.getD ((t.xs.length:Int)-1).toNat default=0)else false)=t.ok:=by
 unfold Tm.ok
 cases gL t.c<;>cases t.xs.all gL<;>simp
 by_cases h0:t.xs=[]
 simp[h0]
 have h1:0<t.xs.length:=List.length_pos_iff.2 h0
 by_cases h2:(t.xs.length:Int)≤10
 have h3: ¬(10:Int)<t.xs.length:=by omega
 simp[h0,h1,h2,h3]
 have h3:(10:Int)<t.xs.length:=by omega
 simp[h2,h3]
theorem qx:MQ h1 h2 126 [mX t] [] (Plain (eB t.ok)):=by
 refine ac ?_ Z
 refine jB 32 h1 h2 Tryz.func126 Z fun O hF=>?_
 have hl:t.xs.length≤L:=by simpa[As.fact,A.fact,M.fact,Ms.fact,D.fact,Ds.fact]using hF.1.2.1.1
 refine ab (jx Z (js Z (aX (aa Z (bA Z (js Z (jf [3,2,1,0] Z (aX (bc Z (jf [9,3,2,1,0] Z (aA 3 Z Z Z (fun hx=>ax hx Z (ax hx Z (bu O hx Z Z Z Z (pG h1 h2) (aj Z) Z Z Z Z Z Z Z (B0:=13000) Z (AN.nil)))) Z Z (ah (ar O Z Z Z Z Z) Z (js Z (jf [14,3,2,1,0] Z (aA 3 Z Z Z (fun hx=>ax hx Z (ax hx Z (bu O hx Z Z Z Z (qz h1 h2) (aj Z) Z Z Z Z Z Z Z (B0:=18000) Z (AN.nil)))) Z Z (ah (ar O Z Z Z Z Z) Z (js Z (jf [19,3,2,1,0] Z (aA 11 Z Z Z (fun hx=>ax hx Z (ax hx Z (ax hx Z (nn 7 Z Z Z Z (fun hx'=>ax hx' Z (ax hx' Z (ax hx' Z (c5 hx' (aP O Z Z (by first|omega|(simp only[az]at *;omega)) (by first|omega|(simp only[az]at *;omega))) Z (c5 hx' (ft O Z Z Z Z Z Z Z Z (by first|omega|(simp only[az]at *;omega)) (jv (by first|omega|(simp only[az]at *;omega)) (by first|omega|(simp only[az]at *;omega)))) Z (ax hx' Z (ax hx' Z (AN.nil)))))))) Z Z (c5 hx (ay O Z Z Z Z Z) Z (AN.nil)))))) Z Z (ah (ar O Z Z Z Z Z) Z (js Z (jf [2,1,0] Z (jr ?_)))))))))))))))))))))))
 refine am Z ?_
 exact congrArg eB (om t)
theorem sW:MQ h1 h2 107 [mX t] [] (Plain (eB t.term)):=by
 refine ac ?_ Z
 refine jB 11 h1 h2 Tryz.func107 Z fun O hF=>?_
 refine ab (jx Z (js Z (aX (js Z (aB Z (qx h1 h2) 5000 Z (js Z (aA 4 Z Z Z (fun hx=>ax hx Z (ax hx Z (c5 hx (aU O Z Z Z Z Z Z Z Z) Z (ax hx Z (AN.nil))))) Z Z (ah (ar O Z Z Z Z Z) Z (js Z (jr ?_))))))))))
 refine am Z ?_
 rw[Bool.cond_false_right];rfl
theorem sP:MQ h1 h2 127 [mX t] [] (Plain (eB t.zero)):=by
 refine ac ?_ Z
 refine jB 12 h1 h2 Tryz.func127 Z fun O hF=>?_
 refine ab (jx Z (js Z (aX (aJ Z (aA 4 Z Z Z (fun hx=>ax hx Z (ax hx Z (c5 hx (aU O Z Z Z Z Z Z Z Z) Z (ax hx Z (AN.nil))))) Z Z (ah (ar O Z Z Z Z Z) Z (js Z (jr ?_))))))))
 refine am Z ?_
 rw[Bool.cond_false_right];rfl
theorem sX:MQ h1 h2 106 [mX t] [] (Plain (eB !t.term)):=by
 refine ac ?_ Z
 refine jB 6 h1 h2 Tryz.func106 Z fun O hF=>?_
 refine ab (jx Z (js Z (aX (js Z (aB Z (sW h1 h2) 5000 Z (aa Z (jr ?_)))))))
 refine am Z ?_
 first|rfl|skip
def kC(ts:List Tm):Int:=if ts.all Tm.term=true then -1 else(ts.findIdx fun t=>!t.term:Nat)
theorem nL{ts:List Tm}(h: ∀j (hj:j<ts.length),Tm.term ts[j]=true):kC ts= -1:=by rw[kC,if_pos (fi h)]
theorem oK{ts:List Tm}{i:Nat}(hi:i<ts.length)(h: ∀j (hj:j<ts.length),j<i→Tm.term ts[j]=true)(hn:Tm.term ts[i]=false):kC ts=i:=by
 rw[kC,if_neg (by rw[dP i hi hn];decide)]
 exact congrArg Nat.cast ((List.findIdx_eq hi).2 ⟨by simp[hn],fun j hj=>by simp[h j (by omega) hj]⟩)
theorem nK{ts:List Tm}:decide (kC ts≥0)= !ts.all Tm.term:=by
 unfold kC
 cases h:ts.all Tm.term<;>simp
theorem sR:MQ h1 h2 125 [dY ts,.c (.fn 106 [])] [] (Plain (eI (kC ts))):=by
 refine ac ?_ Z
 refine jB 19 h1 h2 Tryz.func125 Z fun O hF=>?_
 have hl:ts.length≤L:=by simpa[As.fact,A.fact,M.fact,D.fact,Ds.fact]using hF.1.1
 refine ab (js Z (jn (af (ab (js Z (bA Z (js Z (jn (ak (aq (X:=Nat) (fun i=>⟨[(0,dY ts),(1,.c (.fn 106 [])),(7,eI ts.length),(8,eI i)],[]⟩) (fun i=>i≤ts.length∧∀j (h:j<ts.length),j<i→Tm.term ts[j]=true) (fun i=>ts.length-i) 0 (Ent.env ⟨Z,Z,Z,Z,ao⟩) ?_ (fun i hi=>?_)))))))))))
 exact⟨bZ _,fun j h hj=>absurd hj (Nat.not_lt_zero j)⟩
 refine ab (js Z (jn (af (al Z (fun z9=>?_) (fun z9=>?_)))))
 try simp only[az]at z9
 refine ae (af (ak (ab (aa Z (aX (bc Z (eZ Z Z (js Z (aB Z (sX h1 h2) 17000 Z (jn (al Z (fun z16=>?_) (fun z16=>?_))))))))))))
 try simp only[az]at z16
 refine ab (aa Z (jr ?_))
 refine am Z ?_
 rw[Int.toNat_natCast,au (by omega)]at z16
 rw[oK (by omega) hi.2 z16]
 try simp only[az]at z16
 refine ae (ag (ji Z (js Z (jn ?_))))
 refine⟨i+1,Ent.env ⟨Z,Z,Z,Z,ao⟩,⟨by omega,fun j h hj=>?_⟩,by omega⟩
 by_cases e:j=i
 subst e;rw[Int.toNat_natCast,au h]at z16;exact z16
 exact hi.2 j h (by omega)
 try simp only[az]at z9
 refine aL (ab (js Z (jr ?_)))
 refine am Z ?_
 rw[nL (fun j hj=>hi.2 j hj (by omega))]
theorem sY:MQ h1 h2 105 [dY ts,.c (.fn 106 [])] [] (Plain (eB !ts.all Tm.term)):=by
 refine ac ?_ Z
 refine jB 9 h1 h2 Tryz.func105 Z fun O hF=>?_
 refine ab (js Z (aX (aa Z (br O Z Z Z Z (sR h1 h2) (.cons (.c .d) (.cons (.c (.fn .nil)) .nil)) Z Z Z Z Z (B0:=8000) Z (aa Z (jr ?_))))))
 refine am Z ?_
 exact congrArg eB nK
theorem mf{n:Int}:MQ h1 h2 77 [dY ts,eI n] [] (Plain (eB (bh ts n))):=by
 refine ac ?_ Z
 refine jB 14 h1 h2 Tryz.func77 Z fun O hF=>?_
 refine ab (js Z (aX (js Z (bA Z (bc Z (aA 3 Z Z Z (fun hx=>ax hx Z (bu O hx Z Z Z Z (sY h1 h2) (.cons (.c .d) (.cons (.c (.fn .nil)) .nil)) Z Z Z Z Z Z Z (B0:=12000) Z (ax hx Z (AN.nil)))) Z Z (ah (ar O Z Z Z Z Z) Z (js Z (jr ?_)))))))))
 refine am Z ?_
 rw[Bool.cond_false_right,Bool.not_not,Bool.and_comm];rfl
theorem qv:MQ h1 h2 122 [eI x] [] (Plain (eB (cC 0 3 x))):=by
 refine ac ?_ Z
 refine jB 5 h1 h2 Tryz.func122 Z fun O hF=>?_
 refine ab (js Z (aX (js Z (aB Z (i7 h1 h2) 5000 Z (js Z (jr ?_))))))
 refine am Z ?_
 first|rfl|skip
theorem sS:MQ h1 h2 124 [eI x] [] (Plain (eB (cC 0 3 x))):=by
 refine ac ?_ Z
 refine jB 5 h1 h2 Tryz.func124 Z fun O hF=>?_
 refine ab (js Z (aX (js Z (aB Z (i7 h1 h2) 5000 Z (js Z (jr ?_))))))
 refine am Z ?_
 first|rfl|skip
inductive Tr where
  | node (s:Sm) (at_:Int) (kids:List Tr)
mutual
def Tr.d:Tr→D
  | .node s a ks=>.ptr [.int .i64 s.kind,.int .i64 s.var,.int .i64 s.event,.int .i64 s.sum.c,fU s.sum.xs,.int .i64 s.index.c,fU s.index.xs,oQ s.facts,.int .i64 a,.slc 1 (Trs.d ks)] 0
def Trs.d:List Tr→List (List D)
  | []=>[]
  | t::r=>[t.d]::Trs.d r
end
structure RS where
  vars:List Int
  cells:List Int
  events:List Int
  fuel:Int
  steps:Int
  out:Int
structure RSok(r:RS):Prop where
  vars:oW r.vars 4=true
  cells:oW r.cells 8=true
  lo:0≤r.steps
  hi:r.steps≤r.fuel
  fuel:r.fuel≤2000
  events:(r.events.length:Int)≤r.steps
structure RSle(r r':RS):Prop where
  ok:RSok r'
  fuel:r'.fuel=r.fuel
  steps:r.steps≤r'.steps

mutual
/-- Each element is valid, and has the statements behind it that it cI. -/
def Tr.ok:Tr→Prop
  | .node s _ ks=>qQ s=true∧(ks.length:Int)=below s.kind∧Trs.ok ks
def Trs.ok:List Tr→Prop
  | []=>True
  | t::r=>t.ok∧Trs.ok r
end
def r0(s:Sx)(f:Int):RS:=⟨s.vars,s.cells,[],f,0,0⟩
structure Rs where
  v:List Int
  c:List Int
  ev:List Int
  out:Int
  st:Int
structure Cf where
  n:Nat
  ws:List Nat
  v:List Int
  c:List Int
  ev:List Int
  st:Int

structure Nd where
  kind:Int
  fact:Int
  term:Tm
  mul:List Int
  deriving Inhabited,DecidableEq
structure Sq where
  facts:List Tm
  goal:Tm
  deriving Inhabited,DecidableEq
abbrev Nd.cells(n:Nd):List D:=[.int .i64 n.kind,.int .i64 n.fact,.int .i64 n.term.c,fU n.term.xs,fU n.mul]
abbrev qf(n:Nd):A:=.agg (n.cells.map .d)
abbrev lU(ns:List Nd):D:=.slc 5 (ns.map Nd.cells)
abbrev dI(ns:List Nd):A:=.c (.d (lU ns))
abbrev m3(ns:List Nd):B:=.row true 5 (ns.map Nd.cells)
def Nd.size(n:Nd):Nat:=n.term.size+n.mul.length
theorem c81{L:Nat}(h1:4096≤L)(h2:L≤9223372036854775807){s:Nd}{left:Int}(hl0:0≤left)(hl1:left≤1048576):MC Tryz.prog L 55 [qf s,eI left] [] (Plain (eI (bH left s.size))):=by
 refine ac ?_ Z
 have O:=fC (nt:=18) h1 h2
 refine MC.body O Tryz.func55 (by kernel_rfl) Z Z (Nat.le_of_ble_eq_true Z) (fun hF=>?_)
 refine ab (jx Z (js Z (aX (bc Z (aB Z (tH (t:=s.term) h1 h2 hl0 hl1) 9000 Z (js Z (jn (af (ab (aa Z (jn (al Z (fun z10=>?_) (fun z10=>?_)))))))))))))
 try simp only[az]at z10
 refine ab (js Z (jr ?_))
 refine am Z ?_
 unfold Nd.size
 rw[gC _ z10]
 try simp only[az]at z10
 refine ae (ab (bc Z ?_))
 have le1:=gP hl0 (s.term.size)
 refine aB Z (tJ (xs:=s.mul) h1 h2 z10 (by omega)) 15000 Z (js Z (jn (af (ab (aa Z (jn (al Z (fun z16=>?_) (fun z16=>?_))))))))
 try simp only[az]at z16
 refine ab (js Z (jr ?_))
 refine am Z ?_
 rw[di _ z10]at z16
 unfold bH at z16 ⊢
 unfold Nd.size
 split at z16
 rw[if_pos (by omega)]
 omega
 try simp only[az]at z16
 refine ae (ab (aa Z (jr ?_)))
 refine am Z ?_
 rw[di _ z10]
 rfl
theorem c30{L:Nat}(h1:4096≤L)(h2:L≤9223372036854775807){ts:List Nd}{left:Int}(hl0:0≤left)(hl1:left≤1048576):MC Tryz.prog L 22 [.c (.d (lU ts)),eI left] [] (Plain (eI (bH left (Al.szs Nd.size ts)))):=by
 refine ac ?_ Z
 have O:=fC (nt:=27) h1 h2
 refine MC.body O Tryz.func22 (by kernel_rfl) Z Z (Nat.le_of_ble_eq_true Z) (fun hF=>?_)
 have hl:ts.length≤L:=by simpa[As.fact,A.fact,M.fact,D.fact,Ds.fact]using hF.1.1
 refine ab (js Z (aX (aa Z ?_)))
 first|refine bA Z ?_|refine js Z ?_|refine aQ Z Z ?_
 first|refine ji Z ?_|refine aQ Z Z ?_
 refine js Z (jn (af (ab (aa Z (jn (al Z (fun z11=>?_) (fun z11=>?_)))))))
 try simp only[az]at z11
 refine ab (js Z (jr ?_))
 refine am Z ?_
 rw[show bH left (Al.szs Nd.size ts)= -1 from if_pos (by unfold Al.szs;omega)]
 try simp only[az]at z11
 refine ae (af (ab (js Z (jn (ak (aq (X:=Nat) (fun i=>⟨[(0,.c (.d (lU ts))),(1,eI (left-ts.length-((ts.take i).map Nd.size).sum)),(5,eI i)],[]⟩) (fun i=>i≤ts.length∧(0:Int)≤left-ts.length-((ts.take i).map Nd.size).sum) (fun i=>ts.length-i) 0 (Ent.env ⟨Z,by simp[ap],Z,ao⟩) ?_ (fun i hi=>?_)))))))
 exact⟨bZ _,by simp;omega⟩
 refine af (ab (aa Z ?_))
 first|refine bA Z ?_|refine js Z ?_|refine aQ Z Z ?_
 refine js Z (jn (al Z (fun z15=>?_) (fun z15=>?_)))
 try simp only[az]at z15
 refine ae (af (ak (ab (aa Z ?_))))
 first|refine eZ Z Z ?_|refine aQ Z Z ?_
 refine aa Z (aB Z (c81 h1 h2 hi.2 (by omega)) 24000 Z (js Z (aX (aa Z (jn (al Z (fun z25=>?_) (fun z25=>?_)))))))
 try simp only[az]at z25
 refine ab (js Z (jr ?_))
 refine am Z ?_
 have e:=cK Nd.size ts i (by omega)
 have e3:=i9 Nd.size ts (i+1)
 rw[Int.toNat_natCast]at z25
 rw[show bH left (Al.szs Nd.size ts)= -1 from if_pos (by unfold bH at z25;unfold Al.szs;split at z25<;>omega)]
 try simp only[az]at z25
 refine ae (ag (js Z ?_))
 first|refine ji Z ?_|refine aQ Z Z ?_
 refine js Z (jn ?_)
 have e:=cK Nd.size ts i (by omega)
 have e2:bH (left-ts.length-((ts.take i).map Nd.size).sum) (Nd.size (ts.getD i default))=left-ts.length-((ts.take (i+1)).map Nd.size).sum:=by
  unfold bH at z25 ⊢
  rw[Int.toNat_natCast]at z25
  split at z25<;>omega
 refine⟨i+1,Ent.env ⟨Z,?_,Z,ao⟩,⟨by omega,?_⟩,by omega⟩
 rw[←e2];rfl
 rw[←e2];rw[Int.toNat_natCast]at z25;omega
 try simp only[az]at z15
 refine aL (ab (aa Z (jr ?_)))
 refine am Z ?_
 obtain rfl:i=ts.length:=by omega
 have e4:=hi.2
 rw[List.take_length]at e4 ⊢
 rw[show bH left (Al.szs Nd.size ts)=left-ts.length-(ts.map Nd.size).sum from by unfold bH Al.szs;rw[if_neg (by omega)];omega]
theorem c88{s:Nd}:MQ h1 h2 74 [qf s] [] (Rows (.agg [.d (.int .i64 s.kind),.d (.int .i64 s.fact),.d (.int .i64 s.term.c),.rs 0 0 s.term.xs.length,.rs 1 0 s.mul.length]) [mb s.term.xs,mb s.mul]):=by
 refine bW (jB 19 h1 h2 Tryz.func74 Z fun O hF=>?_)
 refine ab (jx Z (aW ?_))
 refine jl Z (aW ?_)
 refine aX (jl Z (aW ?_))
 refine aX (bc Z (jo Z (aW ?_)))
 refine aX (bc Z (jo Z (aW ?_)))
 refine aX (aa Z (bl O (B0:=13000) Z Z Z Z (tG h1 h2) (aj Z) Z Z Z Z Z Z (aW ?_)))
 refine js Z (jo Z (aW ?_))
 refine aX (aa Z (bl O (B0:=17000) Z Z Z Z (tI h1 h2) (aj Z) Z Z Z Z Z Z (aW ?_)))
 refine js Z (jo Z (aW ?_))
 refine aX (js Z (jo Z (aW ?_)))
 refine jr ?_
 refine⟨.inl Z,_,cp,_,Z,[13000,17000],by decide,Z,Z,Z⟩
theorem c33{ts:List Nd}:MQ h1 h2 34 [.c (.d (lU ts))] [] (Rows (.c (.rs 0 0 ts.length)) [m3 ts]):=by
 refine bW (jB 23 h1 h2 Tryz.func34 Z fun O hF=>?_)
 have hl:ts.length≤L:=by simpa[As.fact,A.fact,M.fact,D.fact,Ds.fact]using hF.1.1
 refine ab (js Z (aX (js Z ?_)))
 first|refine bA Z ?_|refine js Z ?_|refine aQ Z Z ?_
 refine bC (eK O Z Z Z Z Z Z Z Z Z (by first|omega|(simp at *;omega)) (by first|omega|(simp at *;omega)) (by first|omega|(simp at *;omega)) (by first|omega|(dsimp only;omega)|(simp only[az]at *;omega)) (by first|omega|(simp at *;omega)) Z Z Z) Z (js Z (jn (af (ab (js Z (jn (ak (aq (X:=Nat×List Nd) (fun x=>⟨[(0,.c (.d (lU ts))),(3,.c (.rs 7 0 ts.length)),(4,eI x.1)],[(7,m3 x.2)]⟩) (fun x=>x.1≤ts.length∧x.2.length=ts.length∧∀j,j<x.1→x.2[j]? = ts[j]?) (fun x=>ts.length-x.1) (0,List.replicate ts.length ⟨0,0,⟨0,[]⟩,[]⟩) ((Ent.rowLe 7 Z (NLess.replicate (lY (lY (lY (.cons (.nil (sz:=1)) (.cons (.nil (sz:=1)) .nil))))))).trans (Ent.to ⟨Z,Z,Z,ao⟩ (by simp[ins,cy,m3]))) ?_ (fun x hi=>?_)))))))))
 exact⟨bZ _,List.length_replicate,fun j hj=>absurd hj (Nat.not_lt_zero j)⟩
 refine af (ab (aa Z ?_))
 first|refine bA Z ?_|refine js Z ?_|refine aQ Z Z ?_
 refine js Z (jn (al Z (fun z11=>?_) (fun z11=>?_)))
 try simp only[az]at z11
 refine ae (af (ak (ag (aJ Z ?_))))
 first|refine eZ Z Z ?_|refine aQ Z Z ?_
 refine js Z (bl O (B0:=21000) Z Z Z Z (c88 h1 h2) (aj Z) Z Z Z Z Z Z ?_)
 first|refine eZ Z Z ?_|refine aQ Z Z ?_
 refine bC (cO (ex:=Nd.cells (x.2.getD x.1 default)) (xs':=(x.2.set x.1 (ts.getD x.1 default)).map Nd.cells) O Z Z Z Z Z Z Z (.d Z (.d Z (.d Z (.rs Z (by simp) (.rs Z (by simp) .nil))))) Z Z Z Z Z Z (by simp[hi.2.1,show x.1<ts.length by omega]) (by simp[List.map_set])) Z (jn (ag (js Z ?_)))
 first|refine ji Z ?_|refine aQ Z Z ?_
 refine js Z (jn ?_)
 refine⟨(x.1+1,x.2.set x.1 (ts.getD x.1 default)),Ent.to ⟨Z,Z,Z,ao⟩ Z,⟨by omega,by simp[hi.2.1],fun j hj=>?_⟩,by omega⟩
 rw[List.getElem?_set]
 split
 rename_i e;subst e;simp[hi.2.1,show x.1<ts.length by omega]
 exact hi.2.2 j (by omega)
 try simp only[az]at z11
 refine aL (ab (aa Z (jr ?_)))
 have e:x.2=ts:=List.ext_getElem? fun j=>by
  rcases Nat.lt_or_ge j x.1 with h|h
  ·
   exact hi.2.2 j h
  ·
   rw[List.getElem?_eq_none (by omega),List.getElem?_eq_none (by omega)]
 refine⟨.inl Z,_,cp,_,Z,[7],by decide,Z,Z,?_⟩
 rw[←e];rfl
theorem c93{s t:Nd}:MQ h1 h2 93 [qf s,qf t] [] (Plain (eB (decide (s=t)))):=by
 refine ac ?_ Z
 refine jB 27 h1 h2 Tryz.func93 Z fun O hF=>?_
 refine ab (jx Z (jx Z (js Z (jn (af (ab (aJ Z (js Z (jn (al Z (fun z9=>?_) (fun z9=>?_)))))))))))
 try simp only[az]at z9
 refine ab (js Z (jr ?_))
 refine am Z ?_
 rw[decide_eq_false (fun e=>z9 (by rw[e]))]
 try simp only[az]at z9
 refine ae (af (ab (aJ Z (js Z (jn (al Z (fun z14=>?_) (fun z14=>?_)))))))
 try simp only[az]at z14
 refine ab (js Z (jr ?_))
 refine am Z ?_
 rw[decide_eq_false (fun e=>z14 (by rw[e]))]
 try simp only[az]at z14
 refine ae (af (ab (aJ Z (aB Z (tF h1 h2) 20000 Z (js Z (jn (al Z (fun z20=>?_) (fun z20=>?_))))))))
 try simp only[az]at z20
 refine ab (js Z (jr ?_))
 refine am Z ?_
 rw[decide_eq_false (fun e=>z20 (by rw[e]))]
 try simp only[az]at z20
 refine ae (af (ab (aJ Z (aB Z (tL h1 h2) 26000 Z (js Z (jn (al Z (fun z26=>?_) (fun z26=>?_))))))))
 try simp only[az]at z26
 refine ab (js Z (jr ?_))
 refine am Z ?_
 rw[decide_eq_false (fun e=>z26 (by rw[e]))]
 try simp only[az]at z26
 refine ae (ab (js Z (jr ?_)))
 refine am Z ?_
 have e:s=t:=by cases s;cases t;simp_all
 rw[decide_eq_true e]
theorem c37{xs ys:List Nd}:MQ h1 h2 52 [.c (.d (lU xs)),.c (.d (lU ys))] [] (Plain (eB (decide (xs=ys)))):=by
 refine ac ?_ Z
 refine jB 27 h1 h2 Tryz.func52 Z fun O hF=>?_
 have hl:xs.length≤L:=by simpa[As.fact,A.fact,M.fact,D.fact,Ds.fact]using hF.1.1
 have hl2:ys.length≤L:=by simpa[As.fact,A.fact,M.fact,D.fact,Ds.fact]using hF.2.1.1
 refine ab (js Z (jn (af (ab (js Z (bA Z (js Z (bA Z (js Z (jn (al Z (fun z10=>?_) (fun z10=>?_))))))))))))
 try simp only[az]at z10
 refine ab (js Z (jr ?_))
 refine am Z ?_
 rw[decide_eq_false (fun e=>by subst e;simp at z10)]
 try simp only[az]at z10
 refine ae (af (ab (js Z (jn (ak (aq (X:=Nat) (fun i=>⟨[(0,.c (.d (lU xs))),(1,.c (.d (lU ys))),(5,eI i)],[]⟩) (fun i=>i≤xs.length∧∀j,j<i→xs[j]? = ys[j]?) (fun i=>xs.length-i) 0 (Ent.env ⟨Z,Z,Z,ao⟩) ?_ (fun i hi=>?_)))))))
 exact⟨bZ _,fun j hj=>absurd hj (Nat.not_lt_zero j)⟩
 refine af (ab (aa Z (bA Z (js Z (jn (al Z (fun z14=>?_) (fun z14=>?_)))))))
 try simp only[az]at z14
 refine ae (af (ak (af (kA [_,_,_,_,_,_,_,_,_,_] [bp,bp,aT [0,1],aT [0,1,2],bp,bp,aT [4,5],aT [4,5,6],pe (rg 0 8) 0,pn (rg 0 9) 1 1] [8] [_,_] (kc Z (kc Z (ai (vD Z) (kc Z (kc Z (kc Z (ai (vD Z) (kc Z (ai (aD O (B0:=26000) Z Z Z Z (c93 h1 h2) (aj Z) Z Z Z Z Z) (kc Z trivial)))))))))) ?_))))
 refine al Z (fun z26=>?_) (fun z26=>?_)
 try simp only[az]at z26
 refine ab (js Z (jr ?_))
 refine am Z ?_
 rw[decide_eq_false (fun e=>by subst e;simp at z26)]
 try simp only[az]at z26
 refine ae (ag (js Z (ji Z (js Z (jn ?_)))))
 refine⟨i+1,Ent.env ⟨Z,Z,Z,ao⟩,⟨by omega,fun j hj=>?_⟩,by omega⟩
 rcases Nat.lt_or_ge j i with h|h
 exact hi.2 j h
 obtain rfl:j=i:=by omega
 rw[Int.toNat_natCast,au (by omega),au (by omega)]at z26
 rw[List.getElem?_eq_getElem (by omega),List.getElem?_eq_getElem (by omega),z26]
 try simp only[az]at z14
 refine aL (ab (js Z (jr ?_)))
 refine am Z ?_
 have e:xs=ys:=List.ext_getElem? fun j=>by
  rcases Nat.lt_or_ge j i with h|h
  ·
   exact hi.2 j h
  ·
   rw[List.getElem?_eq_none (by omega),List.getElem?_eq_none (by omega)]
 rw[decide_eq_true e]
def qh(xs:List Int):List Int:=(xs.reverse.dropWhile (· == 0)).reverse
def tu(c:Int)(xs:List Int):Tm×Bool:=if(Tm.mk c (qh xs)).ok=true then(⟨c,qh xs⟩,true)else(⟨0,[]⟩,false)
def sE(a:Tm)(m:Int)(b:Tm)(n:Int):List Int:=(List.range 10).map fun i=>m*a.xs.getD i 0+n*b.xs.getD i 0
def sC(a:Tm)(m:Int)(b:Tm)(n:Int):Tm×Bool:=tu (m*a.c+n*b.c) (sE a m b n)
def qn(t:Tm):Tm×Bool:=sC t (-1) ⟨1,[]⟩ (-1)
structure Small(t:Tm):Prop where
  c:gL t.c=true
  xs:t.xs.all gL=true
def co(x:Int):Bool:=decide (0≤x)&&decide (x≤1000000)
def md(xs:List Int):Bool:=xs.all co&&decide ((xs.length:Int)≤20)
def dG(n:Nd):Bool:=if n.kind=1 then(decide (n.fact=0)&&n.term.zero)&&md n.mul else if n.kind=2 then(decide (n.fact=0)&&n.term.ok)&&decide ((n.mul.length:Int)=0)else if n.kind=3 then(cC 0 19 n.fact&&n.term.zero)&&decide ((n.mul.length:Int)=0)else false
def dl(k:Int):Int:=if k=1 then -1 else if k=2 then 1 else 0
def endK:List Nd→Int→Option Nat
  | [],need=>if need≤0 then some 0 else none
  | s::r,need=>if need≤0 then some 0 else(endK r (need+dl s.kind)).map (· + 1)
def endP(p:List Nd)(k:Nat):Int:=match endK (p.drop k) 1 with
  | some n=>k+n
  | none=> -1
def gA(p:List Nd):Bool:=(decide ((1:Int)≤p.length)&&decide ((p.length:Int)≤60))&&(p.all dG&&decide (endP p 0=p.length))
def qa(p:List Nd)(k:Nat):Nat→Int×Bool
  | 0=>(-1,false)
  | i+1=>if(p.getD i default).kind=1∨endP p i≤k then qa p k i else(i,decide (i+1=k))
theorem kd{l:List Nd}{n:Int}(h:n≤0):endK l n=some 0:=by cases l<;>simp[endK,h]
theorem ij{n:Int}(h:0<n):endK [] n=none:=by simp[endK];omega
theorem c7{l:List Nd}{n:Int}(h:0<n){k:Nat}(hk:k<l.length):endK (l.drop k) n=(endK (l.drop (k+1)) (n+dl (l.getD k default).kind)).map (· + 1):=by
 rw[List.drop_eq_getElem_cons hk,au hk]
 show(if n≤0 then some 0 else _)=_
 rw[if_neg (by omega)]
theorem sT:MQ h1 h2 98 [cr xs] [] (Plain (eB (md xs))):=by
 refine ac ?_ Z
 refine jB 19 h1 h2 Tryz.func98 Z fun O hF=>?_
 have hl:xs.length≤L:=by simpa[As.fact,A.fact,M.fact,D.fact,Ds.fact]using hF.1.1
 refine ab (js Z (jn (af (ab (js Z (jn (ak (aq (X:=Nat) (fun i=>⟨[(0,cr xs),(3,eI i)],[]⟩) (fun i=>i≤xs.length∧∀j (h:j<xs.length),j<i→co xs[j]=true) (fun i=>xs.length-i) 0 (Ent.env ⟨Z,Z,ao⟩) ?_ (fun i hi=>?_)))))))))
 exact⟨bZ _,fun j h hj=>absurd hj (Nat.not_lt_zero j)⟩
 refine af (ab (aa Z ?_))
 first|refine bA Z ?_|refine js Z ?_|refine aQ Z Z ?_
 refine js Z (jn (al Z (fun z7=>?_) (fun z7=>?_)))
 try simp only[az]at z7
 refine ae (af (ak (ab (aa Z ?_))))
 first|refine eZ Z Z ?_|refine aQ Z Z ?_
 refine js Z (aB Z (kB h1 h2) 15000 Z (js Z (jn (al Z (fun z15=>?_) (fun z15=>?_)))))
 try simp only[az]at z15
 refine ab (js Z (jr ?_))
 refine am Z ?_
 rw[Int.toNat_natCast,au (by omega)]at z15
 rw[md,dP i (by omega) z15,Bool.false_and]
 try simp only[az]at z15
 refine ae (ag (js Z ?_))
 first|refine ji Z ?_|refine aQ Z Z ?_
 refine js Z (jn ?_)
 refine⟨i+1,Ent.env ⟨Z,Z,ao⟩,⟨by omega,fun j h hj=>?_⟩,by omega⟩
 by_cases e:j=i
 subst e;rw[Int.toNat_natCast,au h]at z15;exact z15
 exact hi.2 j h (by omega)
 try simp only[az]at z7
 refine aL (ab (js Z ?_))
 first|refine bA Z ?_|refine js Z ?_|refine aQ Z Z ?_
 refine aa Z (jr ?_)
 refine am Z ?_
 rw[md,fi (fun j hj=>hi.2 j hj (by omega)),Bool.true_and]
theorem s8{n:Nd}:MQ h1 h2 60 [ptr n.cells] [] (Plain (eB (dG n))):=by
 refine ac ?_ Z
 refine jB 69 h1 h2 Tryz.func60 Z fun O hF=>?_
 refine ab (js Z (jn (af (ab (aJ Z (jf [6,2,0] Z (jn (ak (ab (aa Z (jn (al Z (fun z7=>?_) (fun z7=>?_)))))))))))))
 try simp only[az]at z7
 refine ab (aJ Z (aa Z (aV [(14,_),(8,_),(6,_),(2,_),(0,_)] [] ⟨Z,Z,Z,Z,Z,ao⟩ Z (aA 4 Z Z Z (fun hx=>ax hx Z (ax hx Z (ax hx Z (bu O hx Z Z Z Z (qy (t:=n.term) h1 h2) (.cons (.c (.sub Z)) .nil) Z Z Z Z Z Z Z (B0:=19000) Z (AN.nil))))) Z Z ?_))))
 first|refine ah (ar O Z Z Z Z Z) Z ?_|refine ah (ay O Z Z Z Z Z) Z ?_|refine ah (Val.pickB O Z Z Z Z Z) Z ?_
 refine js Z (aV [(20,_),(8,_),(6,_),(2,_),(0,_)] [] ⟨Z,Z,Z,Z,Z,ao⟩ Z (aA 5 Z Z Z (fun hx=>ax hx Z (ax hx Z (ax hx Z (ax hx Z (bu O hx Z Z Z Z (sT h1 h2) (aj Z) Z Z Z Z Z Z Z (B0:=26000) Z (AN.nil)))))) Z Z ?_))
 first|refine ah (ar O Z Z Z Z Z) Z ?_|refine ah (ay O Z Z Z Z Z) Z ?_|refine ah (Val.pickB O Z Z Z Z Z) Z ?_
 refine js Z (jf [2,8,6,0] Z (jr ?_))
 refine am Z ?_
 rw[Bool.cond_false_right,Bool.cond_false_right,dG,if_pos z7]
 try simp only[az]at z7
 refine ab (aa Z (jf [27,8,6,2,0] Z (jn (al Z (fun z27=>?_) (fun z27=>?_)))))
 try simp only[az]at z27
 refine ab (aJ Z (aa Z (aV [(34,_),(8,_),(6,_),(2,_),(0,_)] [] ⟨Z,Z,Z,Z,Z,ao⟩ Z (aA 4 Z Z Z (fun hx=>ax hx Z (ax hx Z (ax hx Z (bu O hx Z Z Z Z (qA (t:=n.term) h1 h2) (.cons (.c (.sub Z)) .nil) Z Z Z Z Z Z Z (B0:=39000) Z (AN.nil))))) Z Z ?_))))
 first|refine ah (ar O Z Z Z Z Z) Z ?_|refine ah (ay O Z Z Z Z Z) Z ?_|refine ah (Val.pickB O Z Z Z Z Z) Z ?_
 refine js Z (aV [(40,_),(8,_),(6,_),(2,_),(0,_)] [] ⟨Z,Z,Z,Z,Z,ao⟩ Z (aA 6 Z Z Z (fun hx=>ax hx Z (ax hx Z (ax hx Z (ax hx Z (c5 hx (aU O Z Z Z Z Z Z Z Z) Z (ax hx Z (AN.nil))))))) Z Z ?_))
 first|refine ah (ar O Z Z Z Z Z) Z ?_|refine ah (ay O Z Z Z Z Z) Z ?_|refine ah (Val.pickB O Z Z Z Z Z) Z ?_
 refine js Z (jf [2,8,6,0] Z (jr ?_))
 refine am Z ?_
 rw[Bool.cond_false_right,Bool.cond_false_right,dG,if_neg z7,if_pos z27]
 try simp only[az]at z27
 refine ab (aa Z (jf [48,8,6,2,0] Z (jn (al Z (fun z48=>?_) (fun z48=>?_)))))
 try simp only[az]at z48
 refine ab (aJ Z (aV [(53,_),(8,_),(6,_),(2,_),(0,_)] [] ⟨Z,Z,Z,Z,Z,ao⟩ Z (aB Z (kB h1 h2) 55000 Z (js Z (aV [(55,_),(8,_),(6,_),(2,_),(0,_)] [] ⟨Z,Z,Z,Z,Z,ao⟩ Z (aA 4 Z Z Z (fun hx=>ax hx Z (ax hx Z (ax hx Z (bu O hx Z Z Z Z (qy (t:=n.term) h1 h2) (.cons (.c (.sub Z)) .nil) Z Z Z Z Z Z Z (B0:=60000) Z (AN.nil))))) Z Z ?_))))))
 first|refine ah (ar O Z Z Z Z Z) Z ?_|refine ah (ay O Z Z Z Z Z) Z ?_|refine ah (Val.pickB O Z Z Z Z Z) Z ?_
 refine js Z (aV [(61,_),(8,_),(6,_),(2,_),(0,_)] [] ⟨Z,Z,Z,Z,Z,ao⟩ Z (aA 6 Z Z Z (fun hx=>ax hx Z (ax hx Z (ax hx Z (ax hx Z (c5 hx (aU O Z Z Z Z Z Z Z Z) Z (ax hx Z (AN.nil))))))) Z Z ?_))
 first|refine ah (ar O Z Z Z Z Z) Z ?_|refine ah (ay O Z Z Z Z Z) Z ?_|refine ah (Val.pickB O Z Z Z Z Z) Z ?_
 refine js Z (jf [2,8,6,0] Z (jr ?_))
 refine am Z ?_
 rw[Bool.cond_false_right,Bool.cond_false_right,dG,if_neg z7,if_neg z27,if_pos z48];rfl
 try simp only[az]at z48
 refine ae (ab (js Z (jr ?_)))
 refine am Z ?_
 rw[dG,if_neg z7,if_neg z27,if_neg z48]
variable{p:List Nd}
theorem s7{k:Nat}(hk:k≤p.length):MQ h1 h2 61 [dI p,eI k] [] (Plain (eI (endP p k))):=by
 refine ac ?_ Z
 refine jB 28 h1 h2 Tryz.func61 Z fun O hF=>?_
 have hl:p.length≤L:=by simpa[As.fact,A.fact,M.fact,D.fact,Ds.fact]using hF.1.1
 refine ab (js Z (aX (js Z (jn (af (ak (aq (X:=Int×Nat) (fun x=>⟨[(0,dI p),(1,eI (k+x.2)),(5,eI x.1)],[]⟩) (fun x=>k+x.2≤p.length∧(endK (p.drop k) 1=(endK (p.drop (k+x.2)) x.1).map (· + x.2))∧0≤x.1∧x.1≤x.2+1) (fun x=>p.length-(k+x.2)) (1,0) (Ent.env ⟨Z,by simp[bM,ap],Z,ao⟩) ?_ (fun x hi=>?_))))))))
 exact⟨hk,by simp,by decide,by decide⟩
 refine af (ab (aa Z (jn (al Z (fun z7=>?_) (fun z7=>?_)))))
 try simp only[az]at z7
 refine ae (ak (af (ab (aa Z ?_))))
 first|refine bA Z ?_|refine js Z ?_|refine aQ Z Z ?_
 refine js Z (jn (al Z (fun z11=>?_) (fun z11=>?_)))
 try simp only[az]at z11
 refine ab (js Z (jr ?_))
 refine am Z ?_
 have e:k+x.2=p.length:=by omega
 rw[endP,hi.2.1,List.drop_of_length_le (by omega),ij z7];rfl
 try simp only[az]at z11
 refine ae (af (ab (aa Z ?_)))
 first|refine eZ Z Z ?_|refine aQ Z Z ?_
 refine aa Z (jn (ak (ab (aa Z (jn (al Z (fun z17=>?_) (fun z17=>?_)))))))
 try simp only[az]at z17
 refine ag (js Z ?_)
 first|refine ji Z ?_|refine aQ Z Z ?_
 refine js Z (jn (ag (js Z ?_)))
 first|refine ji Z ?_|refine aQ Z Z ?_
 refine js Z (jn ?_)
 have e1:((k:Int)+x.2).toNat=k+x.2:=by omega
 rw[e1]at z17
 have hk2:k+x.2<p.length:=by omega
 have e:=c7 z7 hk2
 rw[e,Option.map_map]at hi
 rw[show dl (p.getD (k+x.2) default).kind=(-1) by unfold dl;rw[if_pos z17]]at hi
 refine⟨(x.1+(-1),x.2+1),Ent.env ⟨Z,?_,?_,ao⟩,⟨by show k+(x.2+1)≤_;omega,?_,?_,?_⟩,by show p.length-(k+(x.2+1))<_;omega⟩
 exact congrArg (fun z=>some (eI z)) (by show(k:Int)+x.2+1=k+(x.2+1:Nat);omega)
 exact congrArg (fun z=>some (eI z)) (by first|rfl|(show(x.1:Int)-1=x.1+ -1;omega)|(show(x.1:Int)=x.1+0;omega))
 rw[hi.2.1];exact congrArg (fun f=>Option.map f _) (funext fun n=>by show n+1+x.2=n+(x.2+1);omega)
 show 0≤x.1+(-1);omega
 show x.1+(-1)≤(x.2+1:Nat)+1;omega
 try simp only[az]at z17
 refine ab (aa Z (jn (al Z (fun z21=>?_) (fun z21=>?_))))
 try simp only[az]at z21
 refine ag (js Z ?_)
 first|refine ji Z ?_|refine aQ Z Z ?_
 refine js Z (jn (ag (js Z ?_)))
 first|refine ji Z ?_|refine aQ Z Z ?_
 refine js Z (jn ?_)
 have e1:((k:Int)+x.2).toNat=k+x.2:=by omega
 rw[e1]at z17 z21
 have hk2:k+x.2<p.length:=by omega
 have e:=c7 z7 hk2
 rw[e,Option.map_map]at hi
 rw[show dl (p.getD (k+x.2) default).kind=1 by unfold dl;rw[if_neg z17,if_pos z21]]at hi
 refine⟨(x.1+1,x.2+1),Ent.env ⟨Z,?_,?_,ao⟩,⟨by show k+(x.2+1)≤_;omega,?_,?_,?_⟩,by show p.length-(k+(x.2+1))<_;omega⟩
 exact congrArg (fun z=>some (eI z)) (by show(k:Int)+x.2+1=k+(x.2+1:Nat);omega)
 exact congrArg (fun z=>some (eI z)) (by first|rfl|(show(x.1:Int)-1=x.1+ -1;omega)|(show(x.1:Int)=x.1+0;omega))
 rw[hi.2.1];exact congrArg (fun f=>Option.map f _) (funext fun n=>by show n+1+x.2=n+(x.2+1);omega)
 show 0≤x.1+1;omega
 show x.1+1≤(x.2+1:Nat)+1;omega
 try simp only[az]at z21
 refine ae (ag (js Z ?_))
 first|refine ji Z ?_|refine aQ Z Z ?_
 refine js Z (jn ?_)
 have e1:((k:Int)+x.2).toNat=k+x.2:=by omega
 rw[e1]at z17 z21
 have hk2:k+x.2<p.length:=by omega
 have e:=c7 z7 hk2
 rw[e,Option.map_map]at hi
 rw[show dl (p.getD (k+x.2) default).kind=0 by unfold dl;rw[if_neg z17,if_neg z21]]at hi
 refine⟨(x.1+0,x.2+1),Ent.env ⟨Z,?_,?_,ao⟩,⟨by show k+(x.2+1)≤_;omega,?_,?_,?_⟩,by show p.length-(k+(x.2+1))<_;omega⟩
 exact congrArg (fun z=>some (eI z)) (by show(k:Int)+x.2+1=k+(x.2+1:Nat);omega)
 exact congrArg (fun z=>some (eI z)) (by first|rfl|(show(x.1:Int)-1=x.1+ -1;omega)|(show(x.1:Int)=x.1+0;omega))
 rw[hi.2.1];exact congrArg (fun f=>Option.map f _) (funext fun n=>by show n+1+x.2=n+(x.2+1);omega)
 show 0≤x.1+0;omega
 show x.1+0≤(x.2+1:Nat)+1;omega
 try simp only[az]at z7
 refine aL (ab (aa Z (jr ?_)))
 refine am Z ?_
 rw[endP,hi.2.1,kd z7];exact congrArg eI (by show(k:Int)+x.2=k+(0+x.2:Nat);omega)
theorem c83:MQ h1 h2 25 [dI p] [] (Plain (eB (gA p))):=by
 refine ac ?_ Z
 refine jB 24 h1 h2 Tryz.func25 Z fun O hF=>?_
 have hl:p.length≤L:=by simpa[As.fact,A.fact,M.fact,D.fact,Ds.fact]using hF.1.1
 refine ab (js Z (jn (af (ab (js Z ?_)))))
 first|refine bA Z ?_|refine js Z ?_|refine aQ Z Z ?_
 refine aB Z (kB h1 h2) 7000 Z (js Z (jn (al Z (fun z7=>?_) (fun z7=>?_))))
 try simp only[az]at z7
 refine ab (js Z (jr ?_))
 refine am Z ?_
 rw[gA,show(decide ((1:Int)≤p.length)&&decide ((p.length:Int)≤60))=false from z7,Bool.false_and]
 try simp only[az]at z7
 refine ae (af (ab (js Z (jn (ak (aq (X:=Nat) (fun i=>⟨[(0,dI p),(3,eI i)],[]⟩) (fun i=>i≤p.length∧∀j (h:j<p.length),j<i→dG p[j]=true) (fun i=>p.length-i) 0 (Ent.env ⟨Z,Z,ao⟩) ?_ (fun i hi=>?_)))))))
 exact⟨bZ _,fun j h hj=>absurd hj (Nat.not_lt_zero j)⟩
 refine af (ab (aa Z ?_))
 first|refine bA Z ?_|refine js Z ?_|refine aQ Z Z ?_
 refine js Z (jn (al Z (fun z11=>?_) (fun z11=>?_)))
 try simp only[az]at z11
 refine ae (af (ak (ab (aa Z ?_))))
 first|refine eZ Z Z ?_|refine aQ Z Z ?_
 refine aB Z (s8 h1 h2) 18000 Z (js Z (jn (al Z (fun z18=>?_) (fun z18=>?_))))
 try simp only[az]at z18
 refine ab (js Z (jr ?_))
 refine am Z ?_
 rw[Int.toNat_natCast,au (by omega)]at z18
 rw[gA,dP i (by omega) z18,Bool.false_and,Bool.and_false]
 try simp only[az]at z18
 refine ae (ag (js Z ?_))
 first|refine ji Z ?_|refine aQ Z Z ?_
 refine js Z (jn ?_)
 refine⟨i+1,Ent.env ⟨Z,Z,ao⟩,⟨by omega,fun j h hj=>?_⟩,by omega⟩
 by_cases e:j=i
 subst e;rw[Int.toNat_natCast,au h]at z18;exact z18
 exact hi.2 j h (by omega)
 try simp only[az]at z11
 refine aL (ab (js Z (aB Z (s7 (p:=p) (k:=0) h1 h2 (bZ _)) 21000 Z (js Z ?_))))
 first|refine bA Z ?_|refine js Z ?_|refine aQ Z Z ?_
 refine aa Z (jr ?_)
 refine am Z ?_
 rw[gA,show(decide ((1:Int)≤p.length)&&decide ((p.length:Int)≤60))=true from z7,fi (fun j hj=>hi.2 j hj (by omega)),Bool.true_and,Bool.true_and]
def mU(xs:List Int):Nat:=xs.foldl (fun g x=>Nat.gcd g x.natAbs) 0
def mx(a b:Int):Int:=if a>b then a else b
def m9(t:Tm):Tm×Bool:=if mU t.xs<2 then(⟨0,[]⟩,false)else
  tu (if t.c.tmod (mU t.xs)<0 then t.c.tdiv (mU t.xs)-1 else t.c.tdiv (mU t.xs)) (t.xs.map fun x=>x.tdiv (mU t.xs))
def pY(n:Nd)(ctx:List Tm)(first:Bool):List Tm:=if n.kind=3 then ctx++[(m9 (ctx.getD n.fact.toNat default)).1]else if first=true then ctx++[n.term]else ctx++[(qn n.term).1]
def og(f:Tm→Int):List Tm→List Int→Int
  | t::ts,m::ms=>m*f t+og f ts ms
  | _,_=>0
abbrev qt(k:Nat):Tm→Int:=fun t=>t.xs.getD k 0
def qW(ts:List Tm)(ms:List Int):List Int:=(List.range 10).map fun k=>og (qt k) ts ms
def oL(ctx:List Tm)(ms:List Int):Bool:=decide (ctx.length=ms.length)&&((qW ctx ms).all (fun x=>decide (x=0))&&decide (og Tm.c ctx ms<0))
def nc(n:Nd)(ctx:List Tm):Bool:=if n.kind=1 then oL ctx n.mul else if 20≤ctx.length then false else if n.kind=2 then(qn n.term).2 else if n.fact≥ctx.length then false else(m9 (ctx.getD n.fact.toNat default)).2

def qm(ts:List Tm)(ms:List Int)(i j:Nat):List Int:=(List.range 10).map fun k=>og (qt k) (ts.take i) (ms.take i)+(if k<j then ms.getD i default*(ts.getD i default).xs.getD k 0 else 0)
structure CtxOk(ctx:List Tm):Prop where
  ok: ∀t∈ctx,t.ok=true
  len:ctx.length≤1000
end Go.Al
