/- Contracts of the functions that copy, compare, mark and measure; the reference's functions for q8. -/
import Derived.Test.YtlofbdghppgnbaaDoorProg
import Derived.Test.YtlofbdghppgnbaaDoorC
set_option linter.unusedVariables false
set_option linter.unusedSimpArgs false
set_option maxRecDepth 10000
open Go.Proofs
/- The table of the types that the functions of this seat use, and its proof. -/
namespace Go.Al
variable{L:Nat}(h1:4096≤L)(h2:L≤1073741824)
def tt:List (Nat×TI):=[
  (2,⟨4,false,0,1,8,[.int .i64 0],[]⟩),
  (3,⟨4,false,0,1,8,[.int .i64 0],[]⟩),
  (4,⟨5,false,0,1,1,[.bool false],[]⟩),
  (5,⟨4,false,0,1,1,[.int .u8 0],[]⟩),
  (9,⟨2,false,0,1,16,[.str ByteArray.empty],[]⟩),
  (21,⟨4,false,0,1,4,[.int .i32 0],[]⟩),
  (22,⟨1,false,5,1,24,[.nils],[]⟩),
  (24,⟨1,false,2,1,24,[.nils],[]⟩),
  (26,⟨3,true,0,2,32,[.int .i64 0,.nils],[(0,1),(1,1)]⟩),
  (28,⟨1,false,26,1,24,[.nils],[]⟩),
  (30,⟨3,true,0,3,56,[.nils,.int .i64 0,.nils],[(0,1),(1,2)]⟩),
  (41,⟨1,false,30,1,24,[.nils],[]⟩),
  (47,⟨1,false,80,1,24,[.nils],[]⟩),
  (66,⟨1,false,9,1,24,[.nils],[]⟩),
  (80,⟨3,true,0,5,72,[.int .i64 0,.int .i64 0,.int .i64 0,.nils,.nils],[(0,1),(1,1),(2,2),(4,1)]⟩),
  (87,⟨4,false,0,1,8,[.int .u64 0],[]⟩),
  (89,⟨3,true,0,3,40,[.nils,.int .i64 0,.int .u64 0],[(0,1),(1,1),(2,1)]⟩),
  (102,⟨1,false,3,1,24,[.nils],[]⟩),
  (104,⟨3,true,0,4,56,[.nils,.nils,.bool false,.bool false],[(0,1),(1,1),(2,1),(3,1)]⟩),
  (106,⟨3,true,0,8,112,[.int .i64 0,.int .i64 0,.int .i64 0,.int .i64 0,.nils,.int .i64 0,.nils,.nils],[(0,1),(1,1),(2,1),(3,2),(5,2),(7,1)]⟩),
  (110,⟨6,false,0,1,8,[.nilp],[]⟩),
  (111,⟨1,false,127,1,24,[.nils],[]⟩),
  (113,⟨3,true,0,11,168,[.int .i64 0,.int .i64 0,.int .i64 0,.int .i64 0,.nils,.int .i64 0,.nils,.nils,.nils,.nils,.bool false],[(0,8),(8,1),(9,1),(10,1)]⟩),
  (114,⟨1,false,110,1,24,[.nils],[]⟩),
  (116,⟨3,true,0,3,72,[.nils,.nils,.nils],[(0,1),(1,1),(2,1)]⟩),
  (122,⟨4,false,0,1,8,[.int .u64 0],[]⟩),
  (127,⟨6,false,0,1,8,[.nilp],[]⟩),
  (129,⟨3,true,0,10,144,[.int .i64 0,.int .i64 0,.int .i64 0,.int .i64 0,.nils,.int .i64 0,.nils,.nils,.int .i64 0,.nils],[(0,8),(8,1),(9,1)]⟩),
  (152,⟨4,false,0,1,4,[.int .u32 0],[]⟩),
  (167,⟨3,true,0,2,2,[.int .u8 0,.int .u8 0],[(0,1),(1,1)]⟩),
  (175,⟨6,false,0,1,8,[.nilp],[]⟩),
  (178,⟨3,true,0,1,16,[.str ByteArray.empty],[(0,1)]⟩)
]
theorem tt2:TIok Tryd.prog 2 ⟨4,false,0,1,8,[.int .i64 0],[]⟩:=(by constructor<;>kernel_rfl)
theorem tt3:TIok Tryd.prog 3 ⟨4,false,0,1,8,[.int .i64 0],[]⟩:=(by constructor<;>kernel_rfl)
theorem tt4:TIok Tryd.prog 4 ⟨5,false,0,1,1,[.bool false],[]⟩:=(by constructor<;>kernel_rfl)
theorem tt5:TIok Tryd.prog 5 ⟨4,false,0,1,1,[.int .u8 0],[]⟩:=(by constructor<;>kernel_rfl)
theorem tt9:TIok Tryd.prog 9 ⟨2,false,0,1,16,[.str ByteArray.empty],[]⟩:=(by constructor<;>kernel_rfl)
theorem r3:TIok Tryd.prog 21 ⟨4,false,0,1,4,[.int .i32 0],[]⟩:=(by constructor<;>kernel_rfl)
theorem rZ:TIok Tryd.prog 22 ⟨1,false,5,1,24,[.nils],[]⟩:=(by constructor<;>kernel_rfl)
theorem rY:TIok Tryd.prog 24 ⟨1,false,2,1,24,[.nils],[]⟩:=(by constructor<;>kernel_rfl)
theorem rX:TIok Tryd.prog 26 ⟨3,true,0,2,32,[.int .i64 0,.nils],[(0,1),(1,1)]⟩:=(by constructor<;>kernel_rfl)
theorem rW:TIok Tryd.prog 28 ⟨1,false,26,1,24,[.nils],[]⟩:=(by constructor<;>kernel_rfl)
theorem rV:TIok Tryd.prog 30 ⟨3,true,0,3,56,[.nils,.int .i64 0,.nils],[(0,1),(1,2)]⟩:=(by constructor<;>kernel_rfl)
theorem rU:TIok Tryd.prog 41 ⟨1,false,30,1,24,[.nils],[]⟩:=(by constructor<;>kernel_rfl)
theorem rT:TIok Tryd.prog 47 ⟨1,false,80,1,24,[.nils],[]⟩:=(by constructor<;>kernel_rfl)
theorem rS:TIok Tryd.prog 66 ⟨1,false,9,1,24,[.nils],[]⟩:=(by constructor<;>kernel_rfl)
theorem rR:TIok Tryd.prog 80 ⟨3,true,0,5,72,[.int .i64 0,.int .i64 0,.int .i64 0,.nils,.nils],[(0,1),(1,1),(2,2),(4,1)]⟩:=(by constructor<;>kernel_rfl)
theorem rQ:TIok Tryd.prog 87 ⟨4,false,0,1,8,[.int .u64 0],[]⟩:=(by constructor<;>kernel_rfl)
theorem rO:TIok Tryd.prog 89 ⟨3,true,0,3,40,[.nils,.int .i64 0,.int .u64 0],[(0,1),(1,1),(2,1)]⟩:=(by constructor<;>kernel_rfl)
theorem q7:TIok Tryd.prog 102 ⟨1,false,3,1,24,[.nils],[]⟩:=(by constructor<;>kernel_rfl)
theorem q6:TIok Tryd.prog 104 ⟨3,true,0,4,56,[.nils,.nils,.bool false,.bool false],[(0,1),(1,1),(2,1),(3,1)]⟩:=(by constructor<;>kernel_rfl)
theorem q5:TIok Tryd.prog 106 ⟨3,true,0,8,112,[.int .i64 0,.int .i64 0,.int .i64 0,.int .i64 0,.nils,.int .i64 0,.nils,.nils],[(0,1),(1,1),(2,1),(3,2),(5,2),(7,1)]⟩:=(by constructor<;>kernel_rfl)
theorem qZ:TIok Tryd.prog 110 ⟨6,false,0,1,8,[.nilp],[]⟩:=(by constructor<;>kernel_rfl)
theorem qY:TIok Tryd.prog 111 ⟨1,false,127,1,24,[.nils],[]⟩:=(by constructor<;>kernel_rfl)
theorem qX:TIok Tryd.prog 113 ⟨3,true,0,11,168,[.int .i64 0,.int .i64 0,.int .i64 0,.int .i64 0,.nils,.int .i64 0,.nils,.nils,.nils,.nils,.bool false],[(0,8),(8,1),(9,1),(10,1)]⟩:=(by constructor<;>kernel_rfl)
theorem qW:TIok Tryd.prog 114 ⟨1,false,110,1,24,[.nils],[]⟩:=(by constructor<;>kernel_rfl)
theorem qV:TIok Tryd.prog 116 ⟨3,true,0,3,72,[.nils,.nils,.nils],[(0,1),(1,1),(2,1)]⟩:=(by constructor<;>kernel_rfl)
theorem qU:TIok Tryd.prog 122 ⟨4,false,0,1,8,[.int .u64 0],[]⟩:=(by constructor<;>kernel_rfl)
theorem qT:TIok Tryd.prog 127 ⟨6,false,0,1,8,[.nilp],[]⟩:=(by constructor<;>kernel_rfl)
theorem qS:TIok Tryd.prog 129 ⟨3,true,0,10,144,[.int .i64 0,.int .i64 0,.int .i64 0,.int .i64 0,.nils,.int .i64 0,.nils,.nils,.int .i64 0,.nils],[(0,8),(8,1),(9,1)]⟩:=(by constructor<;>kernel_rfl)
theorem qR:TIok Tryd.prog 152 ⟨4,false,0,1,4,[.int .u32 0],[]⟩:=(by constructor<;>kernel_rfl)
theorem qQ:TIok Tryd.prog 167 ⟨3,true,0,2,2,[.int .u8 0,.int .u8 0],[(0,1),(1,1)]⟩:=(by constructor<;>kernel_rfl)
theorem qP:TIok Tryd.prog 175 ⟨6,false,0,1,8,[.nilp],[]⟩:=(by constructor<;>kernel_rfl)
theorem qO:TIok Tryd.prog 178 ⟨3,true,0,1,16,[.str ByteArray.empty],[(0,1)]⟩:=(by constructor<;>kernel_rfl)
theorem qN:TTok Tryd.prog tt:=⟨tt2,tt3,tt4,tt5,tt9,r3,rZ,rY,rX,rW,rV,rU,rT,rS,rR,rQ,rO,q7,q6,q5,qZ,qY,qX,qW,qV,qU,qT,qS,qR,qQ,qP,qO,aq⟩
theorem nv:TTplain tt=true:=by kernel_rfl
theorem pB:Tryd.prog.follows .mixedOrders=true:=by kernel_rfl
theorem ac{σ:Sg}{Q:Exit→St→Prop}{s:St}{id:Nat}{l:List Oper}{y:Code}(h:AOps σ l.toArray (fZ (AWP σ y Q) Q) l s):AWP σ (.seq (.region id l.toArray false) y) Q s:=AWP.seq (AWP.region h)
theorem jn{σ:Sg}{Q:Exit→St→Prop}{s:St}{all:Array Oper}(h:Q .normal s):AOps σ all Q [] s:=AOps.nil h
theorem bM{σ:Sg}{Q:Exit→St→Prop}{s:St}{all:Array Oper}{id:Nat}{l:List Oper}{y:Code}(h:AOps σ l.toArray (fZ (AWP σ y Q) Q) l s):AOps σ all (fZ (AWP σ (.seq (.region id l.toArray false) y) Q) Q) [] s:=AOps.nil (AWP.seq (AWP.region h))
theorem bj:(∀{α β:Type} {f:α→β} {l:List α},(l.map f).length=l.length)∧(∀{α:Type} [BEq α] [LawfulBEq α] {a b:α},(a==b)=true↔a=b)∧(∀{p:Prop} [Decidable p],(decide p=true)=p)∧(∀{p:Prop} [Decidable p],(decide p=false)↔¬p)∧(∀{b:Bool},((!b)=true)=(b=false))∧(∀{b:Bool},((!b)=false)=(b=true))∧((!true)=false)∧((!false)=true)∧(∀{a b:Int},¬a<b↔b≤a)∧(∀{a b:Int},¬a≤b↔b<a):=by
 refine⟨?_,?_,?_,?_,?_,?_,?_,?_,?_,?_⟩<;>intros<;>simp
theorem aD{σ:Sg}{Q:bo}{all:Array Oper}{l:List Oper}{e:List (Nat×A)}{H H':List (Nat×B)}(K:AOps σ all Q l ⟨e,H'⟩)(h:HN H H':=by repeat' (first|apply HN.cons rfl|exact HN.nil rfl|exact BN.row rfl|exact BN.map rfl|apply BN.box rfl|apply MN.cons rfl|exact MN.nil rfl|exact XN.d rfl|exact XN.rs rfl|exact jC)):AOps σ all Q l ⟨e,H⟩:=mC h K
theorem jnw{σ:Sg}{Q:Exit→St→Prop}{c:Code}{e:List (Nat×A)}{H H':List (Nat×B)}(K:AWP σ c Q ⟨e,H'⟩)(h:HN H H':=by repeat' (first|apply HN.cons rfl|exact HN.nil rfl|exact BN.row rfl|exact BN.map rfl|apply BN.box rfl|apply MN.cons rfl|exact MN.nil rfl|exact XN.d rfl|exact XN.rs rfl|exact jC)):AWP σ c Q ⟨e,H⟩:=nU h K
def qm(e:List (Nat×A)):List Nat→Option (List (Nat×A))
  | []=>some []
  | k :: ks=>match lk e k,qm e ks with
    | some v,some r=>some ((k,v)::r)
    | _,_=>none
theorem jv{e:List (Nat×A)}: ∀{ks:List Nat} {e':List (Nat×A)},qm e ks=some e'→envSub e e'
 | [],e',h=>by cases h;trivial
 | k::ks,e',h=>by
  unfold qm at h
  split at h
  rename_i v r h1 h2
  cases h
  exact⟨h1,jv h2⟩
  cases h
theorem jf{σ:Sg}{Q:Exit→St→Prop}{all:Array Oper}{l:List Oper}{e e':List (Nat×A)}{H:List (Nat×B)}(ks:List Nat)(h:qm e ks=some e')(K:AOps σ all Q l ⟨e',H⟩):AOps σ all Q l ⟨e,H⟩:=kz e' (jv h) K
theorem jw{σ:Sg}{Q:Exit→St→Prop}{c:Code}{e e':List (Nat×A)}{H:List (Nat×B)}(ks:List Nat)(h:qm e ks=some e')(K:AWP σ c Q ⟨e',H⟩):AWP σ c Q ⟨e,H⟩:=lj e' (jv h) K


noncomputable abbrev SG(L nt:Nat):Sg:=⟨Tryd.prog,tt,L,nt,[]⟩
theorem pz{L nt}(h1:4096≤L)(h2:L≤9223372036854775807):SgOk (SG L nt):=⟨qN,nv,h1,h2,pB⟩
theorem jB{L f:Nat}{fn:Func}{c:Code}{args:List A}{Q:A→List (Nat×B)→Prop}(nt:Nat)(h1:4096≤L)(h2:L≤1073741824)(hf:Tryd.prog.funcs[f]? = some fn)(hz:(fn.body,fn.ntmps,Nat.ble args.length nt)=(some c,nt,true))(h:SgOk (SG L nt)→As.fact L args→AWP (SG L nt) c (fun e s=>(e= .ret∨e= .normal)∧∃s2,Ent (SG L nt) s s2∧∃res,cj tt s2 fn.results.toList=some res∧Q res s2.H) ⟨bi 0 args,[]⟩)(hn:(fn.name== "runtime.NumGoroutine")=false:=by kernel_rfl):MC Tryd.prog L f args [] Q:=have hσ:=pz (nt:=nt) h1 (Nat.le_trans h2 (by decide));have hz:=Prod.mk.inj hz;have hy:=Prod.mk.inj hz.2;MC.body hσ hf hn hz.1 hy.1 (Nat.le_of_ble_eq_true hy.2) (h hσ)
theorem jH{L f:Nat}{fn:Func}{c:Code}{args:List A}{Hin:List (Nat×B)}{Q:A→List (Nat×B)→Prop}(nt:Nat)(ks:List Nat)(h1:4096≤L)(h2:L≤1073741824)(hf:Tryd.prog.funcs[f]? = some fn)(hz:(fn.body,fn.ntmps,ks,Nat.ble args.length nt)=(some c,nt,Hin.map (·.1),true))(h:SgOk ⟨Tryd.prog,tt,L,nt,ks⟩→As.fact L args→AWP ⟨Tryd.prog,tt,L,nt,ks⟩ c (fun e s=>(e= .ret∨e= .normal)∧∃s2,Ent ⟨Tryd.prog,tt,L,nt,ks⟩ s s2∧∃res,cj tt s2 fn.results.toList=some res∧Q res s2.H) ⟨bi 0 args,Hin⟩)(hn:(fn.name== "runtime.NumGoroutine")=false:=by kernel_rfl):MC Tryd.prog L f args Hin Q:=have hσ:=jM (js:=ks) (pz (nt:=nt) h1 (Nat.le_trans h2 (by decide)));have hz:=Prod.mk.inj hz;have hy:=Prod.mk.inj hz.2;have hx:=Prod.mk.inj hy.2;nS hσ hf hn hz.1 hy.1 hx.1 (Nat.le_of_ble_eq_true hx.2) (h hσ)
abbrev MQ{L:Nat}(h1:4096≤L)(h2:L≤1073741824)(f:Nat)(ds:List A)(Hin:List (Nat×B))(Q:A→List (Nat×B)→Prop):Prop:=MC Tryd.prog L f ds Hin Q
abbrev eI(n:Int):A:=.c (.d (.int .i64 n))
abbrev eB(b:Bool):A:=.c (.d (.bool b))
abbrev bl(xs:List Int):D:=.slc 1 (xs.map fun n=>[.int .i64 n])
structure Tm where
  c:Int
  xs:List Int
  deriving Inhabited
abbrev Tm.cells(t:Tm):List D:=[.int .i64 t.c,bl t.xs]
abbrev ptr(cs:List D):A:=.c (.d (.ptr cs 0))
def iw(x:Int):Bool:=decide (-1000000≤x)&&decide (x≤1000000)
def Tm.ok(t:Tm):Bool:=!(bif (bif !iw t.c then true else decide ((10:Int)<t.xs.length))then true else bif decide ((0:Int)<t.xs.length)then decide (t.xs.getD ((t.xs.length:Int)-1).toNat default=0)else false)&&t.xs.all iw
theorem jg{α:Type}{p:α→Bool}{xs:List α}(h: ∀j (hj:j<xs.length),p xs[j]=true):xs.all p=true:=by
 rw[List.all_eq_true];intro x hx
 obtain⟨j,hj,rfl⟩:=List.mem_iff_getElem.1 hx
 exact h j hj
theorem gB{α:Type}{p:α→Bool}{xs:List α}(j:Nat)(hj:j<xs.length)(h:p xs[j]=false):xs.all p=false:=by
 rw[List.all_eq_false];exact⟨xs[j],List.getElem_mem _,by simp[h]⟩
theorem av{α:Type}[Inhabited α]{xs:List α}{j:Nat}(hj:j<xs.length):xs.getD j default=xs[j]:=by simp[hj]

variable{x lo hi:Int}
theorem qq:MQ h1 h2 82 [eI x,eI lo,eI hi] [] (Plain (eB (decide (lo≤x)&&decide (x≤hi)))):=by
 refine aA ?_ Z
 refine jB 15 h1 h2 Tryd.func82 Z fun O hF=>?_
 refine ac (js Z (bM (bn Z (ar 3 Z Z Z (fun hx=>ap hx Z (ap hx Z (ap hx Z (AN.nil)))) Z Z (aa (aj O Z Z Z Z Z) Z (js Z (jr ?_)))))))
 refine az Z ?_
 rw[Bool.cond_false_right]
theorem qF:MQ h1 h2 88 [eI x] [] (Plain (eB (iw x))):=by
 refine aA ?_ Z
 refine jB 5 h1 h2 Tryd.func88 Z fun O hF=>?_
 refine ac (js Z (bM (js Z (cH Z (qq h1 h2) 5000 Z (js Z (jr ?_))))))
 refine az Z ?_
 first|rfl|skip
variable{t:Tm}
theorem qJ:MQ h1 h2 64 [ptr t.cells] [] (Plain (eB t.ok)):=by
 refine aA ?_ Z
 refine jB 49 h1 h2 Tryd.func64 Z fun O hF=>?_
 have hl:t.xs.length≤L:=by simpa[As.fact,A.fact,M.fact,D.fact,Ds.fact]using hF.1.2.1.1
 refine ac (js Z (bM (bn Z (et Z (js Z (jn (ag (ac (bn Z (cH Z (qF h1 h2) 15000 Z (ae Z (ar 2 Z Z Z (fun hx=>ap hx Z (ap hx Z (AN.nil))) Z Z (aa (ao O Z Z Z Z Z) Z (js Z (ar 13 Z Z Z (fun hx=>ap hx Z (ap hx Z (ap hx Z (nu 9 Z Z Z Z (fun hx'=>ap hx' Z (ap hx' Z (ap hx' Z (ap hx' Z (ap hx' Z (bg hx' (vF Z) Z (bg hx' (vD Z) Z (ap hx' Z (ap hx' Z (AN.nil)))))))))) Z Z (bg hx (aj O Z Z Z Z Z) Z (AN.nil)))))) Z Z (aa (ao O Z Z Z Z Z) Z (jn (ak Z (fun z34=>?_) (fun z34=>?_)))))))))))))))))))
 try simp only[bj]at z34
 refine ac (js Z (jr ?_))
 refine az Z ?_
 simp only[Tm.ok,z34,Bool.not_true,Bool.false_and]
 try simp only[bj]at z34
 refine af (ag (ac (js Z (jn (am (ax (X:=Nat) (fun i=>⟨[(0,ptr t.cells),(3,eI t.xs.length),(4,eI i)],[]⟩) (fun i=>i≤t.xs.length∧∀j (h:j<t.xs.length),j<i→iw t.xs[j]=true) (fun i=>t.xs.length-i) 0 (Ent.env ⟨Z,Z,Z,aq⟩) ?_ (fun i hi=>?_)))))))
 exact⟨dU _,fun j h hj=>absurd hj (Nat.not_lt_zero j)⟩
 refine ag (ac (aP Z (jn (ak Z (fun z37=>?_) (fun z37=>?_)))))
 try simp only[bj]at z37
 refine af (ag (am (ac (bn Z (js Z (n3 Z Z (js Z (cH Z (qF h1 h2) 48000 Z (js Z (jn (ak Z (fun z48=>?_) (fun z48=>?_))))))))))))
 try simp only[bj]at z48
 refine ac (js Z (jr ?_))
 refine az Z ?_
 rw[Int.toNat_natCast,av (by omega)]at z48
 simp only[Tm.ok,gB i (by omega) z48,Bool.and_false]
 try simp only[bj]at z48
 refine af (ab (js Z (ji Z (js Z (jn ?_)))))
 refine⟨i+1,Ent.env ⟨Z,Z,Z,aq⟩,⟨by omega,fun j h hj=>?_⟩,by omega⟩
 by_cases e:j=i
 subst e;rw[Int.toNat_natCast,av h]at z48;exact z48
 exact hi.2 j h (by omega)
 try simp only[bj]at z37
 refine aZ (ac (js Z (jr ?_)))
 refine az Z ?_
 simp only[Tm.ok,z34,Bool.not_false,Bool.true_and]
 rw[jg (fun j hj=>hi.2 j hj (by omega))]
abbrev cU(xs:List Int):B:=.row true 1 (xs.map fun n=>[.int .i64 n])
abbrev bP(xs:List Int):A:=.c (.d (bl xs))
variable{xs:List Int}
theorem sj:MQ h1 h2 63 [bP xs] [] (Rows (.c (.rs 0 0 xs.length)) [cU xs]):=by
 refine di (jB 6 h1 h2 Tryd.func63 Z fun O hF=>?_)
 have hl:xs.length≤L:=by simpa[As.fact,A.fact,M.fact,D.fact,Ds.fact]using hF.1.1
 refine ?_
 refine ac (js Z (bM (bc (HS.lit O Z Z Z) Z (js Z (bc (fY (own:=true) O Z (.row Z Z) (.slc (.inr (Scal.map (fun _=>rfl)))) (by simp) Z (by first|omega|(dsimp only[cz,er,List.length_nil];omega)|(simp only[bj]at *;omega)|(simp;omega)) (by first|omega|(dsimp only[cz,er,List.length_nil];omega)|(simp only[bj]at *;omega)|(simp;omega)) Z Z) Z (js Z (jr ?_)))))))
 refine⟨.inl Z,_,dd,_,Z,[5],by decide,Z,?_,?_⟩
 simp[A.lab,M.lab]
 rfl
theorem qG:MQ h1 h2 72 [bP xs] [] (Rows (.c (.rs 0 0 xs.length)) [cU xs]):=by
 refine di (jB 6 h1 h2 Tryd.func72 Z fun O hF=>?_)
 have hl:xs.length≤L:=by simpa[As.fact,A.fact,M.fact,D.fact,Ds.fact]using hF.1.1
 refine ?_
 refine ac (js Z (bM (bc (HS.lit O Z Z Z) Z (js Z (bc (fY (own:=true) O Z (.row Z Z) (.slc (.inr (Scal.map (fun _=>rfl)))) (by simp) Z (by first|omega|(dsimp only[cz,er,List.length_nil];omega)|(simp only[bj]at *;omega)|(simp;omega)) (by first|omega|(dsimp only[cz,er,List.length_nil];omega)|(simp only[bj]at *;omega)|(simp;omega)) Z Z) Z (js Z (jr ?_)))))))
 refine⟨.inl Z,_,dd,_,Z,[5],by decide,Z,?_,?_⟩
 simp[A.lab,M.lab]
 rfl

theorem sK{ys:List Int}:MQ h1 h2 77 [bP xs,bP ys] [] (Plain (eB (decide (xs=ys)))):=by
 refine aA ?_ Z
 refine jB 26 h1 h2 Tryd.func77 Z fun O hF=>?_
 have hl:xs.length≤L:=by simpa[As.fact,A.fact,M.fact,D.fact,Ds.fact]using hF.1.1
 have hl2:ys.length≤L:=by simpa[As.fact,A.fact,M.fact,D.fact,Ds.fact]using hF.2.1.1
 refine ac (js Z (jn (ag (ac (js Z (et Z (js Z (et Z (js Z (jn (ak Z (fun z10=>?_) (fun z10=>?_))))))))))))
 try simp only[bj]at z10
 refine ac (js Z (jr ?_))
 refine az Z ?_
 rw[decide_eq_false (fun e=>by subst e;simp at z10)]
 try simp only[bj]at z10
 refine af (ag (ac (js Z (jn (am (ax (X:=Nat) (fun i=>⟨[(0,bP xs),(1,bP ys),(5,eI i)],[]⟩) (fun i=>i≤xs.length∧∀j,j<i→xs[j]? = ys[j]?) (fun i=>xs.length-i) 0 (Ent.env ⟨Z,Z,Z,aq⟩) ?_ (fun i hi=>?_)))))))
 exact⟨dU _,fun j hj=>absurd hj (Nat.not_lt_zero j)⟩
 refine ag (ac (ae Z (et Z (js Z (jn (ak Z (fun z14=>?_) (fun z14=>?_)))))))
 try simp only[bj]at z14
 refine af (ag (am (ag (nX [_,_,_,_,_,_,_,_,_] [cO,cO,cd [0,1],cd [0,1,2],cO,cO,cd [4,5],cd [4,5,6],cd (rg 0 8)] [] [_] (kc Z (kc Z (ai (vD Z) (kc Z (kc Z (kc Z (ai (vD Z) (kc Z (kc Z trivial))))))))) ?_))))
 refine ak Z (fun z25=>?_) (fun z25=>?_)
 try simp only[bj]at z25
 refine ac (js Z (jr ?_))
 refine az Z ?_
 rw[decide_eq_false (fun e=>by subst e;simp at z25)]
 try simp only[bj]at z25
 refine af (ab (js Z (ji Z (js Z (jn ?_)))))
 refine⟨i+1,Ent.env ⟨Z,Z,Z,aq⟩,⟨by omega,fun j hj=>?_⟩,by omega⟩
 rcases Nat.lt_or_ge j i with h|h
 exact hi.2 j h
 obtain rfl:j=i:=by omega
 rw[Int.toNat_natCast,av (by omega),av (by omega)]at z25
 rw[List.getElem?_eq_getElem (by omega),List.getElem?_eq_getElem (by omega),z25]
 try simp only[bj]at z14
 refine aZ (ac (js Z (jr ?_)))
 refine az Z ?_
 have e:xs=ys:=List.ext_getElem? fun j=>by
  rcases Nat.lt_or_ge j i with h|h
  ·
   exact hi.2 j h
  ·
   rw[List.getElem?_eq_none (by omega),List.getElem?_eq_none (by omega)]
 rw[decide_eq_true e]
deriving instance DecidableEq for Tm
abbrev sN(t:Tm):A:=.agg [.d (.int .i64 t.c),.d (bl t.xs)]
abbrev tms(ts:List Tm):D:=.slc 2 (ts.map Tm.cells)
theorem c92{s:Tm}:MQ h1 h2 44 [sN s,sN t] [] (Plain (eB (decide (s=t)))):=by
 refine aA ?_ Z
 refine jB 16 h1 h2 Tryd.func44 Z fun O hF=>?_
 refine ac (jx Z (jx Z (js Z (jn (ag (ac (bn Z (js Z (jn (ak Z (fun z9=>?_) (fun z9=>?_)))))))))))
 try simp only[bj]at z9
 refine ac (js Z (jr ?_))
 refine az Z ?_
 rw[decide_eq_false (fun e=>z9 (by rw[e]))]
 try simp only[bj]at z9
 refine af (ag (ac (bn Z (cH Z (sK h1 h2) 15000 Z (js Z (jn (ak Z (fun z15=>?_) (fun z15=>?_))))))))
 try simp only[bj]at z15
 refine ac (js Z (jr ?_))
 refine az Z ?_
 rw[decide_eq_false (fun e=>z15 (by rw[e]))]
 try simp only[bj]at z15
 refine af (ac (js Z (jr ?_)))
 refine az Z ?_
 have e:s=t:=by cases s;cases t;simp_all
 rw[decide_eq_true e]

structure Sm where
  kind:Int
  var:Int
  event:Int
  sum:Tm
  index:Tm
  facts:List Tm
  deriving Inhabited,DecidableEq
structure Pm where
  pre:List Tm
  body:List Sm
  post:List Tm
  deriving Inhabited,DecidableEq
structure Sx where
  vars:List Int
  cells:List Int
  deriving Inhabited,DecidableEq
def aJ{α:Type}(f:Int→α→α)(sz:α→Nat):Int→List α→List α
  | _,[]=>[]
  | k,a::r=>f k a::aJ f sz (k+sz a) r
def cnt{α:Type}(sz:α→Nat)(l:List α):Nat:=(l.map sz).sum
def mk{α:Type}(f:Int→α→α)(sz:α→Nat)(k:Int)(i:Nat)(l:List α):List α:=aJ f sz k (l.take i)++l.drop i
section
variable{α:Type}{f:Int→α→α}{sz:α→Nat}
theorem aO: ∀{k:Int} {l:List α},(aJ f sz k l).length=l.length
 | _,[]=>rfl
 | _,a::r=>by simp[aJ,aO]
theorem iT{k:Int}{i:Nat}{l:List α}:(mk f sz k i l).length=l.length:=by
 simp[mk,aO];omega
theorem lU{k:Int}{l:List α}:mk f sz k 0 l=l:=by simp[mk,aJ]
theorem nd{k:Int}{i:Nat}{l:List α}(h:l.length≤i):mk f sz k i l=aJ f sz k l:=by
 simp[mk,List.take_of_length_le h,List.drop_of_length_le h]
theorem kJ{k:Int}{i:Nat}{l:List α}(h:i<l.length):(mk f sz k i l)[i]? = some l[i]:=by
 rw[mk,List.getElem?_append_right (by simp[aO];omega)]
 simp[aO,Nat.min_eq_left (Nat.le_of_lt h)]
theorem hJ: ∀{k:Int} {l:List α} {a:α},aJ f sz k (l++[a])=aJ f sz k l++[f (k+cnt sz l) a]
 | k,[],a=>by simp[aJ,cnt]
 | k,b::r,a=>by
  have:k+(sz b:Int)+(cnt sz r:Int)=k+(cnt sz (b::r):Int):=by simp[cnt];omega
  simp[aJ,hJ,this]
theorem kj{l:List α}{i:Nat}(h:i<l.length):cnt sz (l.take (i+1))=cnt sz (l.take i)+sz l[i]:=by
 rw[List.take_succ_eq_append_getElem h]
 simp only[cnt,List.map_append,List.sum_append,List.map_cons,List.map_nil,List.sum_cons,List.sum_nil];omega
theorem nn{l:List α}{i:Nat}:cnt sz (l.take i)≤cnt sz l:=by
 have:cnt sz l=cnt sz (l.take i)+cnt sz (l.drop i):=by rw[cnt,cnt,cnt,←List.sum_append,←List.map_append,List.take_append_drop]
 omega
theorem jq{k:Int}{i:Nat}{l:List α}(h:i<l.length):(mk f sz k i l).set i (f (k+cnt sz (l.take i)) l[i])=mk f sz k (i+1) l:=by
 have h1:(aJ f sz k (l.take i)).length=i:=by rw[aO,List.length_take];omega
 rw[mk,List.set_append_right _ _ (by omega),h1,Nat.sub_self,mk,List.take_succ_eq_append_getElem h,hJ,List.drop_eq_getElem_cons h,List.set_cons_zero]
 simp only[cM,List.singleton_append]
end
abbrev mI:Int→Int→Int:=fun k _=>k
abbrev bE:Int→Nat:=fun _=>1
theorem kk{l:List Int}:cnt bE l=l.length:=by
 induction l with
 | nil=>rfl
 | cons a r ih=>
  have:bE a=1:=rfl
  simp only[cnt,List.map_cons,List.sum_cons,er]at ih ⊢;omega
theorem iU{k:Int}{xs:List Int}{j:Nat}(h:j<xs.length):(aJ mI bE k xs)[j]? = some (k+j):=by
 have h1:=kJ (f:=mI) (sz:=bE) (k:=k) (l:=xs) h
 have h2:=jq (f:=mI) (sz:=bE) (k:=k) (l:=xs) h
 have h3:(mk mI bE k (j+1) xs)[j]? = some (k+j):=by
  rw[←h2,List.getElem?_set]
  have e:cnt bE (xs.take j)=j:=by rw[kk,List.length_take];omega
  simp[iT,h,e]
 have h4:(mk mI bE k (j+1) xs)[j]? = (aJ mI bE k (xs.take (j+1)))[j]? := by
  rw[mk,List.getElem?_append_left (by rw[aO,List.length_take];omega)]
 have key: ∀{k:Int} {l:List Int} {n j:Nat},j<n→(aJ mI bE k (l.take n))[j]? = (aJ mI bE k l)[j]? := by
  intro k l
  induction l generalizing k with
  | nil=>intro n j _;simp
  | cons a r ih=>
   intro n j hj
   cases n with
   | zero=>omega
   | succ n=>
    cases j with
    | zero=>simp[aJ]
    | succ j=>simp only[List.take_succ_cons,aJ,List.getElem?_cons_succ];exact ih (by omega)
 rw[←key (Nat.lt_succ_self j),←h4,h3]
variable{k:Int}
theorem rF(hk0:0≤k)(hk1:k≤1073741824):MQ h1 h2 60 [.c (.rs 0 0 xs.length),eI k] [(0,cU xs)] (kD (eI (k+xs.length)) [(0,cU (aJ mI bE k xs))]):=by
 refine jH 19 [0] h1 h2 Tryd.func60 Z fun O hF=>?_
 refine i0 0 Z (fun hB=>?_)
 have hl:xs.length≤L:=by simpa[B.fact]using hB.1
 refine ac (js Z (jn (ag (ac (js Z (jn (am (ax (X:=Nat) (fun i=>⟨[(0,.c (.rs 0 0 xs.length)),(1,eI (k+i)),(5,eI i)],[(0,cU (mk mI bE k i xs))]⟩) (fun i=>i≤xs.length) (fun i=>xs.length-i) 0 (Ent.to ⟨Z,by simp[bi,ah],Z,aq⟩ (by simp[lU])) ?_ (fun i hi=>?_)))))))))
 exact dU _
 refine ag (ac (ae Z (bv Z Z (js Z (jn (ak Z (fun z9=>?_) (fun z9=>?_)))))))
 try simp only[bj]at z9
 refine af (ag (am (ac (aP Z (bv Z Z (bc (b9 (ex:=[.int .i64 (xs.getD i default)]) (xs':=(mk mI bE k (i+1) xs).map fun n=>[.int .i64 n]) O Z Z Z Z Z Z Z Z Z Z Z Z Z Z (by simp[kJ (f:=mI) (sz:=bE) (k:=k) (show i<xs.length by omega),show i<xs.length by omega]) (by rw[←jq (show i<xs.length by omega),kk,List.length_take,Nat.min_eq_left hi];simp[List.map_set])) Z (jn (ab (js Z (ji Z (js Z (jn (ab (js Z (ji Z (js Z (jn ?_)))))))))))))))))
 refine⟨i+1,Ent.to ⟨Z,?_,Z,aq⟩ Z,by omega,by omega⟩
 show some (eI (k+i+1))=some (eI (k+(i+1:Nat)))
 rw[Int.natCast_add,←Int.add_assoc];rfl
 try simp only[bj]at z9
 refine aZ (ac (ae Z (jr ?_)))
 refine az Z ?_
 obtain rfl:i=xs.length:=by omega
 rw[nd (bD _)]
 exact⟨Z,Z⟩
theorem sJ(hk0:0≤k)(hk1:k≤1073741824):MQ h1 h2 61 [bP xs,eI k] [] (Plain (eI (if xs=aJ mI bE k xs then k+xs.length else -1))):=by
 refine aA ?_ Z
 refine jB 21 h1 h2 Tryd.func61 Z fun O hF=>?_
 have hl:xs.length≤L:=by simpa[As.fact,A.fact,M.fact,D.fact,Ds.fact]using hF.1.1
 refine ac (js Z (jn (ag (ac (js Z (jn (am (ax (X:=Nat) (fun i=>⟨[(0,bP xs),(1,eI (k+i)),(5,eI i)],[]⟩) (fun i=>i≤xs.length∧∀j,j<i→xs[j]? = some (k+j)) (fun i=>xs.length-i) 0 (Ent.env ⟨Z,by simp[bi,ah],Z,aq⟩) ?_ (fun i hi=>?_)))))))))
 exact⟨dU _,fun j hj=>absurd hj (Nat.not_lt_zero j)⟩
 refine ag (ac (ae Z (et Z (js Z (jn (ak Z (fun z9=>?_) (fun z9=>?_)))))))
 try simp only[bj]at z9
 refine af (ag (am (ag (ac (ae Z (n3 Z Z (aP Z (jn (ak Z (fun z17=>?_) (fun z17=>?_))))))))))
 try simp only[bj]at z17
 refine ac (js Z (jr ?_))
 refine az Z ?_
 rw[if_neg (fun e=>z17 ?_)]
 have h1:=iU (k:=k) (show i<xs.length by omega)
 rw[←e,List.getElem?_eq_getElem (by omega)]at h1
 rw[Int.toNat_natCast,av (by omega)];simpa using h1
 try simp only[bj]at z17
 refine af (ab (js Z (ji Z (js Z (jn (ab (js Z (ji Z (js Z (jn ?_))))))))))
 refine⟨i+1,Ent.env ⟨Z,?_,Z,aq⟩,⟨by omega,fun j hj=>?_⟩,by omega⟩
 show some (eI (k+i+1))=some (eI (k+(i+1:Nat)))
 rw[Int.natCast_add,←Int.add_assoc];rfl
 rcases Nat.lt_or_ge j i with h|h
 exact hi.2 j h
 obtain rfl:j=i:=by omega
 rw[Int.toNat_natCast,av (by omega)]at z17
 rw[List.getElem?_eq_getElem (by omega)];simpa using z17
 try simp only[bj]at z9
 refine aZ (ac (ae Z (jr ?_)))
 refine az Z ?_
 obtain rfl:i=xs.length:=by omega
 rw[if_pos (List.ext_getElem? fun j=>?_)]
 rcases Nat.lt_or_ge j xs.length with h|h
 rw[iU h];exact hi.2 j h
 rw[List.getElem?_eq_none (by omega),List.getElem?_eq_none (by rw[aO];omega)]

theorem qC:MQ h1 h2 60 [.c (.d (bl [])),eI k] [] (Plain (eI k)):=by
 refine aA ?_ Z
 refine jB 19 h1 h2 Tryd.func60 Z fun O hF=>?_
 refine ac (js Z (jn (ag (ac (js Z (jn (am (ax (X:=Nat) (fun i=>⟨[(0,.c (.d (bl []))),(1,eI k),(5,eI 0)],[]⟩) (fun i=>True) (fun i=>0) 0 (Ent.env ⟨Z,Z,Z,aq⟩) ?_ (fun i hi=>?_)))))))))
 trivial
 refine ag (ac (ae Z (et Z (js Z (jn (ak Z (fun z9=>?_) (fun z9=>?_)))))))
 try simp only[bj]at z9
 exact absurd z9 (by simp)
 try simp only[bj]at z9
 refine aZ (ac (ae Z (jr ?_)))
 refine az Z ?_
 first|rfl|skip
def Tm.term(t:Tm):Bool:=t.ok&&decide ((t.xs.length:Int)≤4)
def q8(ts:List Tm)(n:Int):Bool:=ts.all Tm.term&&decide ((ts.length:Int)≤n)
def below(k:Int):Int:=if k=1 then 2 else if k=7 then 2 else if k=8 then 1 else 0
def Tm.zero(t:Tm):Bool:=decide (t.c=0)&&decide ((t.xs.length:Int)=0)

theorem qE:MQ h1 h2 100 [ptr t.cells] [] (Plain (eB t.zero)):=by
 refine aA ?_ Z
 refine jB 16 h1 h2 Tryd.func100 Z fun O hF=>?_
 refine ac (js Z (bM (bn Z (ae Z (ar 6 Z Z Z (fun hx=>ap hx Z (ap hx Z (ap hx Z (ap hx Z (bg hx (ck O Z Z Z Z Z Z Z Z) Z (ap hx Z (AN.nil))))))) Z Z (aa (aj O Z Z Z Z Z) Z (js Z (jr ?_))))))))
 refine az Z ?_
 rw[Bool.cond_false_right];rfl
def r6(s:Sm):Bool:=bif bif bif bif decide (s.kind=2)then true else decide (s.kind=4)then true else decide (s.kind=6)then true else decide (s.kind=7)then true else decide (s.kind=8)
def r7(s:Sm):Bool:=bif decide (s.kind=3)then true else decide (s.kind=4)
def qu(s:Sm):Bool:=bif decide (s.kind=2)then true else decide (s.kind=3)
def sB1(s:Sm):Bool:=bif bif bif !(decide (0≤s.kind)&&decide (s.kind≤8))then true else !s.sum.term then true else !s.index.term then true else !q8 s.facts 6
def sB2(s:Sm):Bool:=bif bif bif !r6 s then !s.sum.zero else false then true else bif !r7 s then !s.index.zero else false then true else bif !decide (s.kind=8)then decide ((0:Int)<s.facts.length)else false
def sB3(s:Sm):Bool:=bif bif qu s then !(decide (0≤s.var)&&decide (s.var≤3))else false then true else bif !qu s then !decide (s.var=0)else false
def ra(s:Sm):Bool:=bif sB1 s then false else bif sB2 s then false else bif sB3 s then false else bif decide (s.kind=5)then(decide (0≤s.event)&&decide (s.event≤3))else decide (s.event=0)
def big(x:Int):Bool:=decide (-1000000000≤x)&&decide (x≤1000000000)
def pd(xs:List Int)(n:Int):Bool:=xs.all big&&decide ((xs.length:Int)=n)
theorem rH{x:Int}:iw x=true↔ -1000000≤x∧x≤1000000:=by simp[iw]
abbrev gE(t:Tm):A:=.agg (t.cells.map .d)
def nY(lo hi x:Int):Bool:=decide (lo≤x)&&decide (x≤hi)

theorem n7:MQ h1 h2 89 [eI x,eI lo,eI hi] [] (Plain (eB (nY lo hi x))):=by
 refine aA ?_ Z
 refine jB 15 h1 h2 Tryd.func89 Z fun O hF=>?_
 refine ac (js Z (bM (bn Z (ar 3 Z Z Z (fun hx=>ap hx Z (ap hx Z (ap hx Z (AN.nil)))) Z Z (aa (aj O Z Z Z Z Z) Z (js Z (jr ?_)))))))
 refine az Z ?_
 rw[Bool.cond_false_right];rfl
theorem qH:MQ h1 h2 67 [bP xs,eI lo,eI hi] [] (Plain (eB (xs.all (nY lo hi)))):=by
 refine aA ?_ Z
 refine jB 21 h1 h2 Tryd.func67 Z fun O hF=>?_
 have hl:xs.length≤L:=by simpa[As.fact,A.fact,M.fact,D.fact,Ds.fact]using hF.1.1
 refine ac (js Z (jn (ag (ac (js Z (et Z (js Z (jn (am (ax (X:=Nat) (fun i=>⟨[(1,eI lo),(2,eI hi),(9,bP xs),(10,eI xs.length),(11,eI i)],[]⟩) (fun i=>i≤xs.length∧∀j (h:j<xs.length),j<i→nY lo hi xs[j]=true) (fun i=>xs.length-i) 0 (Ent.env ⟨Z,Z,Z,Z,Z,aq⟩) ?_ (fun i hi=>?_)))))))))))
 exact⟨dU _,fun j h hj=>absurd hj (Nat.not_lt_zero j)⟩
 refine ac (js Z (jn (ag (ak Z (fun z12=>?_) (fun z12=>?_)))))
 try simp only[bj]at z12
 refine af (ag (am (ac (n3 Z Z (ae Z (bM (aP Z (cH Z (n7 h1 h2) 19000 Z (js Z (jn (ak Z (fun z19=>?_) (fun z19=>?_))))))))))))
 try simp only[bj]at z19
 refine ac (js Z (jr ?_))
 refine az Z ?_
 rw[Int.toNat_natCast,av (by omega)]at z19
 rw[gB i (by omega) z19]
 try simp only[bj]at z19
 refine af (ab (ji Z (js Z (jn ?_))))
 refine⟨i+1,Ent.env ⟨Z,Z,Z,Z,Z,aq⟩,⟨by omega,fun j h hj=>?_⟩,by omega⟩
 by_cases e:j=i
 subst e;rw[Int.toNat_natCast,av h]at z19;exact z19
 exact hi.2 j h (by omega)
 try simp only[bj]at z12
 refine aZ (ac (js Z (jr ?_)))
 refine az Z ?_
 rw[jg (fun j hj=>hi.2 j hj (by omega))]
theorem si:MQ h1 h2 66 [eI x] [] (Plain (eB (iw x))):=by
 refine aA ?_ Z
 refine jB 5 h1 h2 Tryd.func66 Z fun O hF=>?_
 refine ac (js Z (bM (js Z (cH Z (n7 h1 h2) 5000 Z (js Z (jr ?_))))))
 refine az Z ?_
 first|rfl|skip
theorem od(t:Tm):(bif bif bif decide ((t.xs.length:Int)≤10)then iw t.c else false then t.xs.all iw else false then bif decide ((t.xs.length:Int)=0)then true else !decide (t.xs.getD ((t.xs.length:Int)-1).toNat default=0)else false)=t.ok:=by
 unfold Tm.ok
 cases iw t.c<;>cases t.xs.all iw<;>simp
 by_cases h0:t.xs=[]
 simp[h0]
 have h1:0<t.xs.length:=List.length_pos_iff.2 h0
 by_cases h2:(t.xs.length:Int)≤10
 have h3: ¬(10:Int)<t.xs.length:=by omega
 simp[h0,h1,h2,h3]
 have h3:(10:Int)<t.xs.length:=by omega
 simp[h2,h3]
theorem py:MQ h1 h2 33 [gE t] [] (Plain (eB t.ok)):=by
 refine aA ?_ Z
 refine jB 32 h1 h2 Tryd.func33 Z fun O hF=>?_
 have hl:t.xs.length≤L:=by simpa[As.fact,A.fact,M.fact,Ms.fact,D.fact,Ds.fact]using hF.1.2.1.1
 refine ac (jx Z (js Z (bM (ae Z (et Z (js Z (jf [3,2,1,0] Z (bM (aP Z (jf [9,3,2,1,0] Z (ar 3 Z Z Z (fun hx=>ap hx Z (ap hx Z (bO O hx Z Z Z Z (si h1 h2) (al Z) Z Z Z Z Z Z Z (B0:=13000) Z (AN.nil)))) Z Z (aa (aj O Z Z Z Z Z) Z (js Z (jf [14,3,2,1,0] Z (ar 3 Z Z Z (fun hx=>ap hx Z (ap hx Z (bO O hx Z Z Z Z (qH h1 h2) (al Z) Z Z Z Z Z Z Z (B0:=18000) Z (AN.nil)))) Z Z (aa (aj O Z Z Z Z Z) Z (js Z (jf [19,3,2,1,0] Z (ar 11 Z Z Z (fun hx=>ap hx Z (ap hx Z (ap hx Z (nu 7 Z Z Z Z (fun hx'=>ap hx' Z (ap hx' Z (ap hx' Z (bg hx' (aM O Z Z (by first|omega|(simp only[bj]at *;omega)) (by first|omega|(simp only[bj]at *;omega))) Z (bg hx' (fd O Z Z Z Z Z Z Z Z (by first|omega|(simp only[bj]at *;omega)) (jy (by first|omega|(simp only[bj]at *;omega)) (by first|omega|(simp only[bj]at *;omega)))) Z (ap hx' Z (ap hx' Z (AN.nil)))))))) Z Z (bg hx (ao O Z Z Z Z Z) Z (AN.nil)))))) Z Z (aa (aj O Z Z Z Z Z) Z (js Z (jf [2,1,0] Z (jr ?_)))))))))))))))))))))))
 refine az Z ?_
 exact congrArg eB (od t)
theorem sc:MQ h1 h2 117 [gE t] [] (Plain (eB t.zero)):=by
 refine aA ?_ Z
 refine jB 12 h1 h2 Tryd.func117 Z fun O hF=>?_
 refine ac (jx Z (js Z (bM (bn Z (ar 4 Z Z Z (fun hx=>ap hx Z (ap hx Z (bg hx (ck O Z Z Z Z Z Z Z Z) Z (ap hx Z (AN.nil))))) Z Z (aa (aj O Z Z Z Z Z) Z (js Z (jr ?_))))))))
 refine az Z ?_
 rw[Bool.cond_false_right];rfl
inductive Tr where
  | node (s:Sm) (at_:Int) (kids:List Tr)
mutual
def Tr.d:Tr→D
  | .node s a ks=>.ptr [.int .i64 s.kind,.int .i64 s.var,.int .i64 s.event,.int .i64 s.sum.c,bl s.sum.xs,.int .i64 s.index.c,bl s.index.xs,tms s.facts,.int .i64 a,.slc 1 (Trs.d ks)] 0
def Trs.d:List Tr→List (List D)
  | []=>[]
  | t::r=>[t.d]::Trs.d r
end
abbrev tB(r:Option (Tr×Nat)):Bool:=match r with|some _=>true|none=>false
structure RS where
  vars:List Int
  cells:List Int
  events:List Int
  fuel:Int
  steps:Int
  out:Int
structure RSok(r:RS):Prop where
  vars:pd r.vars 4=true
  cells:pd r.cells 8=true
  lo:0≤r.steps
  hi:r.steps≤r.fuel
  fuel:r.fuel≤2000
  events:(r.events.length:Int)≤r.steps
structure RSle(r r':RS):Prop where
  ok:RSok r'
  fuel:r'.fuel=r.fuel
  steps:r.steps≤r'.steps

mutual
/-- Each element is valid, and has the statements behind it that it cC. -/
def Tr.ok:Tr→Prop
  | .node s _ ks=>ra s=true∧(ks.length:Int)=below s.kind∧Trs.ok ks
def Trs.ok:List Tr→Prop
  | []=>True
  | t::r=>t.ok∧Trs.ok r
end
def r0(s:Sx)(f:Int):RS:=⟨s.vars,s.cells,[],f,0,0⟩
structure Rs where
  v:List Int
  c:List Int
  ev:List Int
  out:Int
  st:Int
structure Cf where
  n:Nat
  ws:List Nat
  v:List Int
  c:List Int
  ev:List Int
  st:Int

structure Nd where
  kind:Int
  fact:Int
  term:Tm
  mul:List Int
  deriving Inhabited,DecidableEq
structure Sq where
  facts:List Tm
  goal:Tm
  deriving Inhabited,DecidableEq
abbrev Nd.cells(n:Nd):List D:=[.int .i64 n.kind,.int .i64 n.fact,.int .i64 n.term.c,bl n.term.xs,bl n.mul]
abbrev qf(n:Nd):A:=.agg (n.cells.map .d)
abbrev oO(ns:List Nd):D:=.slc 5 (ns.map Nd.cells)
abbrev dp(ns:List Nd):A:=.c (.d (oO ns))
abbrev fq(ns:List Nd):B:=.row true 5 (ns.map Nd.cells)
abbrev mN:Int→Nd→Nd:=fun k n=>⟨k,k+1,⟨k+1+1,aJ mI bE (k+1+1+1) n.term.xs⟩,aJ mI bE (k+1+1+1+n.term.xs.length) n.mul⟩
abbrev nN:Nd→Nat:=fun n=>3+n.term.xs.length+n.mul.length

theorem c93{s t:Nd}:MQ h1 h2 59 [qf s,qf t] [] (Plain (eB (decide (s=t)))):=by
 refine aA ?_ Z
 refine jB 27 h1 h2 Tryd.func59 Z fun O hF=>?_
 refine ac (jx Z (jx Z (js Z (jn (ag (ac (bn Z (js Z (jn (ak Z (fun z9=>?_) (fun z9=>?_)))))))))))
 try simp only[bj]at z9
 refine ac (js Z (jr ?_))
 refine az Z ?_
 rw[decide_eq_false (fun e=>z9 (by rw[e]))]
 try simp only[bj]at z9
 refine af (ag (ac (bn Z (js Z (jn (ak Z (fun z14=>?_) (fun z14=>?_)))))))
 try simp only[bj]at z14
 refine ac (js Z (jr ?_))
 refine az Z ?_
 rw[decide_eq_false (fun e=>z14 (by rw[e]))]
 try simp only[bj]at z14
 refine af (ag (ac (bn Z (cH Z (c92 h1 h2) 20000 Z (js Z (jn (ak Z (fun z20=>?_) (fun z20=>?_))))))))
 try simp only[bj]at z20
 refine ac (js Z (jr ?_))
 refine az Z ?_
 rw[decide_eq_false (fun e=>z20 (by rw[e]))]
 try simp only[bj]at z20
 refine af (ag (ac (bn Z (cH Z (sK h1 h2) 26000 Z (js Z (jn (ak Z (fun z26=>?_) (fun z26=>?_))))))))
 try simp only[bj]at z26
 refine ac (js Z (jr ?_))
 refine az Z ?_
 rw[decide_eq_false (fun e=>z26 (by rw[e]))]
 try simp only[bj]at z26
 refine af (ac (js Z (jr ?_)))
 refine az Z ?_
 have e:s=t:=by cases s;cases t;simp_all
 rw[decide_eq_true e]
theorem rD{xs ys:List Nd}:MQ h1 h2 24 [.c (.d (oO xs)),.c (.d (oO ys))] [] (Plain (eB (decide (xs=ys)))):=by
 refine aA ?_ Z
 refine jB 27 h1 h2 Tryd.func24 Z fun O hF=>?_
 have hl:xs.length≤L:=by simpa[As.fact,A.fact,M.fact,D.fact,Ds.fact]using hF.1.1
 have hl2:ys.length≤L:=by simpa[As.fact,A.fact,M.fact,D.fact,Ds.fact]using hF.2.1.1
 refine ac (js Z (jn (ag (ac (js Z (et Z (js Z (et Z (js Z (jn (ak Z (fun z10=>?_) (fun z10=>?_))))))))))))
 try simp only[bj]at z10
 refine ac (js Z (jr ?_))
 refine az Z ?_
 rw[decide_eq_false (fun e=>by subst e;simp at z10)]
 try simp only[bj]at z10
 refine af (ag (ac (js Z (jn (am (ax (X:=Nat) (fun i=>⟨[(0,.c (.d (oO xs))),(1,.c (.d (oO ys))),(5,eI i)],[]⟩) (fun i=>i≤xs.length∧∀j,j<i→xs[j]? = ys[j]?) (fun i=>xs.length-i) 0 (Ent.env ⟨Z,Z,Z,aq⟩) ?_ (fun i hi=>?_)))))))
 exact⟨dU _,fun j hj=>absurd hj (Nat.not_lt_zero j)⟩
 refine ag (ac (ae Z (et Z (js Z (jn (ak Z (fun z14=>?_) (fun z14=>?_)))))))
 try simp only[bj]at z14
 refine af (ag (am (ag (nX [_,_,_,_,_,_,_,_,_,_] [cO,cO,cd [0,1],cd [0,1,2],cO,cO,cd [4,5],cd [4,5,6],pe (rg 0 8) 0,pn (rg 0 9) 1 1] [8] [_,_] (kc Z (kc Z (ai (vD Z) (kc Z (kc Z (kc Z (ai (vD Z) (kc Z (ai (cZ O (B0:=26000) Z Z Z Z (c93 h1 h2) (al Z) Z Z Z Z Z) (kc Z trivial)))))))))) ?_))))
 refine ak Z (fun z26=>?_) (fun z26=>?_)
 try simp only[bj]at z26
 refine ac (js Z (jr ?_))
 refine az Z ?_
 rw[decide_eq_false (fun e=>by subst e;simp at z26)]
 try simp only[bj]at z26
 refine af (ab (js Z (ji Z (js Z (jn ?_)))))
 refine⟨i+1,Ent.env ⟨Z,Z,Z,aq⟩,⟨by omega,fun j hj=>?_⟩,by omega⟩
 rcases Nat.lt_or_ge j i with h|h
 exact hi.2 j h
 obtain rfl:j=i:=by omega
 rw[Int.toNat_natCast,av (by omega),av (by omega)]at z26
 rw[List.getElem?_eq_getElem (by omega),List.getElem?_eq_getElem (by omega),z26]
 try simp only[bj]at z14
 refine aZ (ac (js Z (jr ?_)))
 refine az Z ?_
 have e:xs=ys:=List.ext_getElem? fun j=>by
  rcases Nat.lt_or_ge j i with h|h
  ·
   exact hi.2 j h
  ·
   rw[List.getElem?_eq_none (by omega),List.getElem?_eq_none (by omega)]
 rw[decide_eq_true e]
theorem sa:MQ h1 h2 25 [.c (.d (oO [])),eI k] [] (Plain (eI k)):=by
 refine aA ?_ Z
 refine jB 50 h1 h2 Tryd.func25 Z fun O hF=>?_
 refine ac (js Z (jn (ag (ac (js Z (jn (am (ax (X:=Nat) (fun i=>⟨[(0,.c (.d (oO []))),(1,eI k),(5,eI 0)],[]⟩) (fun i=>True) (fun i=>0) 0 (Ent.env ⟨Z,Z,Z,aq⟩) ?_ (fun i hi=>?_)))))))))
 trivial
 refine ag (ac (ae Z (et Z (js Z (jn (ak Z (fun z9=>?_) (fun z9=>?_)))))))
 try simp only[bj]at z9
 exact absurd z9 (by simp)
 try simp only[bj]at z9
 refine aZ (ac (ae Z (jr ?_)))
 refine az Z ?_
 first|rfl|skip
theorem c39{ts:List Nd}(hk0:0≤k)(hk1:k+cnt nN ts≤1073741824):MQ h1 h2 25 [.c (.rs 0 0 ts.length),eI k] [(0,fq ts)] (kD (eI (k+cnt nN ts)) [(0,fq (aJ mN nN k ts))]):=by
 refine jH 50 [0] h1 h2 Tryd.func25 Z fun O hF=>?_
 refine i0 0 Z (fun hB=>?_)
 have hl:ts.length≤L:=by simpa[B.fact]using hB.1
 refine ac (js Z (jn (ag (ac (js Z (jn (am (ax (X:=Nat) (fun i=>⟨[(0,.c (.rs 0 0 ts.length)),(1,eI (k+cnt nN (ts.take i))),(5,eI i)],[(0,fq (mk mN nN k i ts))]⟩) (fun i=>i≤ts.length) (fun i=>ts.length-i) 0 (Ent.to ⟨Z,by simp[bi,ah,cnt],Z,aq⟩ (by simp[lU])) ?_ (fun i hi=>?_)))))))))
 exact dU _
 refine ag (ac (ae Z (bv Z Z (js Z (jf [9,0,1,5] Z (jn (ak Z (fun z9=>?_) (fun z9=>?_))))))))
 try simp only[bj]at z9
 refine af (ag (am (ac (aP Z (bv Z Z (js Z (jf [16,14,9,0,1,5] Z ?_)))))))
 obtain⟨K,hK⟩: ∃K,K=k+(cnt nN (ts.take i):Int):=⟨_,rfl⟩
 rw[←hK]
 have hcs:=kj (sz:=nN) (show i<ts.length by omega)
 have hcl:=nn (sz:=nN) (l:=ts) (i:=i+1)
 have hg:=kJ (f:=mN) (sz:=nN) (k:=k) (show i<ts.length by omega)
 have hs:=jq (f:=mN) (sz:=nN) (k:=k) (show i<ts.length by omega)
 rw[←av (show i<ts.length by omega)]at hcs hg hs
 obtain⟨t,ht⟩: ∃t,t=ts.getD i default:=⟨_,rfl⟩
 rw[←ht]at hcs hg hs
 rw[←hK]at hs
 simp only[nN]at hcs
 have hb:K+(3+t.term.xs.length+t.mul.length:Nat)≤1073741824:=by omega
 obtain⟨R,hR⟩: ∃R,R=(mk mN nN k i ts).map Nd.cells:=⟨_,rfl⟩
 have hRl:i<R.length:=by rw[hR,cz,iT];omega
 have hRi:R[i]? = some t.cells:=by rw[hR,List.getElem?_map,hg];rfl
 have hRn:R.set i (mN K t).cells=(mk mN nN k (i+1) ts).map Nd.cells:=by rw[hR,←hs,List.map_set]
 have e0:fq (mk mN nN k i ts)= .row true 5 (R.set i t.cells):=by rw[iO hRi,hR]
 rw[e0]
 refine bc (b9 (ex:=[.int .i64 (t.kind),.int .i64 (t.fact),.int .i64 (t.term.c),bl (t.term.xs),bl (t.mul)]) (xs':=R.set i [.int .i64 (K),.int .i64 (t.fact),.int .i64 (t.term.c),bl (t.term.xs),bl (t.mul)]) O Z Z Z Z Z Z Z Z Z Z Z Z Z Z (by simp[hRl]) (by simp)) Z (aD ?_)
 refine jf [9,0,1,5] Z (bM (js Z (ji Z (js Z (jf [1,9,0,5] Z (bM (aP Z (bv Z Z (js Z (jf [23,21,1,9,0,5] Z (bc (b9 (ex:=[.int .i64 (K),.int .i64 (t.fact),.int .i64 (t.term.c),bl (t.term.xs),bl (t.mul)]) (xs':=R.set i [.int .i64 (K),.int .i64 (K+1),.int .i64 (t.term.c),bl (t.term.xs),bl (t.mul)]) O Z Z Z Z Z Z Z Z Z Z Z Z Z Z (by simp[hRl]) (by simp)) Z (aD ?_))))))))))))
 refine jf [1,9,0,5] Z (bM (js Z (ji Z (js Z (jf [1,9,0,5] Z (bM (aP Z (bv Z Z (ae Z (jf [31,28,1,9,0,5] Z (bc (b9 (ex:=[.int .i64 (K),.int .i64 (K+1),.int .i64 (t.term.c),bl (t.term.xs),bl (t.mul)]) (xs':=R.set i [.int .i64 (K),.int .i64 (K+1),.int .i64 (K+1+1),bl (t.term.xs),bl (t.mul)]) O Z Z Z Z Z Z Z Z Z Z Z Z Z Z (by simp[hRl]) (by simp)) Z (aD ?_))))))))))))
 refine jf [1,9,0,5] Z (bM (js Z (ji Z (js Z (jf [1,9,0,5] Z (bM (ae Z (bv Z Z (ae Z (aa (dm O (ex:=[.int .i64 (K),.int .i64 (K+1),.int .i64 (K+1+1),bl (t.term.xs),bl (t.mul)]) Z Z Z Z (by simp[hRl]) Z) Z (js Z (jf [40,39,1,9,0,5] Z (io O (l:=0) (j:=3) (z:=1) (ex:=[.int .i64 (K),.int .i64 (K+1),.int .i64 (K+1+1),bl (t.term.xs),bl (t.mul)]) (ys:=(t.term.xs).map (fun n=>[D.int .i64 n])) (ys':=(aJ mI bE (K+1+1+1) t.term.xs).map (fun n=>[D.int .i64 n])) (xs':=R.set i [.int .i64 (K),.int .i64 (K+1),.int .i64 (K+1+1),bl (aJ mI bE (K+1+1+1) t.term.xs),bl (t.mul)]) Z Z Z Z (.rp (.d Z .nil)) (.rp (.d Z .nil)) Z (by simp[hRl]) Z (rF (xs:=t.term.xs) (k:=(K+1+1+1)) h1 h2 (by omega) (by omega)).1 (fun _=>by rw[cz];exact rF (xs:=t.term.xs) h1 h2 (by omega) (by omega)) (fun hys=>?_) Z (by simp[aO]) Z Z Z Z (by simp) ?_)))))))))))))
 have hy:t.term.xs=[]:=by simpa using hys
 rw[hy]
 exact(qC h1 h2 (k:=(K+1+1+1))).plain (by simp[cnt,hy])
 refine aD ?_
 refine js Z (jf [1,9,0,5] Z (jn (ab (ae Z (bv Z Z (js Z (aa (dm O (ex:=[.int .i64 (K),.int .i64 (K+1),.int .i64 (K+1+1),bl (aJ mI bE (K+1+1+1) t.term.xs),bl (t.mul)]) Z Z Z Z (by simp[hRl]) Z) Z (js Z (jf [47,46,1,9,0,5] Z (io O (l:=0) (j:=4) (z:=1) (ex:=[.int .i64 (K),.int .i64 (K+1),.int .i64 (K+1+1),bl (aJ mI bE (K+1+1+1) t.term.xs),bl (t.mul)]) (ys:=(t.mul).map (fun n=>[D.int .i64 n])) (ys':=(aJ mI bE (K+1+1+1+t.term.xs.length) t.mul).map (fun n=>[D.int .i64 n])) (xs':=R.set i [.int .i64 (K),.int .i64 (K+1),.int .i64 (K+1+1),bl (aJ mI bE (K+1+1+1) t.term.xs),bl (aJ mI bE (K+1+1+1+t.term.xs.length) t.mul)]) Z Z Z Z (.rp (.d Z .nil)) (.rp (.d Z .nil)) Z (by simp[hRl]) Z (rF (xs:=t.mul) (k:=(K+1+1+1+t.term.xs.length)) h1 h2 (by omega) (by omega)).1 (fun _=>by rw[cz];exact rF (xs:=t.mul) h1 h2 (by omega) (by omega)) (fun hys=>?_) Z (by simp[aO]) Z Z Z Z (by simp) ?_))))))))))
 have hy:t.mul=[]:=by simpa using hys
 rw[hy]
 exact(qC h1 h2 (k:=(K+1+1+1+t.term.xs.length))).plain (by simp[cnt,hy])
 refine aD ?_
 refine js Z (jf [1,9,0,5] Z (jn (ab (js Z (ji Z (js Z (jf [5,1,9,0] Z (jn ?_))))))))
 refine⟨i+1,Ent.to ⟨Z,?_,Z,aq⟩ (by rw[fq,←hRn]),by omega,by omega⟩
 rw[hcs]
 exact congrArg (fun z=>some (eI z)) (by omega)
 try simp only[bj]at z9
 refine aZ (ac (ae Z (jr ?_)))
 refine az Z ?_
 obtain rfl:i=ts.length:=by omega
 rw[nd (bD _),List.take_length]
 exact⟨Z,Z⟩
theorem rk{L:Nat}(h1:4096≤L)(h2:L≤1073741824){xs:List Int}:MC Tryd.prog L 63 [bP xs] [] (Plain (bP xs)):=(sj h1 h2).frozen (.v (.c (.whole rfl (cz _).symm)))
theorem rj{L:Nat}(h1:4096≤L)(h2:L≤1073741824){xs:List Int}:MC Tryd.prog L 72 [bP xs] [] (Plain (bP xs)):=(qG h1 h2).frozen (.v (.c (.whole rfl (cz _).symm)))
theorem sk:MQ h1 h2 37 [gE t] [] (Plain (gE t)):=by
 refine MC.data (jB 9 h1 h2 Tryd.func37 Z fun O hF=>?_)
 refine ac (jx Z (jl Z (jn (ag (nX [_,_,_,_,_,_,_] [pn [] 0 1,pn [0] 0 1,cO,cd [2],pe [2,3] 0,pn (rg 0 5) 1 1,pe (rg 0 6) 1] [4,6] [_,_,_] (ai (kc Z (V Z)) (ai (kc Z (V Z)) (kc Z (kc Z (ai (li O (B0:=8000) Z Z Z Z (rj (xs:=t.xs) h1 h2) (al Z) Z Z Z Z Z) (kc Z (ai (eS Z Z Z) trivial))))))) ?_)))))
 refine qr ?_
 refine az Z ?_
 exact .v (.agg (bK Z))
def bh(xs:List Int):List Int:=(xs.reverse.dropWhile (· == 0)).reverse
theorem iL{xs:List Int}:bh (xs++[0])=bh xs:=by simp[bh]
theorem ma{xs:List Int}{x:Int}(h:x≠0):bh (xs++[x])=xs++[x]:=by simp[bh,h]
theorem iM{xs:List Int}{n:Nat}(h:n<xs.length)(h0:xs.getD n default=0):bh (xs.take (n+1))=bh (xs.take n):=by
 rw[List.take_succ_eq_append_getElem h,←av h,h0,iL]
theorem fP{xs:List Int}{n:Nat}(hn:n≤xs.length)(h:n=0∨xs.getD (n-1) default≠0):bh (xs.take n)=xs.take n:=by
 cases n with
 | zero=>simp[bh]
 | succ n=>
  have h':xs.getD n default≠0:=by
   rcases h with h|h
   cases h
   exact h
  rw[av (by omega)]at h'
  rw[List.take_succ_eq_append_getElem (by omega),ma h']
def ix(c:Int)(xs:List Int):Tm×Bool:=if(Tm.mk c (bh xs)).ok=true then(⟨c,bh xs⟩,true)else(⟨0,[]⟩,false)
abbrev mV(r:Tm×Bool):A:=.tup [gE r.1,eB r.2]
def r5(a:Tm)(m:Int)(b:Tm)(n:Int):List Int:=(List.range 10).map fun i=>m*a.xs.getD i 0+n*b.xs.getD i 0
def r4(a:Tm)(m:Int)(b:Tm)(n:Int):Tm×Bool:=ix (m*a.c+n*b.c) (r5 a m b n)
def qy(t:Tm):Tm×Bool:=r4 t (-1) ⟨1,[]⟩ (-1)
structure Small(t:Tm):Prop where
  c:iw t.c=true
  xs:t.xs.all iw=true
theorem ok_len{t:Tm}(h:t.ok=true):t.xs.length≤10:=by
 simp only[Tm.ok,bb,Bool.not_eq_true']at h
 by_cases h1:(10:Int)<t.xs.length
 rw[decide_eq_true h1]at h
 cases iw t.c<;>simp at h
 omega
theorem se{c:Int}:MQ h1 h2 29 [eI c,bP xs] [] (Plain (mV (ix c xs))):=by
 refine MC.data (jB 32 h1 h2 Tryd.func29 Z fun O hF=>?_)
 have hl:xs.length≤L:=by simpa[As.fact,A.fact,M.fact,D.fact,Ds.fact]using hF.2.1.1
 refine ac (jl Z (js Z (bM (js Z (et Z (js Z (jf [6,5,4,0,1] Z (jn (ag (am (ax (X:=Nat) (fun n=>⟨[(0,eI c),(1,bP xs),(4,.c (.pt 4 0 0)),(6,eI n)],[(4,.box [.d (.int .i64 0),.d .nils])]⟩) (fun n=>n≤xs.length∧bh (xs.take n)=bh xs) (fun n=>n) xs.length (Ent.env ⟨Z,Z,Z,Z,aq⟩) ?_ (fun n hi=>?_))))))))))))
 exact⟨bD _,by rw[List.take_length]⟩
 refine ag (ac (aP Z (jf [12,0,1,4,6] Z (ar 6 Z Z Z (fun hx=>ap hx Z (ap hx Z (bg hx (vF Z) Z (bg hx (vD Z) Z (ap hx Z (ap hx Z (AN.nil))))))) Z Z (aa (aj O Z Z Z Z Z) Z (jf [19,0,1,4,6] Z (jn (ak Z (fun z19=>?_) (fun z19=>?_)))))))))
 refine af (am (ab (js Z (ji Z (js Z (jf [6,19,0,1,4] Z (jn ?_)))))))
 rw[Bool.cond_false_right,bb,decide_eq_true_eq,decide_eq_true_eq]at z19
 obtain⟨k,hk⟩: ∃k,n=k+1:=⟨n-1,by omega⟩
 subst hk
 have hk2:((k+1:Nat):Int)-1=k:=by omega
 rw[hk2]at z19
 refine⟨k,Ent.to ⟨Z,Z,Z,by rw[hk2];rfl,aq⟩ Z,⟨by omega,?_⟩,Nat.lt_succ_self k⟩
 rw[←hi.2,iM (by omega) (by simpa using z19.2)]
 refine aZ (ac (aP Z ?_))
 have hd:bh (xs.take n)=xs.take n:=fP hi.1 (by
  rw[Bool.cond_false_right]at z19
  rcases Nat.eq_zero_or_pos n with h0|h0
  ·
   exact .inl h0
  ·
   refine .inr (fun h9=>?_)
   have e1:((n:Int)-1).toNat=n-1:=by omega
   rw[e1,h9]at z19;simp at z19;omega)
 have ht:=hi.2
 rw[hd]at ht
 refine aa ((bH O Z Z ⟨by omega,by simp;omega⟩).cast (v':=bP (bh xs)) (by rw[←ht];simp[List.map_take])) Z (jf [25,22,19,0,1,4,6] Z (au O Z Z Z Z (rk (xs:=bh xs) h1 h2) (al Z) Z Z Z Z (B0:=27000) Z Z (js Z (jf [27,19,0,1,4,6] Z (jl Z (jo Z (jn (ag (ac (aX O Z Z Z Z (qJ (t:=⟨c,bh xs⟩) h1 h2) (.cons (.c (.pb (cs:=Tm.cells ⟨c,bh xs⟩) Z (bK Z))) .nil) Z Z Z Z Z (B0:=29000) Z (js Z (jn (ak Z (fun z29=>?_) (fun z29=>?_))))))))))))))
 refine ac (js Z (jo Z (js Z (jr ?_))))
 refine az Z ?_
 have hok:(Tm.mk c (bh xs)).ok=false:=by simpa using z29
 rw[show ix c xs=(⟨0,[]⟩,false)from if_neg (by rw[hok];decide)]
 exact .tup (.cons (.agg (.cons .d (.cons .nils .nil))) (.cons (.c .d) .nil))
 refine af (ac (js Z (jo Z (js Z (jr ?_)))))
 refine az Z ?_
 have hok:(Tm.mk c (bh xs)).ok=true:=by simpa using z29
 rw[show ix c xs=(⟨c,bh xs⟩,true)from if_pos hok]
 exact .tup (.cons (.agg (bK Z)) (.cons (.c .d) .nil))
def co(x:Int):Bool:=decide (0≤x)&&decide (x≤1000000)
def mulB(xs:List Int):Bool:=xs.all co&&decide ((xs.length:Int)≤20)
def ndB(n:Nd):Bool:=if n.kind=1 then(decide (n.fact=0)&&n.term.zero)&&mulB n.mul else if n.kind=2 then(decide (n.fact=0)&&n.term.ok)&&decide ((n.mul.length:Int)=0)else if n.kind=3 then(nY 0 19 n.fact&&n.term.zero)&&decide ((n.mul.length:Int)=0)else false
def dl(k:Int):Int:=if k=1 then -1 else if k=2 then 1 else 0
def endK:List Nd→Int→Option Nat
  | [],need=>if need≤0 then some 0 else none
  | s::r,need=>if need≤0 then some 0 else(endK r (need+dl s.kind)).map (· + 1)
def endP(p:List Nd)(k:Nat):Int:=match endK (p.drop k) 1 with
  | some n=>k+n
  | none=> -1
def isB(p:List Nd):Bool:=(decide ((1:Int)≤p.length)&&decide ((p.length:Int)≤60))&&(p.all ndB&&decide (endP p 0=p.length))
def qi(p:List Nd)(k:Nat):Nat→Int×Bool
  | 0=>(-1,false)
  | i+1=>if(p.getD i default).kind=1∨endP p i≤k then qi p k i else(i,decide (i+1=k))
theorem kh{l:List Nd}{n:Int}(h:n≤0):endK l n=some 0:=by cases l<;>simp[endK,h]
theorem gU{n:Int}(h:0<n):endK [] n=none:=by simp[endK];omega
theorem cY{l:List Nd}{n:Int}(h:0<n){k:Nat}(hk:k<l.length):endK (l.drop k) n=(endK (l.drop (k+1)) (n+dl (l.getD k default).kind)).map (· + 1):=by
 rw[List.drop_eq_getElem_cons hk,av hk]
 show(if n≤0 then some 0 else _)=_
 rw[if_neg (by omega)]
theorem sf:MQ h1 h2 101 [bP xs] [] (Plain (eB (mulB xs))):=by
 refine aA ?_ Z
 refine jB 19 h1 h2 Tryd.func101 Z fun O hF=>?_
 have hl:xs.length≤L:=by simpa[As.fact,A.fact,M.fact,D.fact,Ds.fact]using hF.1.1
 refine ac (js Z (jn (ag (ac (js Z (jn (am (ax (X:=Nat) (fun i=>⟨[(0,bP xs),(3,eI i)],[]⟩) (fun i=>i≤xs.length∧∀j (h:j<xs.length),j<i→co xs[j]=true) (fun i=>xs.length-i) 0 (Ent.env ⟨Z,Z,aq⟩) ?_ (fun i hi=>?_)))))))))
 exact⟨dU _,fun j h hj=>absurd hj (Nat.not_lt_zero j)⟩
 refine ag (ac (ae Z ?_))
 first|refine et Z ?_|refine js Z ?_|refine bv Z Z ?_
 refine js Z (jn (ak Z (fun z7=>?_) (fun z7=>?_)))
 try simp only[bj]at z7
 refine af (ag (am (ac (ae Z ?_))))
 first|refine n3 Z Z ?_|refine bv Z Z ?_
 refine js Z (cH Z (qq h1 h2) 15000 Z (js Z (jn (ak Z (fun z15=>?_) (fun z15=>?_)))))
 try simp only[bj]at z15
 refine ac (js Z (jr ?_))
 refine az Z ?_
 rw[Int.toNat_natCast,av (by omega)]at z15
 rw[mulB,gB i (by omega) z15,Bool.false_and]
 try simp only[bj]at z15
 refine af (ab (js Z ?_))
 first|refine ji Z ?_|refine bv Z Z ?_
 refine js Z (jn ?_)
 refine⟨i+1,Ent.env ⟨Z,Z,aq⟩,⟨by omega,fun j h hj=>?_⟩,by omega⟩
 by_cases e:j=i
 subst e;rw[Int.toNat_natCast,av h]at z15;exact z15
 exact hi.2 j h (by omega)
 try simp only[bj]at z7
 refine aZ (ac (js Z ?_))
 first|refine et Z ?_|refine js Z ?_|refine bv Z Z ?_
 refine ae Z (jr ?_)
 refine az Z ?_
 rw[mulB,jg (fun j hj=>hi.2 j hj (by omega)),Bool.true_and]
theorem sm{n:Nd}:MQ h1 h2 83 [ptr n.cells] [] (Plain (eB (ndB n))):=by
 refine aA ?_ Z
 refine jB 69 h1 h2 Tryd.func83 Z fun O hF=>?_
 refine ac (js Z (jn (ag (ac (bn Z (jf [6,2,0] Z (jn (am (ac (ae Z (jn (ak Z (fun z7=>?_) (fun z7=>?_)))))))))))))
 try simp only[bj]at z7
 refine ac (bn Z (ae Z (bA [(14,_),(8,_),(6,_),(2,_),(0,_)] [] ⟨Z,Z,Z,Z,Z,aq⟩ Z (ar 4 Z Z Z (fun hx=>ap hx Z (ap hx Z (ap hx Z (bO O hx Z Z Z Z (qE (t:=n.term) h1 h2) (.cons (.c (.sub Z)) .nil) Z Z Z Z Z Z Z (B0:=19000) Z (AN.nil))))) Z Z ?_))))
 first|refine aa (aj O Z Z Z Z Z) Z ?_|refine aa (ao O Z Z Z Z Z) Z ?_|refine aa (Val.pickB O Z Z Z Z Z) Z ?_
 refine js Z (bA [(20,_),(8,_),(6,_),(2,_),(0,_)] [] ⟨Z,Z,Z,Z,Z,aq⟩ Z (ar 5 Z Z Z (fun hx=>ap hx Z (ap hx Z (ap hx Z (ap hx Z (bO O hx Z Z Z Z (sf h1 h2) (al Z) Z Z Z Z Z Z Z (B0:=26000) Z (AN.nil)))))) Z Z ?_))
 first|refine aa (aj O Z Z Z Z Z) Z ?_|refine aa (ao O Z Z Z Z Z) Z ?_|refine aa (Val.pickB O Z Z Z Z Z) Z ?_
 refine js Z (jf [2,8,6,0] Z (jr ?_))
 refine az Z ?_
 rw[Bool.cond_false_right,Bool.cond_false_right,ndB,if_pos z7]
 try simp only[bj]at z7
 refine ac (ae Z (jf [27,8,6,2,0] Z (jn (ak Z (fun z27=>?_) (fun z27=>?_)))))
 try simp only[bj]at z27
 refine ac (bn Z (ae Z (bA [(34,_),(8,_),(6,_),(2,_),(0,_)] [] ⟨Z,Z,Z,Z,Z,aq⟩ Z (ar 4 Z Z Z (fun hx=>ap hx Z (ap hx Z (ap hx Z (bO O hx Z Z Z Z (qJ (t:=n.term) h1 h2) (.cons (.c (.sub Z)) .nil) Z Z Z Z Z Z Z (B0:=39000) Z (AN.nil))))) Z Z ?_))))
 first|refine aa (aj O Z Z Z Z Z) Z ?_|refine aa (ao O Z Z Z Z Z) Z ?_|refine aa (Val.pickB O Z Z Z Z Z) Z ?_
 refine js Z (bA [(40,_),(8,_),(6,_),(2,_),(0,_)] [] ⟨Z,Z,Z,Z,Z,aq⟩ Z (ar 6 Z Z Z (fun hx=>ap hx Z (ap hx Z (ap hx Z (ap hx Z (bg hx (ck O Z Z Z Z Z Z Z Z) Z (ap hx Z (AN.nil))))))) Z Z ?_))
 first|refine aa (aj O Z Z Z Z Z) Z ?_|refine aa (ao O Z Z Z Z Z) Z ?_|refine aa (Val.pickB O Z Z Z Z Z) Z ?_
 refine js Z (jf [2,8,6,0] Z (jr ?_))
 refine az Z ?_
 rw[Bool.cond_false_right,Bool.cond_false_right,ndB,if_neg z7,if_pos z27]
 try simp only[bj]at z27
 refine ac (ae Z (jf [48,8,6,2,0] Z (jn (ak Z (fun z48=>?_) (fun z48=>?_)))))
 try simp only[bj]at z48
 refine ac (bn Z (bA [(53,_),(8,_),(6,_),(2,_),(0,_)] [] ⟨Z,Z,Z,Z,Z,aq⟩ Z (cH Z (qq h1 h2) 55000 Z (js Z (bA [(55,_),(8,_),(6,_),(2,_),(0,_)] [] ⟨Z,Z,Z,Z,Z,aq⟩ Z (ar 4 Z Z Z (fun hx=>ap hx Z (ap hx Z (ap hx Z (bO O hx Z Z Z Z (qE (t:=n.term) h1 h2) (.cons (.c (.sub Z)) .nil) Z Z Z Z Z Z Z (B0:=60000) Z (AN.nil))))) Z Z ?_))))))
 first|refine aa (aj O Z Z Z Z Z) Z ?_|refine aa (ao O Z Z Z Z Z) Z ?_|refine aa (Val.pickB O Z Z Z Z Z) Z ?_
 refine js Z (bA [(61,_),(8,_),(6,_),(2,_),(0,_)] [] ⟨Z,Z,Z,Z,Z,aq⟩ Z (ar 6 Z Z Z (fun hx=>ap hx Z (ap hx Z (ap hx Z (ap hx Z (bg hx (ck O Z Z Z Z Z Z Z Z) Z (ap hx Z (AN.nil))))))) Z Z ?_))
 first|refine aa (aj O Z Z Z Z Z) Z ?_|refine aa (ao O Z Z Z Z Z) Z ?_|refine aa (Val.pickB O Z Z Z Z Z) Z ?_
 refine js Z (jf [2,8,6,0] Z (jr ?_))
 refine az Z ?_
 rw[Bool.cond_false_right,Bool.cond_false_right,ndB,if_neg z7,if_neg z27,if_pos z48];rfl
 try simp only[bj]at z48
 refine af (ac (js Z (jr ?_)))
 refine az Z ?_
 rw[ndB,if_neg z7,if_neg z27,if_neg z48]
variable{p:List Nd}
theorem sl{k:Nat}(hk:k≤p.length):MQ h1 h2 84 [dp p,eI k] [] (Plain (eI (endP p k))):=by
 refine aA ?_ Z
 refine jB 28 h1 h2 Tryd.func84 Z fun O hF=>?_
 have hl:p.length≤L:=by simpa[As.fact,A.fact,M.fact,D.fact,Ds.fact]using hF.1.1
 refine ac (js Z (bM (js Z (jn (ag (am (ax (X:=Int×Nat) (fun x=>⟨[(0,dp p),(1,eI (k+x.2)),(5,eI x.1)],[]⟩) (fun x=>k+x.2≤p.length∧(endK (p.drop k) 1=(endK (p.drop (k+x.2)) x.1).map (· + x.2))∧0≤x.1∧x.1≤x.2+1) (fun x=>p.length-(k+x.2)) (1,0) (Ent.env ⟨Z,by simp[bi,ah],Z,aq⟩) ?_ (fun x hi=>?_))))))))
 exact⟨hk,by simp,by decide,by decide⟩
 refine ag (ac (ae Z (jn (ak Z (fun z7=>?_) (fun z7=>?_)))))
 try simp only[bj]at z7
 refine af (am (ag (ac (ae Z ?_))))
 first|refine et Z ?_|refine js Z ?_|refine bv Z Z ?_
 refine js Z (jn (ak Z (fun z11=>?_) (fun z11=>?_)))
 try simp only[bj]at z11
 refine ac (js Z (jr ?_))
 refine az Z ?_
 have e:k+x.2=p.length:=by omega
 rw[endP,hi.2.1,List.drop_of_length_le (by omega),gU z7];rfl
 try simp only[bj]at z11
 refine af (ag (ac (ae Z ?_)))
 first|refine n3 Z Z ?_|refine bv Z Z ?_
 refine ae Z (jn (am (ac (ae Z (jn (ak Z (fun z17=>?_) (fun z17=>?_)))))))
 try simp only[bj]at z17
 refine ab (js Z ?_)
 first|refine ji Z ?_|refine bv Z Z ?_
 refine js Z (jn (ab (js Z ?_)))
 first|refine ji Z ?_|refine bv Z Z ?_
 refine js Z (jn ?_)
 have e1:((k:Int)+x.2).toNat=k+x.2:=by omega
 rw[e1]at z17
 have hk2:k+x.2<p.length:=by omega
 have e:=cY z7 hk2
 rw[e,Option.map_map]at hi
 rw[show dl (p.getD (k+x.2) default).kind=(-1) by unfold dl;rw[if_pos z17]]at hi
 refine⟨(x.1+(-1),x.2+1),Ent.env ⟨Z,?_,?_,aq⟩,⟨by show k+(x.2+1)≤_;omega,?_,?_,?_⟩,by show p.length-(k+(x.2+1))<_;omega⟩
 exact congrArg (fun z=>some (eI z)) (by show(k:Int)+x.2+1=k+(x.2+1:Nat);omega)
 exact congrArg (fun z=>some (eI z)) (by first|rfl|(show(x.1:Int)-1=x.1+ -1;omega)|(show(x.1:Int)=x.1+0;omega))
 rw[hi.2.1];exact congrArg (fun f=>Option.map f _) (funext fun n=>by show n+1+x.2=n+(x.2+1);omega)
 show 0≤x.1+(-1);omega
 show x.1+(-1)≤(x.2+1:Nat)+1;omega
 try simp only[bj]at z17
 refine ac (ae Z (jn (ak Z (fun z21=>?_) (fun z21=>?_))))
 try simp only[bj]at z21
 refine ab (js Z ?_)
 first|refine ji Z ?_|refine bv Z Z ?_
 refine js Z (jn (ab (js Z ?_)))
 first|refine ji Z ?_|refine bv Z Z ?_
 refine js Z (jn ?_)
 have e1:((k:Int)+x.2).toNat=k+x.2:=by omega
 rw[e1]at z17 z21
 have hk2:k+x.2<p.length:=by omega
 have e:=cY z7 hk2
 rw[e,Option.map_map]at hi
 rw[show dl (p.getD (k+x.2) default).kind=1 by unfold dl;rw[if_neg z17,if_pos z21]]at hi
 refine⟨(x.1+1,x.2+1),Ent.env ⟨Z,?_,?_,aq⟩,⟨by show k+(x.2+1)≤_;omega,?_,?_,?_⟩,by show p.length-(k+(x.2+1))<_;omega⟩
 exact congrArg (fun z=>some (eI z)) (by show(k:Int)+x.2+1=k+(x.2+1:Nat);omega)
 exact congrArg (fun z=>some (eI z)) (by first|rfl|(show(x.1:Int)-1=x.1+ -1;omega)|(show(x.1:Int)=x.1+0;omega))
 rw[hi.2.1];exact congrArg (fun f=>Option.map f _) (funext fun n=>by show n+1+x.2=n+(x.2+1);omega)
 show 0≤x.1+1;omega
 show x.1+1≤(x.2+1:Nat)+1;omega
 try simp only[bj]at z21
 refine af (ab (js Z ?_))
 first|refine ji Z ?_|refine bv Z Z ?_
 refine js Z (jn ?_)
 have e1:((k:Int)+x.2).toNat=k+x.2:=by omega
 rw[e1]at z17 z21
 have hk2:k+x.2<p.length:=by omega
 have e:=cY z7 hk2
 rw[e,Option.map_map]at hi
 rw[show dl (p.getD (k+x.2) default).kind=0 by unfold dl;rw[if_neg z17,if_neg z21]]at hi
 refine⟨(x.1+0,x.2+1),Ent.env ⟨Z,?_,?_,aq⟩,⟨by show k+(x.2+1)≤_;omega,?_,?_,?_⟩,by show p.length-(k+(x.2+1))<_;omega⟩
 exact congrArg (fun z=>some (eI z)) (by show(k:Int)+x.2+1=k+(x.2+1:Nat);omega)
 exact congrArg (fun z=>some (eI z)) (by first|rfl|(show(x.1:Int)-1=x.1+ -1;omega)|(show(x.1:Int)=x.1+0;omega))
 rw[hi.2.1];exact congrArg (fun f=>Option.map f _) (funext fun n=>by show n+1+x.2=n+(x.2+1);omega)
 show 0≤x.1+0;omega
 show x.1+0≤(x.2+1:Nat)+1;omega
 try simp only[bj]at z7
 refine aZ (ac (ae Z (jr ?_)))
 refine az Z ?_
 rw[endP,hi.2.1,kh z7];exact congrArg eI (by show(k:Int)+x.2=k+(0+x.2:Nat);omega)
theorem c83:MQ h1 h2 55 [dp p] [] (Plain (eB (isB p))):=by
 refine aA ?_ Z
 refine jB 24 h1 h2 Tryd.func55 Z fun O hF=>?_
 have hl:p.length≤L:=by simpa[As.fact,A.fact,M.fact,D.fact,Ds.fact]using hF.1.1
 refine ac (js Z (jn (ag (ac (js Z ?_)))))
 first|refine et Z ?_|refine js Z ?_|refine bv Z Z ?_
 refine cH Z (qq h1 h2) 7000 Z (js Z (jn (ak Z (fun z7=>?_) (fun z7=>?_))))
 try simp only[bj]at z7
 refine ac (js Z (jr ?_))
 refine az Z ?_
 rw[isB,show(decide ((1:Int)≤p.length)&&decide ((p.length:Int)≤60))=false from z7,Bool.false_and]
 try simp only[bj]at z7
 refine af (ag (ac (js Z (jn (am (ax (X:=Nat) (fun i=>⟨[(0,dp p),(3,eI i)],[]⟩) (fun i=>i≤p.length∧∀j (h:j<p.length),j<i→ndB p[j]=true) (fun i=>p.length-i) 0 (Ent.env ⟨Z,Z,aq⟩) ?_ (fun i hi=>?_)))))))
 exact⟨dU _,fun j h hj=>absurd hj (Nat.not_lt_zero j)⟩
 refine ag (ac (ae Z ?_))
 first|refine et Z ?_|refine js Z ?_|refine bv Z Z ?_
 refine js Z (jn (ak Z (fun z11=>?_) (fun z11=>?_)))
 try simp only[bj]at z11
 refine af (ag (am (ac (ae Z ?_))))
 first|refine n3 Z Z ?_|refine bv Z Z ?_
 refine cH Z (sm h1 h2) 18000 Z (js Z (jn (ak Z (fun z18=>?_) (fun z18=>?_))))
 try simp only[bj]at z18
 refine ac (js Z (jr ?_))
 refine az Z ?_
 rw[Int.toNat_natCast,av (by omega)]at z18
 rw[isB,gB i (by omega) z18,Bool.false_and,Bool.and_false]
 try simp only[bj]at z18
 refine af (ab (js Z ?_))
 first|refine ji Z ?_|refine bv Z Z ?_
 refine js Z (jn ?_)
 refine⟨i+1,Ent.env ⟨Z,Z,aq⟩,⟨by omega,fun j h hj=>?_⟩,by omega⟩
 by_cases e:j=i
 subst e;rw[Int.toNat_natCast,av h]at z18;exact z18
 exact hi.2 j h (by omega)
 try simp only[bj]at z11
 refine aZ (ac (js Z (cH Z (sl (p:=p) (k:=0) h1 h2 (dU _)) 21000 Z (js Z ?_))))
 first|refine et Z ?_|refine js Z ?_|refine bv Z Z ?_
 refine ae Z (jr ?_)
 refine az Z ?_
 rw[isB,show(decide ((1:Int)≤p.length)&&decide ((p.length:Int)≤60))=true from z7,jg (fun j hj=>hi.2 j hj (by omega)),Bool.true_and,Bool.true_and]
def mR(xs:List Int):Nat:=xs.foldl (fun g x=>Nat.gcd g x.natAbs) 0
def mx(a b:Int):Int:=if a>b then a else b
def mY(t:Tm):Tm×Bool:=if mR t.xs<2 then(⟨0,[]⟩,false)else
  ix (if t.c.tmod (mR t.xs)<0 then t.c.tdiv (mR t.xs)-1 else t.c.tdiv (mR t.xs)) (t.xs.map fun x=>x.tdiv (mR t.xs))
def p9(n:Nd)(ctx:List Tm)(first:Bool):List Tm:=if n.kind=3 then ctx++[(mY (ctx.getD n.fact.toNat default)).1]else if first=true then ctx++[n.term]else ctx++[(qy n.term).1]
def l9(f:Tm→Int):List Tm→List Int→Int
  | t::ts,m::ms=>m*f t+l9 f ts ms
  | _,_=>0
abbrev pw(k:Nat):Tm→Int:=fun t=>t.xs.getD k 0
def rh(ts:List Tm)(ms:List Int):List Int:=(List.range 10).map fun k=>l9 (pw k) ts ms
def oF(ctx:List Tm)(ms:List Int):Bool:=decide (ctx.length=ms.length)&&((rh ctx ms).all (fun x=>decide (x=0))&&decide (l9 Tm.c ctx ms<0))
def nb(n:Nd)(ctx:List Tm):Bool:=if n.kind=1 then oF ctx n.mul else if 20≤ctx.length then false else if n.kind=2 then(qy n.term).2 else if n.fact≥ctx.length then false else(mY (ctx.getD n.fact.toNat default)).2

theorem sb{a b:Int}:MQ h1 h2 75 [eI a,eI b] [] (Plain (eI (mx a b))):=by
 refine aA ?_ Z
 refine jB 10 h1 h2 Tryd.func75 Z fun O hF=>?_
 refine ac (js Z (jn (ag (ac (aP Z (jn (ak Z (fun z7=>?_) (fun z7=>?_))))))))
 try simp only[bj]at z7
 refine ac (ae Z (jr ?_))
 refine az Z ?_
 rw[mx,if_pos z7]
 try simp only[bj]at z7
 refine af (ac (ae Z (jr ?_)))
 refine az Z ?_
 rw[mx,if_neg (by omega)]
def qx(ts:List Tm)(ms:List Int)(i j:Nat):List Int:=(List.range 10).map fun k=>l9 (pw k) (ts.take i) (ms.take i)+(if k<j then ms.getD i default*(ts.getD i default).xs.getD k 0 else 0)
structure CtxOk(ctx:List Tm):Prop where
  ok: ∀t∈ctx,t.ok=true
  len:ctx.length≤1000
end Go.Al
