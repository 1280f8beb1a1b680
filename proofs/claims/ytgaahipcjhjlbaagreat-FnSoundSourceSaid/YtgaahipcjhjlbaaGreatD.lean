/- Contracts of the functions that copy, compare, mark and measure. Programs and their validity; the reference's functions for terms. -/
import Derived.Test.YtgaahipcjhjlbaaGreatProg
import Derived.Test.YtgaahipcjhjlbaaGreatC
set_option linter.unusedVariables false
set_option linter.unusedSimpArgs false
set_option maxRecDepth 10000
open Go.Proofs
/- The table of the types that the functions of this seat use, and its proof. -/
namespace Go.Al
variable{L:Nat}(h1:4096≤L)(h2:L≤1073741824)
def tt:List (Nat×TI):=[
  (2,⟨4,false,0,1,8,[.int .i64 0],[]⟩),
  (3,⟨4,false,0,1,8,[.int .i64 0],[]⟩),
  (4,⟨5,false,0,1,1,[.bool false],[]⟩),
  (5,⟨4,false,0,1,1,[.int .u8 0],[]⟩),
  (22,⟨1,false,5,1,24,[.nils],[]⟩),
  (24,⟨1,false,44,1,24,[.nils],[]⟩),
  (25,⟨1,false,56,1,24,[.nils],[]⟩),
  (27,⟨3,true,0,3,72,[.nils,.nils,.nils],[(0,1),(1,1),(2,1)]⟩),
  (29,⟨1,false,2,1,24,[.nils],[]⟩),
  (31,⟨3,true,0,2,48,[.nils,.nils],[(0,1),(1,1)]⟩),
  (33,⟨1,false,39,1,24,[.nils],[]⟩),
  (39,⟨3,true,0,5,88,[.int .i64 0,.int .i64 0,.nils,.nils,.nils],[(0,1),(1,1),(2,1),(3,1),(4,1)]⟩),
  (44,⟨3,true,0,2,32,[.int .i64 0,.nils],[(0,1),(1,1)]⟩),
  (45,⟨1,false,93,1,24,[.nils],[]⟩),
  (48,⟨1,false,95,1,24,[.nils],[]⟩),
  (56,⟨3,true,0,8,112,[.int .i64 0,.int .i64 0,.int .i64 0,.int .i64 0,.nils,.int .i64 0,.nils,.nils],[(0,1),(1,1),(2,1),(3,2),(5,2),(7,1)]⟩),
  (63,⟨6,false,0,1,8,[.nilp],[]⟩),
  (66,⟨1,false,24,1,24,[.nils],[]⟩),
  (68,⟨3,true,0,5,104,[.nils,.nils,.nils,.nils,.bool false],[(0,1),(1,1),(2,1),(3,1),(4,1)]⟩),
  (69,⟨6,false,0,1,8,[.nilp],[]⟩),
  (70,⟨1,false,69,1,24,[.nils],[]⟩),
  (71,⟨1,false,145,1,24,[.nils],[]⟩),
  (72,⟨8,false,0,1,8,[.nilm],[]⟩),
  (74,⟨3,true,0,9,168,[.nils,.nils,.nils,.nils,.bool false,.nilp,.nils,.nils,.nilm],[(0,5),(5,1),(6,1),(7,1),(8,1)]⟩),
  (76,⟨6,false,0,1,8,[.nilp],[]⟩),
  (83,⟨3,true,0,6,96,[.nils,.nils,.nils,.int .i64 0,.int .i64 0,.int .i64 0],[(0,2),(2,1),(3,1),(4,1),(5,1)]⟩),
  (93,⟨3,true,0,3,56,[.nils,.int .i64 0,.nils],[(0,1),(1,2)]⟩),
  (95,⟨1,false,183,1,24,[.nils],[]⟩),
  (96,⟨4,false,0,1,8,[.int .u64 0],[]⟩),
  (98,⟨3,true,0,3,40,[.nils,.int .i64 0,.int .u64 0],[(0,1),(1,1),(2,1)]⟩),
  (114,⟨1,false,160,1,24,[.nils],[]⟩),
  (116,⟨3,true,0,6,96,[.nilp,.nils,.int .i64 0,.nils,.nils,.bool false],[(0,1),(1,1),(2,1),(3,1),(4,1),(5,1)]⟩),
  (136,⟨8,false,0,1,8,[.nilm],[]⟩),
  (138,⟨3,true,0,3,40,[.nils,.nilm,.int .i64 0],[(0,1),(1,1),(2,1)]⟩),
  (142,⟨3,true,0,6,112,[.int .i64 0,.nils,.nils,.nils,.nils,.int .i64 0],[(0,1),(1,1),(2,1),(3,1),(4,1),(5,1)]⟩),
  (145,⟨6,false,0,1,8,[.nilp],[]⟩),
  (147,⟨3,true,0,3,24,[.nilp,.int .i64 0,.nilp],[(0,1),(1,1),(2,1)]⟩),
  (152,⟨3,true,0,10,144,[.int .i64 0,.int .i64 0,.int .i64 0,.int .i64 0,.nils,.int .i64 0,.nils,.nils,.int .i64 0,.nils],[(0,8),(8,1),(9,1)]⟩),
  (160,⟨3,true,0,3,24,[.int .i64 0,.int .i64 0,.int .i64 0],[(0,1),(1,1),(2,1)]⟩),
  (164,⟨3,true,0,4,80,[.nils,.int .i64 0,.nils,.nils],[(0,1),(1,1),(2,1),(3,1)]⟩),
  (176,⟨3,true,0,3,40,[.int .i64 0,.nils,.bool false],[(0,1),(1,1),(2,1)]⟩),
  (183,⟨3,true,0,5,72,[.int .i64 0,.int .i64 0,.int .i64 0,.nils,.nils],[(0,1),(1,1),(2,2),(4,1)]⟩),
  (217,⟨3,true,0,3,56,[.int .i64 0,.nils,.nils],[(0,2),(2,1)]⟩),
  (222,⟨1,false,226,1,24,[.nils],[]⟩),
  (226,⟨3,true,0,3,56,[.int .i64 0,.nils,.nils],[(0,1),(1,1),(2,1)]⟩),
  (241,⟨1,false,217,1,24,[.nils],[]⟩),
  (244,⟨1,false,3,1,24,[.nils],[]⟩)
]
theorem tt2:TIok Tryz.prog 2 ⟨4,false,0,1,8,[.int .i64 0],[]⟩:=(by constructor<;>kernel_rfl)
theorem tt3:TIok Tryz.prog 3 ⟨4,false,0,1,8,[.int .i64 0],[]⟩:=(by constructor<;>kernel_rfl)
theorem tt4:TIok Tryz.prog 4 ⟨5,false,0,1,1,[.bool false],[]⟩:=(by constructor<;>kernel_rfl)
theorem tt5:TIok Tryz.prog 5 ⟨4,false,0,1,1,[.int .u8 0],[]⟩:=(by constructor<;>kernel_rfl)
theorem JG:TIok Tryz.prog 22 ⟨1,false,5,1,24,[.nils],[]⟩:=(by constructor<;>kernel_rfl)
theorem JF:TIok Tryz.prog 24 ⟨1,false,44,1,24,[.nils],[]⟩:=(by constructor<;>kernel_rfl)
theorem JE:TIok Tryz.prog 25 ⟨1,false,56,1,24,[.nils],[]⟩:=(by constructor<;>kernel_rfl)
theorem JD:TIok Tryz.prog 27 ⟨3,true,0,3,72,[.nils,.nils,.nils],[(0,1),(1,1),(2,1)]⟩:=(by constructor<;>kernel_rfl)
theorem JC:TIok Tryz.prog 29 ⟨1,false,2,1,24,[.nils],[]⟩:=(by constructor<;>kernel_rfl)
theorem JB:TIok Tryz.prog 31 ⟨3,true,0,2,48,[.nils,.nils],[(0,1),(1,1)]⟩:=(by constructor<;>kernel_rfl)
theorem JA:TIok Tryz.prog 33 ⟨1,false,39,1,24,[.nils],[]⟩:=(by constructor<;>kernel_rfl)
theorem Jz:TIok Tryz.prog 39 ⟨3,true,0,5,88,[.int .i64 0,.int .i64 0,.nils,.nils,.nils],[(0,1),(1,1),(2,1),(3,1),(4,1)]⟩:=(by constructor<;>kernel_rfl)
theorem Jy:TIok Tryz.prog 44 ⟨3,true,0,2,32,[.int .i64 0,.nils],[(0,1),(1,1)]⟩:=(by constructor<;>kernel_rfl)
theorem Jx:TIok Tryz.prog 45 ⟨1,false,93,1,24,[.nils],[]⟩:=(by constructor<;>kernel_rfl)
theorem Jw:TIok Tryz.prog 48 ⟨1,false,95,1,24,[.nils],[]⟩:=(by constructor<;>kernel_rfl)
theorem Jv:TIok Tryz.prog 56 ⟨3,true,0,8,112,[.int .i64 0,.int .i64 0,.int .i64 0,.int .i64 0,.nils,.int .i64 0,.nils,.nils],[(0,1),(1,1),(2,1),(3,2),(5,2),(7,1)]⟩:=(by constructor<;>kernel_rfl)
theorem Ju:TIok Tryz.prog 63 ⟨6,false,0,1,8,[.nilp],[]⟩:=(by constructor<;>kernel_rfl)
theorem Jt:TIok Tryz.prog 66 ⟨1,false,24,1,24,[.nils],[]⟩:=(by constructor<;>kernel_rfl)
theorem Js:TIok Tryz.prog 68 ⟨3,true,0,5,104,[.nils,.nils,.nils,.nils,.bool false],[(0,1),(1,1),(2,1),(3,1),(4,1)]⟩:=(by constructor<;>kernel_rfl)
theorem Jr:TIok Tryz.prog 69 ⟨6,false,0,1,8,[.nilp],[]⟩:=(by constructor<;>kernel_rfl)
theorem Jq:TIok Tryz.prog 70 ⟨1,false,69,1,24,[.nils],[]⟩:=(by constructor<;>kernel_rfl)
theorem Jp:TIok Tryz.prog 71 ⟨1,false,145,1,24,[.nils],[]⟩:=(by constructor<;>kernel_rfl)
theorem Jo:TIok Tryz.prog 72 ⟨8,false,0,1,8,[.nilm],[]⟩:=(by constructor<;>kernel_rfl)
theorem Jn:TIok Tryz.prog 74 ⟨3,true,0,9,168,[.nils,.nils,.nils,.nils,.bool false,.nilp,.nils,.nils,.nilm],[(0,5),(5,1),(6,1),(7,1),(8,1)]⟩:=(by constructor<;>kernel_rfl)
theorem Jm:TIok Tryz.prog 76 ⟨6,false,0,1,8,[.nilp],[]⟩:=(by constructor<;>kernel_rfl)
theorem Jl:TIok Tryz.prog 83 ⟨3,true,0,6,96,[.nils,.nils,.nils,.int .i64 0,.int .i64 0,.int .i64 0],[(0,2),(2,1),(3,1),(4,1),(5,1)]⟩:=(by constructor<;>kernel_rfl)
theorem Jk:TIok Tryz.prog 93 ⟨3,true,0,3,56,[.nils,.int .i64 0,.nils],[(0,1),(1,2)]⟩:=(by constructor<;>kernel_rfl)
theorem Jj:TIok Tryz.prog 95 ⟨1,false,183,1,24,[.nils],[]⟩:=(by constructor<;>kernel_rfl)
theorem Ji:TIok Tryz.prog 96 ⟨4,false,0,1,8,[.int .u64 0],[]⟩:=(by constructor<;>kernel_rfl)
theorem Jh:TIok Tryz.prog 98 ⟨3,true,0,3,40,[.nils,.int .i64 0,.int .u64 0],[(0,1),(1,1),(2,1)]⟩:=(by constructor<;>kernel_rfl)
theorem HJ:TIok Tryz.prog 114 ⟨1,false,160,1,24,[.nils],[]⟩:=(by constructor<;>kernel_rfl)
theorem HI:TIok Tryz.prog 116 ⟨3,true,0,6,96,[.nilp,.nils,.int .i64 0,.nils,.nils,.bool false],[(0,1),(1,1),(2,1),(3,1),(4,1),(5,1)]⟩:=(by constructor<;>kernel_rfl)
theorem HH:TIok Tryz.prog 136 ⟨8,false,0,1,8,[.nilm],[]⟩:=(by constructor<;>kernel_rfl)
theorem HG:TIok Tryz.prog 138 ⟨3,true,0,3,40,[.nils,.nilm,.int .i64 0],[(0,1),(1,1),(2,1)]⟩:=(by constructor<;>kernel_rfl)
theorem HF:TIok Tryz.prog 142 ⟨3,true,0,6,112,[.int .i64 0,.nils,.nils,.nils,.nils,.int .i64 0],[(0,1),(1,1),(2,1),(3,1),(4,1),(5,1)]⟩:=(by constructor<;>kernel_rfl)
theorem HE:TIok Tryz.prog 145 ⟨6,false,0,1,8,[.nilp],[]⟩:=(by constructor<;>kernel_rfl)
theorem HD:TIok Tryz.prog 147 ⟨3,true,0,3,24,[.nilp,.int .i64 0,.nilp],[(0,1),(1,1),(2,1)]⟩:=(by constructor<;>kernel_rfl)
theorem HC:TIok Tryz.prog 152 ⟨3,true,0,10,144,[.int .i64 0,.int .i64 0,.int .i64 0,.int .i64 0,.nils,.int .i64 0,.nils,.nils,.int .i64 0,.nils],[(0,8),(8,1),(9,1)]⟩:=(by constructor<;>kernel_rfl)
theorem HA:TIok Tryz.prog 160 ⟨3,true,0,3,24,[.int .i64 0,.int .i64 0,.int .i64 0],[(0,1),(1,1),(2,1)]⟩:=(by constructor<;>kernel_rfl)
theorem Hz:TIok Tryz.prog 164 ⟨3,true,0,4,80,[.nils,.int .i64 0,.nils,.nils],[(0,1),(1,1),(2,1),(3,1)]⟩:=(by constructor<;>kernel_rfl)
theorem Hy:TIok Tryz.prog 176 ⟨3,true,0,3,40,[.int .i64 0,.nils,.bool false],[(0,1),(1,1),(2,1)]⟩:=(by constructor<;>kernel_rfl)
theorem Hx:TIok Tryz.prog 183 ⟨3,true,0,5,72,[.int .i64 0,.int .i64 0,.int .i64 0,.nils,.nils],[(0,1),(1,1),(2,2),(4,1)]⟩:=(by constructor<;>kernel_rfl)
theorem Hw:TIok Tryz.prog 217 ⟨3,true,0,3,56,[.int .i64 0,.nils,.nils],[(0,2),(2,1)]⟩:=(by constructor<;>kernel_rfl)
theorem Hv:TIok Tryz.prog 222 ⟨1,false,226,1,24,[.nils],[]⟩:=(by constructor<;>kernel_rfl)
theorem Hu:TIok Tryz.prog 226 ⟨3,true,0,3,56,[.int .i64 0,.nils,.nils],[(0,1),(1,1),(2,1)]⟩:=(by constructor<;>kernel_rfl)
theorem Ht:TIok Tryz.prog 241 ⟨1,false,217,1,24,[.nils],[]⟩:=(by constructor<;>kernel_rfl)
theorem Hr:TIok Tryz.prog 244 ⟨1,false,3,1,24,[.nils],[]⟩:=(by constructor<;>kernel_rfl)
theorem Hq:TTok Tryz.prog tt:=⟨tt2,tt3,tt4,tt5,JG,JF,JE,JD,JC,JB,JA,Jz,Jy,Jx,Jw,Jv,Ju,Jt,Js,Jr,Jq,Jp,Jo,Jn,Jm,Jl,Jk,Jj,Ji,Jh,HJ,HI,HH,HG,HF,HE,HD,HC,HA,Hz,Hy,Hx,Hw,Hv,Hu,Ht,Hr,ap⟩
theorem AP:TTplain tt=true:=by kernel_rfl
theorem Eu:Tryz.prog.follows .mixedOrders=true:=by kernel_rfl
theorem ae{σ:Sg}{Q:Exit→St→Prop}{s:St}{id:Nat}{l:List Oper}{y:Code}(h:AOps σ l.toArray (oL (AWP σ y Q) Q) l s):AWP σ (.seq (.region id l.toArray false) y) Q s:=AWP.seq (AWP.region h)
theorem jn{σ:Sg}{Q:Exit→St→Prop}{s:St}{all:Array Oper}(h:Q .normal s):AOps σ all Q [] s:=AOps.nil h
theorem ba{σ:Sg}{Q:Exit→St→Prop}{s:St}{all:Array Oper}{id:Nat}{l:List Oper}{y:Code}(h:AOps σ l.toArray (oL (AWP σ y Q) Q) l s):AOps σ all (oL (AWP σ (.seq (.region id l.toArray false) y) Q) Q) [] s:=AOps.nil (AWP.seq (AWP.region h))
theorem bG:(∀{α β:Type} {f:α→β} {l:List α},(l.map f).length=l.length)∧(∀{α:Type} [BEq α] [LawfulBEq α] {a b:α},(a==b)=true↔a=b)∧(∀{p:Prop} [Decidable p],(decide p=true)=p)∧(∀{p:Prop} [Decidable p],(decide p=false)↔¬p)∧(∀{b:Bool},((!b)=true)=(b=false))∧(∀{b:Bool},((!b)=false)=(b=true))∧((!true)=false)∧((!false)=true)∧(∀{a b:Int},¬a<b↔b≤a)∧(∀{a b:Int},¬a≤b↔b<a):=by
 refine⟨?_,?_,?_,?_,?_,?_,?_,?_,?_,?_⟩<;>intros<;>simp
theorem aq{σ:Sg}{Q:df}{all:Array Oper}{l:List Oper}{e:List (Nat×A)}{H H':List (Nat×B)}(K:AOps σ all Q l ⟨e,H'⟩)(h:HN H H':=by repeat' (first|apply HN.cons rfl|exact HN.nil rfl|exact BN.row rfl|exact BN.map rfl|apply BN.box rfl|apply MN.cons rfl|exact MN.nil rfl|exact XN.d rfl|exact XN.rs rfl|exact pU)):AOps σ all Q l ⟨e,H⟩:=zc h K
theorem b0{σ:Sg}{Q:Exit→St→Prop}{c:Code}{e:List (Nat×A)}{H H':List (Nat×B)}(K:AWP σ c Q ⟨e,H'⟩)(h:HN H H':=by repeat' (first|apply HN.cons rfl|exact HN.nil rfl|exact BN.row rfl|exact BN.map rfl|apply BN.box rfl|apply MN.cons rfl|exact MN.nil rfl|exact XN.d rfl|exact XN.rs rfl|exact pU)):AWP σ c Q ⟨e,H⟩:=BQ h K
def GM(e:List (Nat×A)):List Nat→Option (List (Nat×A))
  | []=>some []
  | k :: ks=>match lk e k,GM e ks with
    | some v,some r=>some ((k,v)::r)
    | _,_=>none
theorem tD{e:List (Nat×A)}: ∀{ks:List Nat} {e':List (Nat×A)},GM e ks=some e'→envSub e e'
 | [],e',h=>by cases h;trivial
 | k::ks,e',h=>by
  unfold GM at h
  split at h
  rename_i v r h1 h2
  cases h
  exact⟨h1,tD h2⟩
  cases h
theorem jf{σ:Sg}{Q:Exit→St→Prop}{all:Array Oper}{l:List Oper}{e e':List (Nat×A)}{H:List (Nat×B)}(ks:List Nat)(h:GM e ks=some e')(K:AOps σ all Q l ⟨e',H⟩):AOps σ all Q l ⟨e,H⟩:=vA e' (tD h) K
theorem jw{σ:Sg}{Q:Exit→St→Prop}{c:Code}{e e':List (Nat×A)}{H:List (Nat×B)}(ks:List Nat)(h:GM e ks=some e')(K:AWP σ c Q ⟨e',H⟩):AWP σ c Q ⟨e,H⟩:=wY e' (tD h) K


noncomputable abbrev SG(L nt:Nat):Sg:=⟨Tryz.prog,tt,L,nt,[]⟩
theorem Cn{L nt}(h1:4096≤L)(h2:L≤9223372036854775807):SgOk (SG L nt):=⟨Hq,AP,h1,h2,Eu⟩
theorem jB{L f:Nat}{fn:Func}{c:Code}{args:List A}{Q:A→List (Nat×B)→Prop}(nt:Nat)(h1:4096≤L)(h2:L≤1073741824)(hf:Tryz.prog.funcs[f]? = some fn)(hz:(fn.body,fn.ntmps,Nat.ble args.length nt)=(some c,nt,true))(h:SgOk (SG L nt)→As.fact L args→AWP (SG L nt) c (fun e s=>(e= .ret∨e= .normal)∧∃s2,Ent (SG L nt) s s2∧∃res,fY tt s2 fn.results.toList=some res∧Q res s2.H) ⟨dR 0 args,[]⟩)(hn:(fn.name== "runtime.NumGoroutine")=false:=by kernel_rfl):MC Tryz.prog L f args [] Q:=have hσ:=Cn (nt:=nt) h1 (Nat.le_trans h2 (by decide));have hz:=Prod.mk.inj hz;have hy:=Prod.mk.inj hz.2;MC.body hσ hf hn hz.1 hy.1 (Nat.le_of_ble_eq_true hy.2) (h hσ)
theorem jH{L f:Nat}{fn:Func}{c:Code}{args:List A}{Hin:List (Nat×B)}{Q:A→List (Nat×B)→Prop}(nt:Nat)(ks:List Nat)(h1:4096≤L)(h2:L≤1073741824)(hf:Tryz.prog.funcs[f]? = some fn)(hz:(fn.body,fn.ntmps,ks,Nat.ble args.length nt)=(some c,nt,Hin.map (·.1),true))(h:SgOk ⟨Tryz.prog,tt,L,nt,ks⟩→As.fact L args→AWP ⟨Tryz.prog,tt,L,nt,ks⟩ c (fun e s=>(e= .ret∨e= .normal)∧∃s2,Ent ⟨Tryz.prog,tt,L,nt,ks⟩ s s2∧∃res,fY tt s2 fn.results.toList=some res∧Q res s2.H) ⟨dR 0 args,Hin⟩)(hn:(fn.name== "runtime.NumGoroutine")=false:=by kernel_rfl):MC Tryz.prog L f args Hin Q:=have hσ:=tZ (js:=ks) (Cn (nt:=nt) h1 (Nat.le_trans h2 (by decide)));have hz:=Prod.mk.inj hz;have hy:=Prod.mk.inj hz.2;have hx:=Prod.mk.inj hy.2;BP hσ hf hn hz.1 hy.1 hx.1 (Nat.le_of_ble_eq_true hx.2) (h hσ)
abbrev MQ{L:Nat}(h1:4096≤L)(h2:L≤1073741824)(f:Nat)(ds:List A)(Hin:List (Nat×B))(Q:A→List (Nat×B)→Prop):Prop:=MC Tryz.prog L f ds Hin Q
abbrev eI(n:Int):A:=.c (.d (.int .i64 n))
abbrev eB(b:Bool):A:=.c (.d (.bool b))
abbrev cY(xs:List Int):D:=.slc 1 (xs.map fun n=>[.int .i64 n])
structure Tm where
  c:Int
  xs:List Int
  deriving Inhabited
abbrev Tm.cells(t:Tm):List D:=[.int .i64 t.c,cY t.xs]
abbrev ptr(cs:List D):A:=.c (.d (.ptr cs 0))
def num(x:Int):Bool:=decide (-1000000≤x)&&decide (x≤1000000)
def Tm.ok(t:Tm):Bool:=!(bif (bif !num t.c then true else decide ((10:Int)<t.xs.length))then true else bif decide ((0:Int)<t.xs.length)then decide (t.xs.getD ((t.xs.length:Int)-1).toNat default=0)else false)&&t.xs.all num
theorem ki{α:Type}{p:α→Bool}{xs:List α}(h: ∀j (hj:j<xs.length),p xs[j]=true):xs.all p=true:=by
 rw[List.all_eq_true];intro x hx
 obtain⟨j,hj,rfl⟩:=List.mem_iff_getElem.1 hx
 exact h j hj
theorem jg{α:Type}{p:α→Bool}{xs:List α}(j:Nat)(hj:j<xs.length)(h:p xs[j]=false):xs.all p=false:=by
 rw[List.all_eq_false];exact⟨xs[j],List.getElem_mem _,by simp[h]⟩
theorem aD{α:Type}[Inhabited α]{xs:List α}{j:Nat}(hj:j<xs.length):xs.getD j default=xs[j]:=by simp[hj]

variable{x lo hi:Int}
theorem GE:MQ h1 h2 65 [eI x,eI lo,eI hi] [] (Plain (eB (decide (lo≤x)&&decide (x≤hi)))):=by
 refine aL ?_ Z
 refine jB 15 h1 h2 Tryz.func65 Z fun O hF=>?_
 refine ae (js Z (ba (az Z (aA 3 Z Z Z (fun hx=>ax hx Z (ax hx Z (ax hx Z (AN.nil)))) Z Z (av (ay O Z Z Z Z Z) Z (js Z (jr ?_)))))))
 refine aJ Z ?_
 rw[Bool.cond_false_right]
theorem zE:MQ h1 h2 93 [eI x] [] (Plain (eB (num x))):=by
 refine aL ?_ Z
 refine jB 5 h1 h2 Tryz.func93 Z fun O hF=>?_
 refine ae (js Z (ba (js Z (bP Z (GE h1 h2) 5000 Z (js Z (jr ?_))))))
 refine aJ Z ?_
 first|rfl|skip
variable{t:Tm}
theorem Ch:MQ h1 h2 60 [ptr t.cells] [] (Plain (eB t.ok)):=by
 refine aL ?_ Z
 refine jB 49 h1 h2 Tryz.func60 Z fun O hF=>?_
 have hl:t.xs.length≤L:=by simpa[As.fact,A.fact,M.fact,D.fact,Ds.fact]using hF.1.2.1.1
 refine ae (js Z (ba (az Z (dh Z (js Z (jn (af (ae (az Z (bP Z (zE h1 h2) 15000 Z (ab Z (aA 2 Z Z Z (fun hx=>ax hx Z (ax hx Z (AN.nil))) Z Z (av (aG O Z Z Z Z Z) Z (js Z (aA 13 Z Z Z (fun hx=>ax hx Z (ax hx Z (ax hx Z (qj 9 Z Z Z Z (fun hx'=>ax hx' Z (ax hx' Z (ax hx' Z (ax hx' Z (ax hx' Z (dD hx' (vF Z) Z (dD hx' (vD Z) Z (ax hx' Z (ax hx' Z (AN.nil)))))))))) Z Z (dD hx (ay O Z Z Z Z Z) Z (AN.nil)))))) Z Z (av (aG O Z Z Z Z Z) Z (jn (ah Z (fun z34=>?_) (fun z34=>?_)))))))))))))))))))
 try simp only[bG]at z34
 refine ae (js Z (jr ?_))
 refine aJ Z ?_
 simp only[Tm.ok,z34,Bool.not_true,Bool.false_and]
 try simp only[bG]at z34
 refine aj (af (ae (js Z (jn (ao (aw (X:=Nat) (fun i=>⟨[(0,ptr t.cells),(3,eI t.xs.length),(4,eI i)],[]⟩) (fun i=>i≤t.xs.length∧∀j (h:j<t.xs.length),j<i→num t.xs[j]=true) (fun i=>t.xs.length-i) 0 (Ent.env ⟨Z,Z,Z,ap⟩) ?_ (fun i hi=>?_)))))))
 exact⟨cT _,fun j h hj=>absurd hj (Nat.not_lt_zero j)⟩
 refine af (ae (aH Z (jn (ah Z (fun z37=>?_) (fun z37=>?_)))))
 try simp only[bG]at z37
 refine aj (af (ao (ae (az Z (js Z (nN Z Z (js Z (bP Z (zE h1 h2) 48000 Z (js Z (jn (ah Z (fun z48=>?_) (fun z48=>?_))))))))))))
 try simp only[bG]at z48
 refine ae (js Z (jr ?_))
 refine aJ Z ?_
 rw[Int.toNat_natCast,aD (by omega)]at z48
 simp only[Tm.ok,jg i (by omega) z48,Bool.and_false]
 try simp only[bG]at z48
 refine aj (ak (js Z (ji Z (js Z (jn ?_)))))
 refine⟨i+1,Ent.env ⟨Z,Z,Z,ap⟩,⟨by omega,fun j h hj=>?_⟩,by omega⟩
 by_cases e:j=i
 subst e;rw[Int.toNat_natCast,aD h]at z48;exact z48
 exact hi.2 j h (by omega)
 try simp only[bG]at z37
 refine bg (ae (js Z (jr ?_)))
 refine aJ Z ?_
 simp only[Tm.ok,z34,Bool.not_false,Bool.true_and]
 rw[ki (fun j hj=>hi.2 j hj (by omega))]
abbrev aO(xs:List Int):B:=.row true 1 (xs.map fun n=>[.int .i64 n])
abbrev ce(xs:List Int):A:=.c (.d (cY xs))
variable{xs:List Int}
theorem Cc:MQ h1 h2 59 [ce xs] [] (Rows (.c (.rs 0 0 xs.length)) [aO xs]):=by
 refine cH (jB 6 h1 h2 Tryz.func59 Z fun O hF=>?_)
 have hl:xs.length≤L:=by simpa[As.fact,A.fact,M.fact,D.fact,Ds.fact]using hF.1.1
 refine ?_
 refine ae (js Z (ba (aU (bO O Z Z Z) Z (js Z (aU (cU (own:=true) O Z (.row Z Z) (.slc (.inr (Scal.map (fun _=>rfl)))) (by simp) Z (by first|omega|(dsimp only[bQ,eH,List.length_nil];omega)|(simp only[bG]at *;omega)|(simp;omega)) (by first|omega|(dsimp only[bQ,eH,List.length_nil];omega)|(simp only[bG]at *;omega)|(simp;omega)) Z Z) Z (js Z (jr ?_)))))))
 refine⟨.inl Z,_,b9,_,Z,[5],by decide,Z,?_,?_⟩
 simp[A.lab,M.lab]
 rfl
theorem vL:MQ h1 h2 88 [ce xs] [] (Rows (.c (.rs 0 0 xs.length)) [aO xs]):=by
 refine cH (jB 6 h1 h2 Tryz.func88 Z fun O hF=>?_)
 have hl:xs.length≤L:=by simpa[As.fact,A.fact,M.fact,D.fact,Ds.fact]using hF.1.1
 refine ?_
 refine ae (js Z (ba (aU (bO O Z Z Z) Z (js Z (aU (cU (own:=true) O Z (.row Z Z) (.slc (.inr (Scal.map (fun _=>rfl)))) (by simp) Z (by first|omega|(dsimp only[bQ,eH,List.length_nil];omega)|(simp only[bG]at *;omega)|(simp;omega)) (by first|omega|(dsimp only[bQ,eH,List.length_nil];omega)|(simp only[bG]at *;omega)|(simp;omega)) Z Z) Z (js Z (jr ?_)))))))
 refine⟨.inl Z,_,b9,_,Z,[5],by decide,Z,?_,?_⟩
 simp[A.lab,M.lab]
 rfl

deriving instance DecidableEq for Tm
abbrev fC(ts:List Tm):D:=.slc 2 (ts.map Tm.cells)
abbrev cb(ts:List Tm):A:=.c (.d (fC ts))
abbrev GU(ts:List Tm):B:=.row true 2 (ts.map Tm.cells)


structure Sm where
  kind:Int
  var:Int
  event:Int
  sum:Tm
  index:Tm
  facts:List Tm
  deriving Inhabited,DecidableEq
abbrev Sm.cells(s:Sm):List D:=[.int .i64 s.kind,.int .i64 s.var,.int .i64 s.event,.int .i64 s.sum.c,cY s.sum.xs,.int .i64 s.index.c,cY s.index.xs,fC s.facts]
abbrev aSm(s:Sm):A:=.agg (s.cells.map .d)
abbrev kI(ts:List Sm):D:=.slc 8 (ts.map Sm.cells)
structure Pm where
  pre:List Tm
  body:List Sm
  post:List Tm
  deriving Inhabited,DecidableEq
structure Sx where
  vars:List Int
  cells:List Int
  deriving Inhabited,DecidableEq
abbrev Pm.data(p:Pm):List D:=[fC p.pre,kI p.body,fC p.post]
abbrev Sx.data(s:Sx):List D:=[cY s.vars,cY s.cells]
abbrev kK(p:Pm):A:=.agg (p.data.map .d)
abbrev GR(s:Sx):A:=.agg (s.data.map .d)

def Dy{α:Type}(f:Int→α→α)(sz:α→Nat):Int→List α→List α
  | _,[]=>[]
  | k,a::r=>f k a::Dy f sz (k+sz a) r
def I5{α:Type}(sz:α→Nat)(l:List α):Nat:=(l.map sz).sum
def mk{α:Type}(f:Int→α→α)(sz:α→Nat)(k:Int)(i:Nat)(l:List α):List α:=Dy f sz k (l.take i)++l.drop i
section
variable{α:Type}{f:Int→α→α}{sz:α→Nat}
end

def Tm.term(t:Tm):Bool:=t.ok&&decide ((t.xs.length:Int)≤4)
def terms(ts:List Tm)(n:Int):Bool:=ts.all Tm.term&&decide ((ts.length:Int)≤n)
def bC(k:Int):Int:=if k=1 then 2 else if k=7 then 2 else if k=8 then 1 else 0
def fQ:List Sm→Int→Option Nat
  | [],need=>if need≤0 then some 0 else none
  | s::r,need=>if need≤0 then some 0 else(fQ r (need+(bC s.kind-1))).map (· + 1)
def sV(body:List Sm)(k:Nat):Int:=match fQ (body.drop k) 1 with
  | some n=>k+n
  | none=> -1
def Tm.zero(t:Tm):Bool:=decide (t.c=0)&&decide ((t.xs.length:Int)=0)

theorem Em:MQ h1 h2 77 [ptr t.cells] [] (Plain (eB t.term)):=by
 refine aL ?_ Z
 refine jB 13 h1 h2 Tryz.func77 Z fun O hF=>?_
 refine ae (js Z (ba (js Z (bP Z (Ch h1 h2) 5000 Z (js Z (aA 6 Z Z Z (fun hx=>ax hx Z (ax hx Z (ax hx Z (ax hx Z (dD hx (cf O Z Z Z Z Z Z Z Z) Z (ax hx Z (AN.nil))))))) Z Z (av (ay O Z Z Z Z Z) Z (js Z (jr ?_)))))))))
 refine aJ Z ?_
 rw[Bool.cond_false_right];rfl
variable{ts:List Tm}{n:Int}
theorem Er:MQ h1 h2 49 [cb ts,eI n] [] (Plain (eB (terms ts n))):=by
 refine aL ?_ Z
 refine jB 21 h1 h2 Tryz.func49 Z fun O hF=>?_
 have hl:ts.length≤L:=by simpa[As.fact,A.fact,M.fact,D.fact,Ds.fact]using hF.1.1
 refine ae (js Z (jn (af (ae (js Z (jn (ao (aw (X:=Nat) (fun i=>⟨[(0,cb ts),(1,eI n),(5,eI i)],[]⟩) (fun i=>i≤ts.length∧∀j (h:j<ts.length),j<i→Tm.term ts[j]=true) (fun i=>ts.length-i) 0 (Ent.env ⟨Z,Z,Z,ap⟩) ?_ (fun i hi=>?_)))))))))
 exact⟨cT _,fun j h hj=>absurd hj (Nat.not_lt_zero j)⟩
 refine af (ae (ab Z (dh Z (js Z (jn (ah Z (fun z9=>?_) (fun z9=>?_)))))))
 try simp only[bG]at z9
 refine aj (af (ao (ae (ab Z (nN Z Z (bP Z (Em h1 h2) 16000 Z (js Z (jn (ah Z (fun z16=>?_) (fun z16=>?_))))))))))
 try simp only[bG]at z16
 refine ae (js Z (jr ?_))
 refine aJ Z ?_
 rw[Int.toNat_natCast,aD (by omega)]at z16
 rw[terms,jg i (by omega) z16,Bool.false_and]
 try simp only[bG]at z16
 refine aj (ak (js Z (ji Z (js Z (jn ?_)))))
 refine⟨i+1,Ent.env ⟨Z,Z,Z,ap⟩,⟨by omega,fun j h hj=>?_⟩,by omega⟩
 by_cases e:j=i
 subst e;rw[Int.toNat_natCast,aD h]at z16;exact z16
 exact hi.2 j h (by omega)
 try simp only[bG]at z9
 refine bg (ae (js Z (dh Z (aH Z (jr ?_)))))
 refine aJ Z ?_
 rw[terms,ki (fun j hj=>hi.2 j hj (by omega)),Bool.true_and]
theorem c7(k:Int):0≤bC k∧bC k≤2:=by unfold bC;split;decide;split;decide;split<;>decide
theorem lg{l:List Sm}{n:Int}(h:n≤0):fQ l n=some 0:=by cases l<;>simp[fQ,h]
theorem qH{n:Int}(h:0<n):fQ [] n=none:=by simp[fQ];omega
theorem u4{l:List Sm}{n:Int}(h:0<n){k:Nat}(hk:k<l.length):fQ (l.drop k) n=(fQ (l.drop (k+1)) (n+(bC (l.getD k default).kind-1))).map (· + 1):=by
 rw[List.drop_eq_getElem_cons hk,aD hk]
 show(if n≤0 then some 0 else _)=_
 rw[if_neg (by omega)]
theorem J8{k:Int}:MQ h1 h2 42 [eI k] [] (Plain (eI (bC k))):=by
 refine aL ?_ Z
 refine jB 9 h1 h2 Tryz.func42 Z fun O hF=>?_
 refine ae (js Z (jn (af (ae (js Z (jn (ao (af (ae (ab Z (jn (ah Z (fun z4=>?_) (fun z4=>?_)))))))))))))
 try simp only[bG]at z4
 refine aj (ah Z (fun z4=>?_) (fun z4=>?_))
 try simp only[bG]at z4
 refine ae (js Z (jr ?_))
 refine aJ Z ?_
 simp_all[bC]
 try simp only[bG]at z4
 refine ae (ab Z (jn (ah Z (fun z7=>?_) (fun z7=>?_))))
 try simp only[bG]at z7
 refine ae (js Z (jr ?_))
 refine aJ Z ?_
 simp_all[bC]
 try simp only[bG]at z7
 refine aj (ae (js Z (jr ?_)))
 refine aJ Z ?_
 simp_all[bC]
 try simp only[bG]at z4
 refine ak (ab Z (jn (ah Z (fun z4=>?_) (fun z4=>?_))))
 try simp only[bG]at z4
 refine ae (js Z (jr ?_))
 refine aJ Z ?_
 simp_all[bC]
 try simp only[bG]at z4
 refine ae (ab Z (jn (ah Z (fun z7=>?_) (fun z7=>?_))))
 try simp only[bG]at z7
 refine ae (js Z (jr ?_))
 refine aJ Z ?_
 simp_all[bC]
 try simp only[bG]at z7
 refine aj (ae (js Z (jr ?_)))
 refine aJ Z ?_
 simp_all[bC]
theorem He:MQ h1 h2 123 [ptr t.cells] [] (Plain (eB t.zero)):=by
 refine aL ?_ Z
 refine jB 16 h1 h2 Tryz.func123 Z fun O hF=>?_
 refine ae (js Z (ba (az Z (ab Z (aA 6 Z Z Z (fun hx=>ax hx Z (ax hx Z (ax hx Z (ax hx Z (dD hx (cf O Z Z Z Z Z Z Z Z) Z (ax hx Z (AN.nil))))))) Z Z (av (ay O Z Z Z Z Z) Z (js Z (jr ?_))))))))
 refine aJ Z ?_
 rw[Bool.cond_false_right];rfl
variable{body:List Sm}
theorem Kg{k:Nat}(hk:k≤body.length):MQ h1 h2 79 [.c (.d (kI body)),eI k] [] (Plain (eI (sV body k))):=by
 refine aL ?_ Z
 refine jB 24 h1 h2 Tryz.func79 Z fun O hF=>?_
 have hl:body.length≤L:=by simpa[As.fact,A.fact,M.fact,D.fact,Ds.fact]using hF.1.1
 refine ae (js Z (ba (js Z (jn (af (ao (aw (X:=Int×Nat) (fun x=>⟨[(0,.c (.d (kI body))),(1,eI (k+x.2)),(5,eI x.1)],[]⟩) (fun x=>k+x.2≤body.length∧(fQ (body.drop k) 1=(fQ (body.drop (k+x.2)) x.1).map (· + x.2))∧0≤x.1∧x.1≤x.2+1) (fun x=>body.length-(k+x.2)) (1,0) (Ent.env ⟨Z,by simp[dR,aK],Z,ap⟩) ?_ (fun x hi=>?_))))))))
 exact⟨hk,by simp,by decide,by decide⟩
 refine af (ae (ab Z (jn (ah Z (fun z7=>?_) (fun z7=>?_)))))
 try simp only[bG]at z7
 refine aj (ao (af (ae (ab Z (dh Z (js Z (jn (ah Z (fun z11=>?_) (fun z11=>?_)))))))))
 try simp only[bG]at z11
 refine ae (js Z (jr ?_))
 refine aJ Z ?_
 have e:k+x.2=body.length:=by omega
 rw[sV,hi.2.1,List.drop_of_length_le (by omega),qH z7];rfl
 try simp only[bG]at z11
 refine aj (ae (aH Z (nN Z Z (ab Z (bP Z (J8 h1 h2) 19000 Z ?_)))))
 have hb:=c7 (body.getD ((k:Int)+x.2).toNat default).kind
 refine av (bi O Z Z (by omega) (by omega)) Z (ji Z (js Z (jn (ak (js Z (ji Z (js Z (jn ?_))))))))
 have hk2:k+x.2<body.length:=by omega
 have e:=u4 z7 hk2
 rw[e,Option.map_map]at hi
 refine⟨(x.1+(bC (body.getD (k+x.2) default).kind-1),x.2+1),Ent.env ⟨Z,?_,Z,ap⟩,⟨by show k+(x.2+1)≤_;omega,?_,?_,?_⟩,by show body.length-(k+(x.2+1))<_;omega⟩
 exact congrArg (fun z=>some (eI z)) (by show(k:Int)+x.2+1=k+(x.2+1:Nat);omega)
 rw[hi.2.1];exact congrArg (fun f=>Option.map f _) (funext fun n=>by show n+1+x.2=n+(x.2+1);omega)
 show 0≤x.1+(bC (body.getD (k+x.2) default).kind-1);have:=(c7 (body.getD (k+x.2) default).kind).1;omega
 show x.1+(bC (body.getD (k+x.2) default).kind-1)≤(x.2+1:Nat)+1;have:=(c7 (body.getD (k+x.2) default).kind).2;omega
 try simp only[bG]at z7
 refine bg (ae (ab Z (jr ?_)))
 refine aJ Z ?_
 rw[sV,hi.2.1,lg z7];exact congrArg eI (by show(k:Int)+x.2=k+(0+x.2:Nat);omega)
def t8(s:Sm):Bool:=bif bif bif bif decide (s.kind=2)then true else decide (s.kind=4)then true else decide (s.kind=6)then true else decide (s.kind=7)then true else decide (s.kind=8)
def t9(s:Sm):Bool:=bif decide (s.kind=3)then true else decide (s.kind=4)
def pX(s:Sm):Bool:=bif decide (s.kind=2)then true else decide (s.kind=3)
def rJ(s:Sm):Bool:=bif bif bif !(decide (0≤s.kind)&&decide (s.kind≤8))then true else !s.sum.term then true else !s.index.term then true else !terms s.facts 6
def yf(s:Sm):Bool:=bif bif bif !t8 s then !s.sum.zero else false then true else bif !t9 s then !s.index.zero else false then true else bif !decide (s.kind=8)then decide ((0:Int)<s.facts.length)else false
def zg(s:Sm):Bool:=bif bif pX s then !(decide (0≤s.var)&&decide (s.var≤3))else false then true else bif !pX s then !decide (s.var=0)else false
def bz(s:Sm):Bool:=bif rJ s then false else bif yf s then false else bif zg s then false else bif decide (s.kind=5)then(decide (0≤s.event)&&decide (s.event≤3))else decide (s.event=0)
def kH(b:List Sm):Bool:=(decide ((1:Int)≤b.length)&&decide ((b.length:Int)≤30))&&(b.all bz&&decide (sV b 0=b.length))
def ii(p:Pm):Bool:=terms p.pre 6&&(kH p.body&&terms p.post 6)
def mO(x:Int):Bool:=decide (-1000000000≤x)&&decide (x≤1000000000)
def c9(xs:List Int)(n:Int):Bool:=xs.all mO&&decide ((xs.length:Int)=n)
def zk(s:Sx):Bool:=c9 s.vars 4&&c9 s.cells 8
def dZ:List Int→List Int→Int
  | x::xs,y::ys=>x*y+dZ xs ys
  | _,_=>0
def aS(t:Tm)(vars:List Int):Int:=t.c+dZ t.xs vars
theorem lj: ∀{xs ys:List Int} {i:Nat},i<xs.length→i<ys.length→dZ (xs.take (i+1)) (ys.take (i+1))=dZ (xs.take i) (ys.take i)+xs.getD i default*ys.getD i default
 | [],_,i,h,_=>by simp at h
 | _::_,[],i,_,h=>by simp at h
 | x::xs,y::ys,0,_,_=>by simp[dZ]
 | x::xs,y::ys,i+1,h1,h2=>by
  have:=lj (xs:=xs) (ys:=ys) (i:=i) (by simpa using h1) (by simpa using h2)
  simp only[List.take_succ_cons,dZ,List.getD_cons_succ]at this ⊢
  omega
theorem pR: ∀{xs ys:List Int} {i:Nat},xs.length≤i→dZ (xs.take i) (ys.take i)=dZ xs ys
 | [],_,i,h=>by simp[dZ]
 | _::_,_,0,h=>by simp at h
 | _::_,[],i+1,h=>by simp[dZ]
 | x::xs,y::ys,i+1,h=>by
  simp only[List.take_succ_cons,dZ]
  rw[pR (by simpa using h)]
theorem s5{a b:Int}(h1: -1000000≤a∧a≤1000000)(h2: -1000000000≤b∧b≤1000000000): -1000000000000000≤a*b∧a*b≤1000000000000000:=by
 have h3:a.natAbs≤1000000:=by omega
 have h4:b.natAbs≤1000000000:=by omega
 have h5:=Nat.mul_le_mul h3 h4
 rw[←Int.natAbs_mul]at h5
 omega
theorem I7{x:Int}:num x=true↔ -1000000≤x∧x≤1000000:=by simp[num]
theorem Ja{x:Int}:mO x=true↔ -1000000000≤x∧x≤1000000000:=by simp[mO]
theorem ta{xs ys:List Int}(hx:xs.all num=true)(hy:ys.all mO=true): ∀{i:Nat},i≤xs.length→i≤ys.length→ -(i*1000000000000000:Int)≤dZ (xs.take i) (ys.take i)∧dZ (xs.take i) (ys.take i)≤i*1000000000000000
 | 0,_,_=>by simp[dZ]
 | i+1,h1,h2=>by
  have ih:=ta hx hy (i:=i) (by omega) (by omega)
  rw[lj (by omega) (by omega)]
  have a1:=I7.1 (List.all_eq_true.1 hx _ (List.getElem_mem (show i<xs.length by omega)))
  have a2:=Ja.1 (List.all_eq_true.1 hy _ (List.getElem_mem (show i<ys.length by omega)))
  have:=s5 a1 a2
  rw[aD (by omega),aD (by omega)]
  omega
theorem ql{t:Tm}(h:t.term=true):num t.c=true∧t.xs.all num=true∧t.xs.length≤4:=by
 simp only[Tm.term,Tm.ok,bS,decide_eq_true_eq,Bool.not_eq_true']at h
 obtain⟨⟨h1,h2⟩,h3⟩:=h
 refine⟨?_,h2,by omega⟩
 cases hn:num t.c with
 | true=>rfl
 | false=>rw[hn]at h1;simp at h1
theorem gb{xs:List Int}{n:Int}(h:c9 xs n=true):xs.all mO=true∧(xs.length:Int)=n:=by simpa[c9]using h

theorem J9{s:Sm}:MQ h1 h2 78 [ptr s.cells] [] (Plain (eB (bz s))):=by
 refine aL ?_ Z
 refine jB 161 h1 h2 Tryz.func78 Z fun O hF=>?_
 refine ae (js Z (ba (az Z (ab Z (bI [(11,_),(2,_),(0,_)] [] ⟨Z,Z,Z,ap⟩ Z (aA 5 Z Z Z (fun hx=>ax hx Z (ax hx Z (ax hx Z (ax hx Z (ax hx Z (AN.nil)))))) Z Z (av (aG O Z Z Z Z Z) Z (js Z (bI [(18,_),(2,_),(0,_)] [] ⟨Z,Z,Z,ap⟩ Z (aA 5 Z Z Z (fun hx=>ax hx Z (ax hx Z (ax hx Z (ax hx Z (ax hx Z (AN.nil)))))) Z Z (av (aG O Z Z Z Z Z) Z (js Z (bI [(25,_),(2,_),(0,_)] [] ⟨Z,Z,Z,ap⟩ Z (aA 5 Z Z Z (fun hx=>ax hx Z (ax hx Z (ax hx Z (ax hx Z (ax hx Z (AN.nil)))))) Z Z (av (aG O Z Z Z Z Z) Z (js Z (bI [(32,_),(2,_),(0,_)] [] ⟨Z,Z,Z,ap⟩ Z (aA 5 Z Z Z (fun hx=>ax hx Z (ax hx Z (ax hx Z (ax hx Z (ax hx Z (AN.nil)))))) Z Z (av (aG O Z Z Z Z Z) Z (js Z (ba (az Z (ab Z (bI [(44,_),(3,_),(2,_),(0,_)] [] ⟨Z,Z,Z,Z,ap⟩ Z (aA 5 Z Z Z (fun hx=>ax hx Z (ax hx Z (ax hx Z (ax hx Z (ax hx Z (AN.nil)))))) Z Z (av (aG O Z Z Z Z Z) Z (js Z (ba (az Z ?_)))))))))))))))))))))))))))))
 refine ab Z (bI [(56,_),(4,_),(3,_),(2,_),(0,_)] [] ⟨Z,Z,Z,Z,Z,ap⟩ Z (aA 5 Z Z Z (fun hx=>ax hx Z (ax hx Z (ax hx Z (ax hx Z (ax hx Z (AN.nil)))))) Z Z (av (aG O Z Z Z Z Z) Z (js Z (jn (af (ae (az Z (bI [(66,_),(5,_),(4,_),(3,_),(2,_),(0,_)] [] ⟨Z,Z,Z,Z,Z,Z,ap⟩ Z (bP Z (GE h1 h2) 68000 Z (ab Z (bI [(69,_),(5,_),(4,_),(3,_),(2,_),(0,_)] [] ⟨Z,Z,Z,Z,Z,Z,ap⟩ Z (aA 5 Z Z Z (fun hx=>ax hx Z (ax hx Z (ax hx Z (bA O hx Z Z Z Z (Em (t:=s.sum) h1 h2) (.cons (.c (.sub Z)) .nil) Z Z Z Z Z Z Z (B0:=74000) Z (ax hx Z (AN.nil)))))) Z Z (av (aG O Z Z Z Z Z) Z (js Z (bI [(76,_),(5,_),(4,_),(3,_),(2,_),(0,_)] [] ⟨Z,Z,Z,Z,Z,Z,ap⟩ Z (aA 5 Z Z Z (fun hx=>ax hx Z (ax hx Z (ax hx Z (bA O hx Z Z Z Z (Em (t:=s.index) h1 h2) (.cons (.c (.sub Z)) .nil) Z Z Z Z Z Z Z (B0:=81000) Z (ax hx Z (AN.nil)))))) Z Z (av (aG O Z Z Z Z Z) Z (js Z (bI [(83,_),(5,_),(4,_),(3,_),(2,_),(0,_)] [] ⟨Z,Z,Z,Z,Z,Z,ap⟩ Z (aA 6 Z Z Z (fun hx=>ax hx Z (ax hx Z (ax hx Z (ax hx Z (bA O hx Z Z Z Z (Er h1 h2) (ac Z) Z Z Z Z Z Z Z (B0:=89000) Z (ax hx Z (AN.nil))))))) Z Z (av (aG O Z Z Z Z Z) Z (jn (ah Z (fun z90=>?_) (fun z90=>?_)))))))))))))))))))))))))
 refine ae (js Z (jr ?_))
 refine aJ Z ?_
 rw[bz,show rJ s=true from z90];rfl
 refine aj (af (ae (aH Z (bI [(93,_),(5,_),(4,_),(2,_),(0,_)] [] ⟨Z,Z,Z,Z,Z,ap⟩ Z (aA 5 Z Z Z (fun hx=>ax hx Z (ax hx Z (ax hx Z (bA O hx Z Z Z Z (He (t:=s.sum) h1 h2) (.cons (.c (.sub Z)) .nil) Z Z Z Z Z Z Z (B0:=98000) Z (ax hx Z (AN.nil)))))) Z Z (av (ay O Z Z Z Z Z) Z (js Z (bI [(100,_),(5,_),(4,_),(2,_),(0,_)] [] ⟨Z,Z,Z,Z,Z,ap⟩ Z (aA 9 Z Z Z (fun hx=>ax hx Z (ax hx Z (ax hx Z (qj 5 Z Z Z Z (fun hx'=>ax hx' Z (ax hx' Z (ax hx' Z (bA O hx' Z Z Z Z (He (t:=s.index) h1 h2) (.cons (.c (.sub Z)) .nil) Z Z Z Z Z Z Z (B0:=108000) Z (ax hx' Z (AN.nil)))))) Z Z (dD hx (ay O Z Z Z Z Z) Z (AN.nil)))))) Z Z (av (aG O Z Z Z Z Z) Z (js Z (bI [(111,_),(5,_),(2,_),(0,_)] [] ⟨Z,Z,Z,Z,ap⟩ Z (aA 13 Z Z Z (fun hx=>ax hx Z (ax hx Z (ax hx Z (ax hx Z (ax hx Z (ax hx Z (qj 6 Z Z Z Z (fun hx'=>ax hx' Z (ax hx' Z (ax hx' Z (ax hx' Z (dD hx' (cf O Z Z Z Z Z Z Z Z) Z (ax hx' Z (AN.nil))))))) Z Z (dD hx (ay O Z Z Z Z Z) Z (AN.nil))))))))) Z Z (av (aG O Z Z Z Z Z) Z (jn (ah Z (fun z125=>?_) (fun z125=>?_)))))))))))))))))
 refine ae (js Z (jr ?_))
 refine aJ Z ?_
 rw[bz,show rJ s=false from z90,show yf s=true from z125];rfl
 refine aj (af (ae (ab Z (bI [(127,_),(5,_),(2,_),(0,_)] [] ⟨Z,Z,Z,Z,ap⟩ Z (aA 6 Z Z Z (fun hx=>ax hx Z (ax hx Z (ax hx Z (ax hx Z (bA O hx Z Z Z Z (GE h1 h2) (ac Z) Z Z Z Z Z Z Z (B0:=133000) Z (ax hx Z (AN.nil))))))) Z Z (av (ay O Z Z Z Z Z) Z (js Z (bI [(135,_),(5,_),(2,_),(0,_)] [] ⟨Z,Z,Z,Z,ap⟩ Z (aA 9 Z Z Z (fun hx=>ax hx Z (ax hx Z (ax hx Z (qj 5 Z Z Z Z (fun hx'=>ax hx' Z (ax hx' Z (ax hx' Z (ax hx' Z (ax hx' Z (AN.nil)))))) Z Z (dD hx (ay O Z Z Z Z Z) Z (AN.nil)))))) Z Z (av (aG O Z Z Z Z Z) Z (jn (ah Z (fun z145=>?_) (fun z145=>?_)))))))))))))
 refine ae (js Z (jr ?_))
 refine aJ Z ?_
 rw[bz,show rJ s=false from z90,show yf s=false from z125,show zg s=true from z145];rfl
 refine aj (af (ae (az Z (js Z (jn (ah Z (fun z150=>?_) (fun z150=>?_)))))))
 refine ae (az Z (bI [(154,_),(2,_),(0,_)] [] ⟨Z,Z,Z,ap⟩ Z (bP Z (GE h1 h2) 156000 Z (js Z (jr ?_)))))
 refine aJ Z ?_
 rw[bz,show rJ s=false from z90,show yf s=false from z125,show zg s=false from z145,z150];rfl
 refine aj (ae (az Z (ab Z (jr ?_))))
 refine aJ Z ?_
 rw[bz,show rJ s=false from z90,show yf s=false from z125,show zg s=false from z145,z150];rfl
theorem Kh{b:List Sm}:MQ h1 h2 50 [.c (.d (kI b))] [] (Plain (eB (kH b))):=by
 refine aL ?_ Z
 refine jB 24 h1 h2 Tryz.func50 Z fun O hF=>?_
 have hl:b.length≤L:=by simpa[As.fact,A.fact,M.fact,D.fact,Ds.fact]using hF.1.1
 refine ae (js Z (jn (af (ae (js Z (dh Z (bP Z (GE h1 h2) 7000 Z (js Z (jn (ah Z (fun z7=>?_) (fun z7=>?_)))))))))))
 try simp only[bG]at z7
 refine ae (js Z (jr ?_))
 refine aJ Z ?_
 rw[kH,show(decide ((1:Int)≤b.length)&&decide ((b.length:Int)≤30))=false from z7,Bool.false_and]
 try simp only[bG]at z7
 refine aj (af (ae (js Z (jn (ao (aw (X:=Nat) (fun i=>⟨[(0,.c (.d (kI b))),(3,eI i)],[]⟩) (fun i=>i≤b.length∧∀j (h:j<b.length),j<i→bz b[j]=true) (fun i=>b.length-i) 0 (Ent.env ⟨Z,Z,ap⟩) ?_ (fun i hi=>?_)))))))
 exact⟨cT _,fun j h hj=>absurd hj (Nat.not_lt_zero j)⟩
 refine af (ae (ab Z (dh Z (js Z (jn (ah Z (fun z11=>?_) (fun z11=>?_)))))))
 try simp only[bG]at z11
 refine aj (af (ao (ae (ab Z (nN Z Z (bP Z (J9 h1 h2) 18000 Z (js Z (jn (ah Z (fun z18=>?_) (fun z18=>?_))))))))))
 try simp only[bG]at z18
 refine ae (js Z (jr ?_))
 refine aJ Z ?_
 rw[Int.toNat_natCast,aD (by omega)]at z18
 rw[kH,jg i (by omega) z18,Bool.false_and,Bool.and_false]
 try simp only[bG]at z18
 refine aj (ak (js Z (ji Z (js Z (jn ?_)))))
 refine⟨i+1,Ent.env ⟨Z,Z,ap⟩,⟨by omega,fun j h hj=>?_⟩,by omega⟩
 by_cases e:j=i
 subst e;rw[Int.toNat_natCast,aD h]at z18;exact z18
 exact hi.2 j h (by omega)
 try simp only[bG]at z11
 refine bg (ae (js Z (bP Z (Kg (k:=0) h1 h2 (cT _)) 21000 Z (js Z (dh Z (ab Z (jr ?_)))))))
 refine aJ Z ?_
 rw[kH,show(decide ((1:Int)≤b.length)&&decide ((b.length:Int)≤30))=true from z7,ki (fun j hj=>hi.2 j hj (by omega)),Bool.true_and,Bool.true_and]
variable{p:Pm}
theorem I6:MQ h1 h2 27 [ptr p.data] [] (Plain (eB (ii p))):=by
 refine aL ?_ Z
 refine jB 22 h1 h2 Tryz.func27 Z fun O hF=>?_
 refine ae (js Z (ba (az Z (bI [(6,_),(2,_),(0,_)] [] ⟨Z,Z,Z,ap⟩ Z (bP Z (Er h1 h2) 8000 Z (js Z (bI [(8,_),(2,_),(0,_)] [] ⟨Z,Z,Z,ap⟩ Z (aA 5 Z Z Z (fun hx=>ax hx Z (ax hx Z (ax hx Z (ax hx Z (bA O hx Z Z Z Z (Kh h1 h2) (ac Z) Z Z Z Z Z Z Z (B0:=14000) Z (AN.nil)))))) Z Z (av (ay O Z Z Z Z Z) Z (js Z (bI [(15,_),(2,_),(0,_)] [] ⟨Z,Z,Z,ap⟩ Z (aA 5 Z Z Z (fun hx=>ax hx Z (ax hx Z (ax hx Z (ax hx Z (bA O hx Z Z Z Z (Er h1 h2) (ac Z) Z Z Z Z Z Z Z (B0:=21000) Z (AN.nil)))))) Z Z (av (ay O Z Z Z Z Z) Z (js Z (jr ?_)))))))))))))))
 refine aJ Z ?_
 rw[Bool.cond_false_right,Bool.cond_false_right,Bool.and_assoc];rfl
variable{vars:List Int}
theorem Kf{cells:List Int}(h:t.term=true)(hv:c9 vars 4=true):MQ h1 h2 44 [ptr t.cells,ptr [cY vars,cY cells]] [] (Plain (eI (aS t vars))):=by
 refine aL ?_ Z
 refine jB 38 h1 h2 Tryz.func44 Z fun O hF=>?_
 have ht:=ql h
 have hs:=gb hv
 have hlen:t.xs.length≤vars.length:=by omega
 refine ae (js Z (ba (az Z (js Z (jn (af (ae (js Z (jn (ao (aw (X:=Nat) (fun i=>⟨[(0,ptr t.cells),(1,ptr [cY vars,cY cells]),(5,eI (t.c+dZ (t.xs.take i) (vars.take i))),(6,eI i)],[]⟩) (fun i=>i≤t.xs.length) (fun i=>t.xs.length-i) 0 (Ent.env ⟨Z,Z,by simp[dZ,dR,aK],Z,ap⟩) ?_ (fun i hi=>?_))))))))))))
 exact cT _
 refine af (ae (az Z (js Z (dh Z (js Z (jn (ah Z (fun z17=>?_) (fun z17=>?_))))))))
 try simp only[bG]at z17
 refine aj (af (ao ?_))
 have hd:=ta ht.2.1 hs.1 hi (Nat.le_trans hi hlen)
 have hds:=lj (xs:=t.xs) (ys:=vars) (i:=i) (by omega) (by omega)
 have hn:=I7.1 ht.1
 have hm:=s5 (I7.1 (List.all_eq_true.1 ht.2.1 _ (List.getElem_mem (show i<t.xs.length by omega)))) (Ja.1 (List.all_eq_true.1 hs.1 _ (List.getElem_mem (show i<vars.length by omega))))
 rw[←aD (show i<t.xs.length by omega),←aD (show i<vars.length by omega)]at hm
 refine fZ [_,_,_,_,_,_,_,_,_,_,_,_,_,_,_,_,_,_] [aF,aF,ag [1],ag [1,2],ag [1,2,3],aF,ag (rg 1 5),ag (rg 1 6),aF,ag [8],ag [8,9],ag [8,9,10],aF,ag (rg 8 5),ag (rg 8 6),ag (rg 1 14),ag (rg 0 16),ag (rg 0 17)] [] [_] (cw Z (kc Z (kc Z (ai (vD Z) (cw Z (kc Z (kc Z (ai (vD Z) (kc Z (ai (bi O Z Z (Int.le_trans (by decide) hm.1) (Int.le_trans hm.2 (by decide))) (ai (bi O Z Z (show(-9223372036854775808:Int)≤t.c+dZ (t.xs.take i) (vars.take i)+t.xs.getD i default*vars.getD i default by omega) (show t.c+dZ (t.xs.take i) (vars.take i)+t.xs.getD i default*vars.getD i default≤9223372036854775807 by omega)) (kc Z trivial)))))))))))) ?_
 refine jh (Ent.to (e':=[(5,_),(17,_),(0,_),(1,_),(6,_)]) (H':=[]) ⟨Z,Z,Z,Z,Z,ap⟩ Z) (ak (js Z (ji Z (js Z (jn ?_)))))
 refine⟨i+1,Ent.to ⟨Z,Z,?_,Z,ap⟩ Z,by omega,by omega⟩
 exact congrArg (fun z=>some (eI z)) (by rw[hds];show t.c+dZ (t.xs.take i) (vars.take i)+t.xs.getD i default*vars.getD i default=_;omega)
 try simp only[bG]at z17
 refine bg (ae (ab Z (jr ?_)))
 refine aJ Z ?_
 obtain rfl:i=t.xs.length:=by omega
 rw[pR (da _)];rfl
theorem kR(h:t.term=true)(hv:c9 vars 4=true):MQ h1 h2 90 [.agg (t.cells.map .d),ce vars] [] (Plain (eI (aS t vars))):=by
 refine aL ?_ Z
 refine jB 28 h1 h2 Tryz.func90 Z fun O hF=>?_
 have ht:=ql h
 have hs:=gb hv
 have hlen:t.xs.length≤vars.length:=by omega
 refine ae (jx Z (js Z (ba (aH Z (jn (af (ae (ab Z (dh Z (js Z (jn (ao (aw (X:=Nat) (fun i=>⟨[(1,ce vars),(5,eI (t.c+dZ (t.xs.take i) (vars.take i))),(11,.c (.d (cY t.xs))),(12,eI t.xs.length),(13,eI i)],[]⟩) (fun i=>i≤t.xs.length) (fun i=>t.xs.length-i) 0 (am [] Z Z ⟨Z,by simp[dZ,dR,aK],Z,by simp[aK],Z,ap⟩ Z) ?_ (fun i hi=>?_))))))))))))))
 exact cT _
 refine ae (js Z (jn (af (ah Z (fun z14=>?_) (fun z14=>?_)))))
 try simp only[bG]at z14
 refine aj (af (ao (ae (js Z (nN Z Z (aH Z (jn (ak (az Z (nN Z Z (js Z ?_)))))))))))
 have hd:=ta ht.2.1 hs.1 hi (Nat.le_trans hi hlen)
 have hds:=lj (xs:=t.xs) (ys:=vars) (i:=i) (by omega) (by omega)
 have hn:=I7.1 ht.1
 have hm:=s5 (I7.1 (List.all_eq_true.1 ht.2.1 _ (List.getElem_mem (show i<t.xs.length by omega)))) (Ja.1 (List.all_eq_true.1 hs.1 _ (List.getElem_mem (show i<vars.length by omega))))
 rw[←aD (show i<t.xs.length by omega),←aD (show i<vars.length by omega)]at hm
 refine av (bi O Z Z (Int.le_trans (by decide) hm.1) (Int.le_trans hm.2 (by decide))) Z (av (bi O Z Z (show(-9223372036854775808:Int)≤t.c+dZ (t.xs.take i) (vars.take i)+t.xs.getD i default*vars.getD i default by omega) (show t.c+dZ (t.xs.take i) (vars.take i)+t.xs.getD i default*vars.getD i default≤9223372036854775807 by omega)) Z (js Z (jn (ak (ji Z (js Z (jn ?_)))))))
 refine⟨i+1,Ent.to ⟨Z,?_,Z,Z,Z,ap⟩ Z,by omega,by omega⟩
 exact congrArg (fun z=>some (eI z)) (by rw[hds];show t.c+dZ (t.xs.take i) (vars.take i)+t.xs.getD i default*vars.getD i default=_;omega)
 try simp only[bG]at z14
 refine bg (ae (ab Z (jr ?_)))
 refine aJ Z ?_
 obtain rfl:i=t.xs.length:=by omega
 rw[pR (da _)];rfl
abbrev db(t:Tm):A:=.agg (t.cells.map .d)
def ft(lo hi x:Int):Bool:=decide (lo≤x)&&decide (x≤hi)

theorem p9:MQ h1 h2 55 [eI x,eI lo,eI hi] [] (Plain (eB (ft lo hi x))):=by
 refine aL ?_ Z
 refine jB 15 h1 h2 Tryz.func55 Z fun O hF=>?_
 refine ae (js Z (ba (az Z (aA 3 Z Z Z (fun hx=>ax hx Z (ax hx Z (ax hx Z (AN.nil)))) Z Z (av (ay O Z Z Z Z Z) Z (js Z (jr ?_)))))))
 refine aJ Z ?_
 rw[Bool.cond_false_right];rfl
theorem vM:MQ h1 h2 86 [ce xs,eI lo,eI hi] [] (Plain (eB (xs.all (ft lo hi)))):=by
 refine aL ?_ Z
 refine jB 21 h1 h2 Tryz.func86 Z fun O hF=>?_
 have hl:xs.length≤L:=by simpa[As.fact,A.fact,M.fact,D.fact,Ds.fact]using hF.1.1
 refine ae (js Z (jn (af (ae (js Z (dh Z (js Z (jn (ao (aw (X:=Nat) (fun i=>⟨[(1,eI lo),(2,eI hi),(9,ce xs),(10,eI xs.length),(11,eI i)],[]⟩) (fun i=>i≤xs.length∧∀j (h:j<xs.length),j<i→ft lo hi xs[j]=true) (fun i=>xs.length-i) 0 (Ent.env ⟨Z,Z,Z,Z,Z,ap⟩) ?_ (fun i hi=>?_)))))))))))
 exact⟨cT _,fun j h hj=>absurd hj (Nat.not_lt_zero j)⟩
 refine ae (js Z (jn (af (ah Z (fun z12=>?_) (fun z12=>?_)))))
 try simp only[bG]at z12
 refine aj (af (ao (ae (nN Z Z (ab Z (ba (aH Z (bP Z (p9 h1 h2) 19000 Z (js Z (jn (ah Z (fun z19=>?_) (fun z19=>?_))))))))))))
 try simp only[bG]at z19
 refine ae (js Z (jr ?_))
 refine aJ Z ?_
 rw[Int.toNat_natCast,aD (by omega)]at z19
 rw[jg i (by omega) z19]
 try simp only[bG]at z19
 refine aj (ak (ji Z (js Z (jn ?_))))
 refine⟨i+1,Ent.env ⟨Z,Z,Z,Z,Z,ap⟩,⟨by omega,fun j h hj=>?_⟩,by omega⟩
 by_cases e:j=i
 subst e;rw[Int.toNat_natCast,aD h]at z19;exact z19
 exact hi.2 j h (by omega)
 try simp only[bG]at z12
 refine bg (ae (js Z (jr ?_)))
 refine aJ Z ?_
 rw[ki (fun j hj=>hi.2 j hj (by omega))]
theorem J4:MQ h1 h2 136 [eI x] [] (Plain (eB (num x))):=by
 refine aL ?_ Z
 refine jB 5 h1 h2 Tryz.func136 Z fun O hF=>?_
 refine ae (js Z (ba (js Z (bP Z (p9 h1 h2) 5000 Z (js Z (jr ?_))))))
 refine aJ Z ?_
 first|rfl|skip
theorem Cu(t:Tm):(bif bif bif decide ((t.xs.length:Int)≤10)then num t.c else false then t.xs.all num else false then bif decide ((t.xs.length:Int)=0)then true else !decide (t.xs.getD ((t.xs.length:Int)-1).toNat default=0)else false)=t.ok:=by
 unfold Tm.ok
 cases num t.c<;>cases t.xs.all num<;>simp
 by_cases h0:t.xs=[]
 simp[h0]
 have h1:0<t.xs.length:=List.length_pos_iff.2 h0
 by_cases h2:(t.xs.length:Int)≤10
 have h3: ¬(10:Int)<t.xs.length:=by omega
 simp[h0,h1,h2,h3]
 have h3:(10:Int)<t.xs.length:=by omega
 simp[h2,h3]
theorem mS:MQ h1 h2 95 [db t] [] (Plain (eB t.ok)):=by
 refine aL ?_ Z
 refine jB 32 h1 h2 Tryz.func95 Z fun O hF=>?_
 have hl:t.xs.length≤L:=by simpa[As.fact,A.fact,M.fact,Ms.fact,D.fact,Ds.fact]using hF.1.2.1.1
 refine ae (jx Z (js Z (ba (ab Z (dh Z (js Z (jf [3,2,1,0] Z (ba (aH Z (jf [9,3,2,1,0] Z (aA 3 Z Z Z (fun hx=>ax hx Z (ax hx Z (bA O hx Z Z Z Z (J4 h1 h2) (ac Z) Z Z Z Z Z Z Z (B0:=13000) Z (AN.nil)))) Z Z (av (ay O Z Z Z Z Z) Z (js Z (jf [14,3,2,1,0] Z (aA 3 Z Z Z (fun hx=>ax hx Z (ax hx Z (bA O hx Z Z Z Z (vM h1 h2) (ac Z) Z Z Z Z Z Z Z (B0:=18000) Z (AN.nil)))) Z Z (av (ay O Z Z Z Z Z) Z (js Z (jf [19,3,2,1,0] Z (aA 11 Z Z Z (fun hx=>ax hx Z (ax hx Z (ax hx Z (qj 7 Z Z Z Z (fun hx'=>ax hx' Z (ax hx' Z (ax hx' Z (dD hx' (bi O Z Z (by first|omega|(simp only[bG]at *;omega)) (by first|omega|(simp only[bG]at *;omega))) Z (dD hx' (bN O Z Z Z Z Z Z Z Z (by first|omega|(simp only[bG]at *;omega)) (m7 (by first|omega|(simp only[bG]at *;omega)) (by first|omega|(simp only[bG]at *;omega)))) Z (ax hx' Z (ax hx' Z (AN.nil)))))))) Z Z (dD hx (aG O Z Z Z Z Z) Z (AN.nil)))))) Z Z (av (ay O Z Z Z Z Z) Z (js Z (jf [2,1,0] Z (jr ?_)))))))))))))))))))))))
 refine aJ Z ?_
 exact congrArg eB (Cu t)
theorem uc:MQ h1 h2 134 [db t] [] (Plain (eB t.term)):=by
 refine aL ?_ Z
 refine jB 11 h1 h2 Tryz.func134 Z fun O hF=>?_
 refine ae (jx Z (js Z (ba (js Z (bP Z (mS h1 h2) 5000 Z (js Z (aA 4 Z Z Z (fun hx=>ax hx Z (ax hx Z (dD hx (cf O Z Z Z Z Z Z Z Z) Z (ax hx Z (AN.nil))))) Z Z (av (ay O Z Z Z Z Z) Z (js Z (jr ?_))))))))))
 refine aJ Z ?_
 rw[Bool.cond_false_right];rfl
theorem Ej:MQ h1 h2 163 [db t] [] (Plain (eB t.zero)):=by
 refine aL ?_ Z
 refine jB 12 h1 h2 Tryz.func163 Z fun O hF=>?_
 refine ae (jx Z (js Z (ba (az Z (aA 4 Z Z Z (fun hx=>ax hx Z (ax hx Z (dD hx (cf O Z Z Z Z Z Z Z Z) Z (ax hx Z (AN.nil))))) Z Z (av (ay O Z Z Z Z Z) Z (js Z (jr ?_))))))))
 refine aJ Z ?_
 rw[Bool.cond_false_right];rfl
theorem J5:MQ h1 h2 133 [db t] [] (Plain (eB !t.term)):=by
 refine aL ?_ Z
 refine jB 6 h1 h2 Tryz.func133 Z fun O hF=>?_
 refine ae (jx Z (js Z (ba (js Z (bP Z (uc h1 h2) 5000 Z (ab Z (jr ?_)))))))
 refine aJ Z ?_
 first|rfl|skip
def vK(ts:List Tm):Int:=if ts.all Tm.term=true then -1 else(ts.findIdx fun t=>!t.term:Nat)
theorem BA{ts:List Tm}(h: ∀j (hj:j<ts.length),Tm.term ts[j]=true):vK ts= -1:=by rw[vK,if_pos (ki h)]
theorem CW{ts:List Tm}{i:Nat}(hi:i<ts.length)(h: ∀j (hj:j<ts.length),j<i→Tm.term ts[j]=true)(hn:Tm.term ts[i]=false):vK ts=i:=by
 rw[vK,if_neg (by rw[jg i hi hn];decide)]
 exact congrArg Nat.cast ((List.findIdx_eq hi).2 ⟨by simp[hn],fun j hj=>by simp[h j (by omega) hj]⟩)
theorem Bz{ts:List Tm}:decide (vK ts≥0)= !ts.all Tm.term:=by
 unfold vK
 cases h:ts.all Tm.term<;>simp
theorem JZ:MQ h1 h2 162 [cb ts,.c (.fn 133 [])] [] (Plain (eI (vK ts))):=by
 refine aL ?_ Z
 refine jB 19 h1 h2 Tryz.func162 Z fun O hF=>?_
 have hl:ts.length≤L:=by simpa[As.fact,A.fact,M.fact,D.fact,Ds.fact]using hF.1.1
 refine ae (js Z (jn (af (ae (js Z (dh Z (js Z (jn (ao (aw (X:=Nat) (fun i=>⟨[(0,cb ts),(1,.c (.fn 133 [])),(7,eI ts.length),(8,eI i)],[]⟩) (fun i=>i≤ts.length∧∀j (h:j<ts.length),j<i→Tm.term ts[j]=true) (fun i=>ts.length-i) 0 (Ent.env ⟨Z,Z,Z,Z,ap⟩) ?_ (fun i hi=>?_)))))))))))
 exact⟨cT _,fun j h hj=>absurd hj (Nat.not_lt_zero j)⟩
 refine ae (js Z (jn (af (ah Z (fun z9=>?_) (fun z9=>?_)))))
 try simp only[bG]at z9
 refine aj (af (ao (ae (ab Z (ba (aH Z (nN Z Z (js Z (bP Z (J5 h1 h2) 17000 Z (jn (ah Z (fun z16=>?_) (fun z16=>?_))))))))))))
 try simp only[bG]at z16
 refine ae (ab Z (jr ?_))
 refine aJ Z ?_
 rw[Int.toNat_natCast,aD (by omega)]at z16
 rw[CW (by omega) hi.2 z16]
 try simp only[bG]at z16
 refine aj (ak (ji Z (js Z (jn ?_))))
 refine⟨i+1,Ent.env ⟨Z,Z,Z,Z,ap⟩,⟨by omega,fun j h hj=>?_⟩,by omega⟩
 by_cases e:j=i
 subst e;rw[Int.toNat_natCast,aD h]at z16;exact z16
 exact hi.2 j h (by omega)
 try simp only[bG]at z9
 refine bg (ae (js Z (jr ?_)))
 refine aJ Z ?_
 rw[BA (fun j hj=>hi.2 j hj (by omega))]
theorem J6:MQ h1 h2 132 [cb ts,.c (.fn 133 [])] [] (Plain (eB !ts.all Tm.term)):=by
 refine aL ?_ Z
 refine jB 9 h1 h2 Tryz.func132 Z fun O hF=>?_
 refine ae (js Z (ba (ab Z (du O Z Z Z Z (JZ h1 h2) (.cons (.c .d) (.cons (.c (.fn .nil)) .nil)) Z Z Z Z Z (B0:=8000) Z (ab Z (jr ?_))))))
 refine aJ Z ?_
 exact congrArg eB Bz
theorem Eo:MQ h1 h2 85 [cb ts,eI n] [] (Plain (eB (terms ts n))):=by
 refine aL ?_ Z
 refine jB 14 h1 h2 Tryz.func85 Z fun O hF=>?_
 refine ae (js Z (ba (js Z (dh Z (aH Z (aA 3 Z Z Z (fun hx=>ax hx Z (bA O hx Z Z Z Z (J6 h1 h2) (.cons (.c .d) (.cons (.c (.fn .nil)) .nil)) Z Z Z Z Z Z Z (B0:=12000) Z (ax hx Z (AN.nil)))) Z Z (av (ay O Z Z Z Z Z) Z (js Z (jr ?_)))))))))
 refine aJ Z ?_
 rw[Bool.cond_false_right,Bool.not_not,Bool.and_comm];rfl
theorem Hc:MQ h1 h2 164 [eI x] [] (Plain (eB (ft 0 3 x))):=by
 refine aL ?_ Z
 refine jB 5 h1 h2 Tryz.func164 Z fun O hF=>?_
 refine ae (js Z (ba (js Z (bP Z (p9 h1 h2) 5000 Z (js Z (jr ?_))))))
 refine aJ Z ?_
 first|rfl|skip
theorem J0:MQ h1 h2 165 [eI x] [] (Plain (eB (ft 0 3 x))):=by
 refine aL ?_ Z
 refine jB 5 h1 h2 Tryz.func165 Z fun O hF=>?_
 refine ae (js Z (ba (js Z (bP Z (p9 h1 h2) 5000 Z (js Z (jr ?_))))))
 refine aJ Z ?_
 first|rfl|skip
theorem Hf:MQ h1 h2 92 [eI x] [] (Plain (eB (mO x))):=by
 refine aL ?_ Z
 refine jB 5 h1 h2 Tryz.func92 Z fun O hF=>?_
 refine ae (js Z (ba (js Z (bP Z (p9 h1 h2) 5000 Z (js Z (jr ?_))))))
 refine aJ Z ?_
 first|rfl|skip
def cC(s:Sm):Int:=if bz s=true then bC s.kind else -1

theorem cB{t:Tm}(h:t.zero=true):t.term=true:=by
 simp only[Tm.zero,bS,decide_eq_true_eq]at h
 obtain⟨h1,h2⟩:=h
 have h3:t.xs=[]:=List.eq_nil_of_length_eq_zero (by omega)
 simp[Tm.term,Tm.ok,num,h1,h3]
theorem ke{ts:List Tm}(h:decide ((ts.length:Int)=0)=true):terms ts 6=true:=by
 have h3:ts=[]:=List.eq_nil_of_length_eq_zero (by have:=bK h;omega)
 subst h3;rfl
theorem kd{ts:List Tm}:decide ((0:Int)<ts.length)= !decide ((ts.length:Int)=0):=by
 by_cases h:(ts.length:Int)=0
 simp[h]
 have:(0:Int)<ts.length:=by omega
 simp only[h,this,decide_true,decide_false,Bool.not_false]
def sR(n8 st it tf su sz ix iz k8 fp na v3 v0 k5 e3 e0:Bool):Bool:=
  bif (bif (bif (bif !n8 then true else !st)then true else !it)then true else !tf)then false
  else bif (bif (bif (bif !su then !sz else false)then true else(bif !ix then !iz else false))then true else(bif !k8 then fp else false))then false
  else bif (bif (bif na then !v3 else false)then true else(bif !na then !v0 else false))then false
  else bif k5 then e3 else e0
theorem kb0: ∀st it tf sz iz f0 v3 v0 e3 e0:Bool,(sz=true→st=true)→(iz=true→it=true)→(f0=true→tf=true)→sR true st it tf false sz false iz false (!f0) false v3 v0 false e3 e0=(bif (bif (bif (bif v0 then e0 else false)then sz else false)then iz else false)then f0 else false):=by decide
theorem G7(s:Sm)(hk:decide (s.kind=0)=true):bz s=(bif (bif (bif (bif decide (s.var=0)then decide (s.event=0)else false)then s.sum.zero else false)then s.index.zero else false)then decide ((s.facts.length:Int)=0)else false):=by
 rw[←kb0 s.sum.term s.index.term (terms s.facts 6) s.sum.zero s.index.zero (decide ((s.facts.length:Int)=0)) (ft 0 3 s.var) (decide (s.var=0)) (ft 0 3 s.event) (decide (s.event=0)) cB cB ke,←kd]
 cases s with
 | mk kind var event sum index facts=>
  have hk:=bK hk
  simp only at hk
  subst hk
  rfl
theorem kb1: ∀st it tf sz iz f0 v3 v0 e3 e0:Bool,(sz=true→st=true)→(iz=true→it=true)→(f0=true→tf=true)→sR true st it tf false sz false iz false (!f0) false v3 v0 false e3 e0=(bif (bif (bif (bif v0 then e0 else false)then sz else false)then iz else false)then f0 else false):=by decide
theorem G6(s:Sm)(hk:decide (s.kind=1)=true):bz s=(bif (bif (bif (bif decide (s.var=0)then decide (s.event=0)else false)then s.sum.zero else false)then s.index.zero else false)then decide ((s.facts.length:Int)=0)else false):=by
 rw[←kb1 s.sum.term s.index.term (terms s.facts 6) s.sum.zero s.index.zero (decide ((s.facts.length:Int)=0)) (ft 0 3 s.var) (decide (s.var=0)) (ft 0 3 s.event) (decide (s.event=0)) cB cB ke,←kd]
 cases s with
 | mk kind var event sum index facts=>
  have hk:=bK hk
  simp only at hk
  subst hk
  rfl
theorem kb2: ∀st it tf sz iz f0 v3 v0 e3 e0:Bool,(sz=true→st=true)→(iz=true→it=true)→(f0=true→tf=true)→sR true st it tf true sz false iz false (!f0) true v3 v0 false e3 e0=(bif (bif (bif (bif v3 then e0 else false)then st else false)then iz else false)then f0 else false):=by decide
theorem G5(s:Sm)(hk:decide (s.kind=2)=true):bz s=(bif (bif (bif (bif ft 0 3 s.var then decide (s.event=0)else false)then s.sum.term else false)then s.index.zero else false)then decide ((s.facts.length:Int)=0)else false):=by
 rw[←kb2 s.sum.term s.index.term (terms s.facts 6) s.sum.zero s.index.zero (decide ((s.facts.length:Int)=0)) (ft 0 3 s.var) (decide (s.var=0)) (ft 0 3 s.event) (decide (s.event=0)) cB cB ke,←kd]
 cases s with
 | mk kind var event sum index facts=>
  have hk:=bK hk
  simp only at hk
  subst hk
  rfl
theorem kb3: ∀st it tf sz iz f0 v3 v0 e3 e0:Bool,(sz=true→st=true)→(iz=true→it=true)→(f0=true→tf=true)→sR true st it tf false sz true iz false (!f0) true v3 v0 false e3 e0=(bif (bif (bif (bif v3 then e0 else false)then sz else false)then it else false)then f0 else false):=by decide
theorem G0(s:Sm)(hk:decide (s.kind=3)=true):bz s=(bif (bif (bif (bif ft 0 3 s.var then decide (s.event=0)else false)then s.sum.zero else false)then s.index.term else false)then decide ((s.facts.length:Int)=0)else false):=by
 rw[←kb3 s.sum.term s.index.term (terms s.facts 6) s.sum.zero s.index.zero (decide ((s.facts.length:Int)=0)) (ft 0 3 s.var) (decide (s.var=0)) (ft 0 3 s.event) (decide (s.event=0)) cB cB ke,←kd]
 cases s with
 | mk kind var event sum index facts=>
  have hk:=bK hk
  simp only at hk
  subst hk
  rfl
theorem kb4: ∀st it tf sz iz f0 v3 v0 e3 e0:Bool,(sz=true→st=true)→(iz=true→it=true)→(f0=true→tf=true)→sR true st it tf true sz true iz false (!f0) false v3 v0 false e3 e0=(bif (bif (bif (bif v0 then e0 else false)then st else false)then it else false)then f0 else false):=by decide
theorem GZ(s:Sm)(hk:decide (s.kind=4)=true):bz s=(bif (bif (bif (bif decide (s.var=0)then decide (s.event=0)else false)then s.sum.term else false)then s.index.term else false)then decide ((s.facts.length:Int)=0)else false):=by
 rw[←kb4 s.sum.term s.index.term (terms s.facts 6) s.sum.zero s.index.zero (decide ((s.facts.length:Int)=0)) (ft 0 3 s.var) (decide (s.var=0)) (ft 0 3 s.event) (decide (s.event=0)) cB cB ke,←kd]
 cases s with
 | mk kind var event sum index facts=>
  have hk:=bK hk
  simp only at hk
  subst hk
  rfl
theorem kb5: ∀st it tf sz iz f0 v3 v0 e3 e0:Bool,(sz=true→st=true)→(iz=true→it=true)→(f0=true→tf=true)→sR true st it tf false sz false iz false (!f0) false v3 v0 true e3 e0=(bif (bif (bif (bif v0 then e3 else false)then sz else false)then iz else false)then f0 else false):=by decide
theorem GY(s:Sm)(hk:decide (s.kind=5)=true):bz s=(bif (bif (bif (bif decide (s.var=0)then ft 0 3 s.event else false)then s.sum.zero else false)then s.index.zero else false)then decide ((s.facts.length:Int)=0)else false):=by
 rw[←kb5 s.sum.term s.index.term (terms s.facts 6) s.sum.zero s.index.zero (decide ((s.facts.length:Int)=0)) (ft 0 3 s.var) (decide (s.var=0)) (ft 0 3 s.event) (decide (s.event=0)) cB cB ke,←kd]
 cases s with
 | mk kind var event sum index facts=>
  have hk:=bK hk
  simp only at hk
  subst hk
  rfl
theorem kb6: ∀st it tf sz iz f0 v3 v0 e3 e0:Bool,(sz=true→st=true)→(iz=true→it=true)→(f0=true→tf=true)→sR true st it tf true sz false iz false (!f0) false v3 v0 false e3 e0=(bif (bif (bif (bif v0 then e0 else false)then st else false)then iz else false)then f0 else false):=by decide
theorem GX(s:Sm)(hk:decide (s.kind=6)=true):bz s=(bif (bif (bif (bif decide (s.var=0)then decide (s.event=0)else false)then s.sum.term else false)then s.index.zero else false)then decide ((s.facts.length:Int)=0)else false):=by
 rw[←kb6 s.sum.term s.index.term (terms s.facts 6) s.sum.zero s.index.zero (decide ((s.facts.length:Int)=0)) (ft 0 3 s.var) (decide (s.var=0)) (ft 0 3 s.event) (decide (s.event=0)) cB cB ke,←kd]
 cases s with
 | mk kind var event sum index facts=>
  have hk:=bK hk
  simp only at hk
  subst hk
  rfl
theorem kb7: ∀st it tf sz iz f0 v3 v0 e3 e0:Bool,(sz=true→st=true)→(iz=true→it=true)→(f0=true→tf=true)→sR true st it tf true sz false iz false (!f0) false v3 v0 false e3 e0=(bif (bif (bif (bif v0 then e0 else false)then st else false)then iz else false)then f0 else false):=by decide
theorem GW(s:Sm)(hk:decide (s.kind=7)=true):bz s=(bif (bif (bif (bif decide (s.var=0)then decide (s.event=0)else false)then s.sum.term else false)then s.index.zero else false)then decide ((s.facts.length:Int)=0)else false):=by
 rw[←kb7 s.sum.term s.index.term (terms s.facts 6) s.sum.zero s.index.zero (decide ((s.facts.length:Int)=0)) (ft 0 3 s.var) (decide (s.var=0)) (ft 0 3 s.event) (decide (s.event=0)) cB cB ke,←kd]
 cases s with
 | mk kind var event sum index facts=>
  have hk:=bK hk
  simp only at hk
  subst hk
  rfl
theorem kb8: ∀st it tf sz iz f0 v3 v0 e3 e0:Bool,(sz=true→st=true)→(iz=true→it=true)→(f0=true→tf=true)→sR true st it tf true sz false iz true (!f0) false v3 v0 false e3 e0=(bif (bif (bif (bif v0 then e0 else false)then st else false)then iz else false)then tf else false):=by decide
theorem GV(s:Sm)(hk:decide (s.kind=8)=true):bz s=(bif (bif (bif (bif decide (s.var=0)then decide (s.event=0)else false)then s.sum.term else false)then s.index.zero else false)then terms s.facts 6 else false):=by
 rw[←kb8 s.sum.term s.index.term (terms s.facts 6) s.sum.zero s.index.zero (decide ((s.facts.length:Int)=0)) (ft 0 3 s.var) (decide (s.var=0)) (ft 0 3 s.event) (decide (s.event=0)) cB cB ke,←kd]
 cases s with
 | mk kind var event sum index facts=>
  have hk:=bK hk
  simp only at hk
  subst hk
  rfl
theorem J1{s:Sm}:MQ h1 h2 135 [aSm s] [] (Plain (eI (cC s))):=by
 refine aL ?_ Z
 refine jB 185 h1 h2 Tryz.func135 Z fun O hF=>?_
 refine ae (jx Z (js Z (jn (af (fZ [_,_,_,_,_,_,_,_,_,_,_,_,_,_,_,_,_,_,_,_,_] [pn [] 0 2,pn [0] 0 2,pn [0,1] 0 2,pn [] 0 2,pn [3] 0 2,pn [3,4] 0 2,aF,ag [6],pe [6,7] 0,pn [] 0 1,pn [9] 0 1,pe (rg 6 5) 1,pn [] 0 2,pn [12] 0 2,pn [12,13] 0 2,pn [12,13,14] 0 2,pn ([0,1,2]++rg 6 6) 2 2,pn (rg 0 12++[16]) 2 2,pn (rg 0 12++[16,17]) 2 2,pn (rg 0 12++[16,17,18]) 2 2,pn (rg 0 20) 2 2] [8,11] [_,_,_] (ai (kc Z (kc Z (V Z))) (ai (kc Z (kc Z (V Z))) (ai (kc Z (kc Z (V Z))) (ai (kc Z (kc Z (V Z))) (ai (kc Z (kc Z (V Z))) (ai (kc Z (kc Z (V Z))) (kc Z (kc Z (ai (bv O (B0:=18000) Z Z Z Z (Ej h1 h2) (ac Z) Z Z Z Z Z) (ai (kc Z (V Z)) (ai (kc Z (V Z)) (ai (bv O (B0:=21000) Z Z Z Z (Ej h1 h2) (ac Z) Z Z Z Z Z) (ai (kc Z (kc Z (V Z))) (ai (kc Z (kc Z (V Z))) (ai (ai (cf O Z Z Z Z Z Z Z Z) (ai (cf O Z Z Z Z Z Z Z Z) (cf O Z Z Z Z Z Z Z Z))) (ai (kc Z (kc Z (V Z))) (cw Z (kc Z trivial)))))))))))))))))) ?_)))))
 refine jw [7,6,5,4,3,2,1,0] Z (b0 ?_)
 refine ae (js Z (jn (af (ae (ab Z (jn (ao (ae (ab Z (jn (ah Z (fun z27=>?_) (fun z27=>?_))))))))))))
 refine ae (ab Z (jf [30,28,26,25,8,7,6,5,4,3,2,1,0] Z (aA 1 Z Z Z (fun hx=>ax hx Z (AN.nil)) Z Z (av (ay O Z Z Z Z Z) Z (js Z (jf [33,28,26,25,8,7,6,5,4,3,2,1,0] Z (aA 1 Z Z Z (fun hx=>ax hx Z (AN.nil)) Z Z (av (ay O Z Z Z Z Z) Z (js Z (jf [36,28,26,25,8,7,6,5,4,3,2,1,0] Z (aA 1 Z Z Z (fun hx=>ax hx Z (AN.nil)) Z Z (av (ay O Z Z Z Z Z) Z (js Z (jf [39,28,26,25,8,7,6,5,4,3,2,1,0] Z (aA 1 Z Z Z (fun hx=>ax hx Z (AN.nil)) Z Z (av (ay O Z Z Z Z Z) Z (jf [41,28,26,25,8,7,6,5,4,3,2,1,0] Z (jn (ah Z (fun z41=>?_) (fun z41=>?_))))))))))))))))))))
 refine ak (js Z (jn (ae (ab Z (jf [2,28,26,25,7,6,5,4,3,1,0] Z (jr ?_))))))
 refine aJ Z ?_
 rw[cC,G7 s z27,z41]
 simp[bC,bK z27]
 refine aj (ae (ab Z (jf [2,28,26,25,7,6,5,4,3,1,0] Z (jr ?_))))
 refine aJ Z ?_
 rw[cC,G7 s z27,z41]
 simp
 refine ae (ab Z (jf [42,28,26,25,8,7,6,5,4,3,2,1,0] Z (jn (ah Z (fun z42=>?_) (fun z42=>?_)))))
 refine ae (ab Z (jf [45,28,26,25,8,7,6,5,4,3,2,1,0] Z (aA 1 Z Z Z (fun hx=>ax hx Z (AN.nil)) Z Z (av (ay O Z Z Z Z Z) Z (js Z (jf [48,28,26,25,8,7,6,5,4,3,2,1,0] Z (aA 1 Z Z Z (fun hx=>ax hx Z (AN.nil)) Z Z (av (ay O Z Z Z Z Z) Z (js Z (jf [51,28,26,25,8,7,6,5,4,3,2,1,0] Z (aA 1 Z Z Z (fun hx=>ax hx Z (AN.nil)) Z Z (av (ay O Z Z Z Z Z) Z (js Z (jf [54,28,26,25,8,7,6,5,4,3,2,1,0] Z (aA 1 Z Z Z (fun hx=>ax hx Z (AN.nil)) Z Z (av (ay O Z Z Z Z Z) Z (jf [56,28,26,25,8,7,6,5,4,3,2,1,0] Z (jn (ah Z (fun z56=>?_) (fun z56=>?_))))))))))))))))))))
 refine ak (js Z (jn (ae (ab Z (jf [2,28,26,25,7,6,5,4,3,1,0] Z (jr ?_))))))
 refine aJ Z ?_
 rw[cC,G6 s z42,z56]
 simp[bC,bK z42]
 refine aj (ae (ab Z (jf [2,28,26,25,7,6,5,4,3,1,0] Z (jr ?_))))
 refine aJ Z ?_
 rw[cC,G6 s z42,z56]
 simp
 refine ae (ab Z (jf [57,28,26,25,8,7,6,5,4,3,2,1,0] Z (jn (ah Z (fun z57=>?_) (fun z57=>?_)))))
 refine ae (ab Z (jf [60,28,26,25,8,7,6,5,4,3,2,1,0] Z (bP Z (Hc h1 h2) 62000 Z (js Z (jf [62,28,26,25,8,7,6,5,4,3,2,1,0] Z (aA 1 Z Z Z (fun hx=>ax hx Z (AN.nil)) Z Z (av (ay O Z Z Z Z Z) Z (js Z (jf [65,28,26,25,8,7,6,5,4,3,2,1,0] Z (aA 3 Z Z Z (fun hx=>ax hx Z (ax hx Z (bA O hx Z Z Z Z (uc h1 h2) (ac Z) Z Z Z Z Z Z Z (B0:=69000) Z (AN.nil)))) Z Z (av (ay O Z Z Z Z Z) Z (js Z (jf [70,28,26,25,8,7,6,5,4,3,2,1,0] Z (aA 1 Z Z Z (fun hx=>ax hx Z (AN.nil)) Z Z (av (ay O Z Z Z Z Z) Z (js Z (jf [73,28,26,25,8,7,6,5,4,3,2,1,0] Z (aA 1 Z Z Z (fun hx=>ax hx Z (AN.nil)) Z Z (av (ay O Z Z Z Z Z) Z (jf [75,28,26,25,8,7,6,5,4,3,2,1,0] Z (jn (ah Z (fun z75=>?_) (fun z75=>?_)))))))))))))))))))))))
 refine ak (js Z (jn (ae (ab Z (jf [2,28,26,25,7,6,5,4,3,1,0] Z (jr ?_))))))
 refine aJ Z ?_
 rw[cC,G5 s z57,z75]
 simp[bC,bK z57]
 refine aj (ae (ab Z (jf [2,28,26,25,7,6,5,4,3,1,0] Z (jr ?_))))
 refine aJ Z ?_
 rw[cC,G5 s z57,z75]
 simp
 refine ae (ab Z (jf [76,28,26,25,8,7,6,5,4,3,2,1,0] Z (jn (ah Z (fun z76=>?_) (fun z76=>?_)))))
 refine ae (ab Z (jf [79,28,26,25,8,7,6,5,4,3,2,1,0] Z (bP Z (Hc h1 h2) 81000 Z (js Z (jf [81,28,26,25,8,7,6,5,4,3,2,1,0] Z (aA 1 Z Z Z (fun hx=>ax hx Z (AN.nil)) Z Z (av (ay O Z Z Z Z Z) Z (js Z (jf [84,28,26,25,8,7,6,5,4,3,2,1,0] Z (aA 1 Z Z Z (fun hx=>ax hx Z (AN.nil)) Z Z (av (ay O Z Z Z Z Z) Z (js Z (jf [87,28,26,25,8,7,6,5,4,3,2,1,0] Z (aA 3 Z Z Z (fun hx=>ax hx Z (ax hx Z (bA O hx Z Z Z Z (uc h1 h2) (ac Z) Z Z Z Z Z Z Z (B0:=91000) Z (AN.nil)))) Z Z (av (ay O Z Z Z Z Z) Z (js Z (jf [92,28,26,25,8,7,6,5,4,3,2,1,0] Z (aA 1 Z Z Z (fun hx=>ax hx Z (AN.nil)) Z Z (av (ay O Z Z Z Z Z) Z (jf [94,28,26,25,8,7,6,5,4,3,2,1,0] Z (jn (ah Z (fun z94=>?_) (fun z94=>?_)))))))))))))))))))))))
 refine ak (js Z (jn (ae (ab Z (jf [2,28,26,25,7,6,5,4,3,1,0] Z (jr ?_))))))
 refine aJ Z ?_
 rw[cC,G0 s z76,z94]
 simp[bC,bK z76]
 refine aj (ae (ab Z (jf [2,28,26,25,7,6,5,4,3,1,0] Z (jr ?_))))
 refine aJ Z ?_
 rw[cC,G0 s z76,z94]
 simp
 refine ae (ab Z (jf [95,28,26,25,8,7,6,5,4,3,2,1,0] Z (jn (ah Z (fun z95=>?_) (fun z95=>?_)))))
 refine ae (ab Z (jf [98,28,26,25,8,7,6,5,4,3,2,1,0] Z (aA 1 Z Z Z (fun hx=>ax hx Z (AN.nil)) Z Z (av (ay O Z Z Z Z Z) Z (js Z (jf [101,28,26,25,8,7,6,5,4,3,2,1,0] Z (aA 3 Z Z Z (fun hx=>ax hx Z (ax hx Z (bA O hx Z Z Z Z (uc h1 h2) (ac Z) Z Z Z Z Z Z Z (B0:=105000) Z (AN.nil)))) Z Z (av (ay O Z Z Z Z Z) Z (js Z (jf [106,28,26,25,8,7,6,5,4,3,2,1,0] Z (aA 3 Z Z Z (fun hx=>ax hx Z (ax hx Z (bA O hx Z Z Z Z (uc h1 h2) (ac Z) Z Z Z Z Z Z Z (B0:=110000) Z (AN.nil)))) Z Z (av (ay O Z Z Z Z Z) Z (js Z (jf [111,28,26,25,8,7,6,5,4,3,2,1,0] Z (aA 1 Z Z Z (fun hx=>ax hx Z (AN.nil)) Z Z (av (ay O Z Z Z Z Z) Z (jf [113,28,26,25,8,7,6,5,4,3,2,1,0] Z (jn (ah Z (fun z113=>?_) (fun z113=>?_))))))))))))))))))))
 refine ak (js Z (jn (ae (ab Z (jf [2,28,26,25,7,6,5,4,3,1,0] Z (jr ?_))))))
 refine aJ Z ?_
 rw[cC,GZ s z95,z113]
 simp[bC,bK z95]
 refine aj (ae (ab Z (jf [2,28,26,25,7,6,5,4,3,1,0] Z (jr ?_))))
 refine aJ Z ?_
 rw[cC,GZ s z95,z113]
 simp
 refine ae (ab Z (jf [114,28,26,25,8,7,6,5,4,3,2,1,0] Z (jn (ah Z (fun z114=>?_) (fun z114=>?_)))))
 refine ae (ab Z (jf [117,28,26,25,8,7,6,5,4,3,2,1,0] Z (aA 3 Z Z Z (fun hx=>ax hx Z (ax hx Z (bA O hx Z Z Z Z (J0 h1 h2) (ac Z) Z Z Z Z Z Z Z (B0:=121000) Z (AN.nil)))) Z Z (av (ay O Z Z Z Z Z) Z (js Z (jf [122,28,26,25,8,7,6,5,4,3,2,1,0] Z (aA 1 Z Z Z (fun hx=>ax hx Z (AN.nil)) Z Z (av (ay O Z Z Z Z Z) Z (js Z (jf [125,28,26,25,8,7,6,5,4,3,2,1,0] Z (aA 1 Z Z Z (fun hx=>ax hx Z (AN.nil)) Z Z (av (ay O Z Z Z Z Z) Z (js Z (jf [128,28,26,25,8,7,6,5,4,3,2,1,0] Z (aA 1 Z Z Z (fun hx=>ax hx Z (AN.nil)) Z Z (av (ay O Z Z Z Z Z) Z (jf [130,28,26,25,8,7,6,5,4,3,2,1,0] Z (jn (ah Z (fun z130=>?_) (fun z130=>?_))))))))))))))))))))
 refine ak (js Z (jn (ae (ab Z (jf [2,28,26,25,7,6,5,4,3,1,0] Z (jr ?_))))))
 refine aJ Z ?_
 rw[cC,GY s z114,z130]
 simp[bC,bK z114]
 refine aj (ae (ab Z (jf [2,28,26,25,7,6,5,4,3,1,0] Z (jr ?_))))
 refine aJ Z ?_
 rw[cC,GY s z114,z130]
 simp
 refine ae (ab Z (jf [131,28,26,25,8,7,6,5,4,3,2,1,0] Z (jn (ah Z (fun z131=>?_) (fun z131=>?_)))))
 refine ae (ab Z (jf [134,28,26,25,8,7,6,5,4,3,2,1,0] Z (aA 1 Z Z Z (fun hx=>ax hx Z (AN.nil)) Z Z (av (ay O Z Z Z Z Z) Z (js Z (jf [137,28,26,25,8,7,6,5,4,3,2,1,0] Z (aA 3 Z Z Z (fun hx=>ax hx Z (ax hx Z (bA O hx Z Z Z Z (uc h1 h2) (ac Z) Z Z Z Z Z Z Z (B0:=141000) Z (AN.nil)))) Z Z (av (ay O Z Z Z Z Z) Z (js Z (jf [142,28,26,25,8,7,6,5,4,3,2,1,0] Z (aA 1 Z Z Z (fun hx=>ax hx Z (AN.nil)) Z Z (av (ay O Z Z Z Z Z) Z (js Z (jf [145,28,26,25,8,7,6,5,4,3,2,1,0] Z (aA 1 Z Z Z (fun hx=>ax hx Z (AN.nil)) Z Z (av (ay O Z Z Z Z Z) Z (jf [147,28,26,25,8,7,6,5,4,3,2,1,0] Z (jn (ah Z (fun z147=>?_) (fun z147=>?_))))))))))))))))))))
 refine ak (js Z (jn (ae (ab Z (jf [2,28,26,25,7,6,5,4,3,1,0] Z (jr ?_))))))
 refine aJ Z ?_
 rw[cC,GX s z131,z147]
 simp[bC,bK z131]
 refine aj (ae (ab Z (jf [2,28,26,25,7,6,5,4,3,1,0] Z (jr ?_))))
 refine aJ Z ?_
 rw[cC,GX s z131,z147]
 simp
 refine ae (ab Z (jf [148,28,26,25,8,7,6,5,4,3,2,1,0] Z (jn (ah Z (fun z148=>?_) (fun z148=>?_)))))
 refine ae (ab Z (jf [151,28,26,25,8,7,6,5,4,3,2,1,0] Z (aA 1 Z Z Z (fun hx=>ax hx Z (AN.nil)) Z Z (av (ay O Z Z Z Z Z) Z (js Z (jf [154,28,26,25,8,7,6,5,4,3,2,1,0] Z (aA 3 Z Z Z (fun hx=>ax hx Z (ax hx Z (bA O hx Z Z Z Z (uc h1 h2) (ac Z) Z Z Z Z Z Z Z (B0:=158000) Z (AN.nil)))) Z Z (av (ay O Z Z Z Z Z) Z (js Z (jf [159,28,26,25,8,7,6,5,4,3,2,1,0] Z (aA 1 Z Z Z (fun hx=>ax hx Z (AN.nil)) Z Z (av (ay O Z Z Z Z Z) Z (js Z (jf [162,28,26,25,8,7,6,5,4,3,2,1,0] Z (aA 1 Z Z Z (fun hx=>ax hx Z (AN.nil)) Z Z (av (ay O Z Z Z Z Z) Z (jf [164,28,26,25,8,7,6,5,4,3,2,1,0] Z (jn (ah Z (fun z164=>?_) (fun z164=>?_))))))))))))))))))))
 refine ak (js Z (jn (ae (ab Z (jf [2,28,26,25,7,6,5,4,3,1,0] Z (jr ?_))))))
 refine aJ Z ?_
 rw[cC,GW s z148,z164]
 simp[bC,bK z148]
 refine aj (ae (ab Z (jf [2,28,26,25,7,6,5,4,3,1,0] Z (jr ?_))))
 refine aJ Z ?_
 rw[cC,GW s z148,z164]
 simp
 refine ae (ab Z (jf [165,28,26,25,8,7,6,5,4,3,2,1,0] Z (jn (ah Z (fun z165=>?_) (fun z165=>?_)))))
 refine ae (ab Z (jf [168,28,26,25,8,7,6,5,4,3,2,1,0] Z (aA 1 Z Z Z (fun hx=>ax hx Z (AN.nil)) Z Z (av (ay O Z Z Z Z Z) Z (js Z (jf [171,28,26,25,8,7,6,5,4,3,2,1,0] Z (aA 3 Z Z Z (fun hx=>ax hx Z (ax hx Z (bA O hx Z Z Z Z (uc h1 h2) (ac Z) Z Z Z Z Z Z Z (B0:=175000) Z (AN.nil)))) Z Z (av (ay O Z Z Z Z Z) Z (js Z (jf [176,28,26,25,8,7,6,5,4,3,2,1,0] Z (aA 1 Z Z Z (fun hx=>ax hx Z (AN.nil)) Z Z (av (ay O Z Z Z Z Z) Z (js Z (jf [179,28,26,25,8,7,6,5,4,3,2,1,0] Z (aA 3 Z Z Z (fun hx=>ax hx Z (ax hx Z (bA O hx Z Z Z Z (Eo h1 h2) (ac Z) Z Z Z Z Z Z Z (B0:=183000) Z (AN.nil)))) Z Z (av (ay O Z Z Z Z Z) Z (jf [183,28,26,25,8,7,6,5,4,3,2,1,0] Z (jn (ah Z (fun z183=>?_) (fun z183=>?_))))))))))))))))))))
 refine ak (js Z (jn (ae (ab Z (jf [2,28,26,25,7,6,5,4,3,1,0] Z (jr ?_))))))
 refine aJ Z ?_
 rw[cC,GV s z165,z183]
 simp[bC,bK z165]
 refine aj (ae (ab Z (jf [2,28,26,25,7,6,5,4,3,1,0] Z (jr ?_))))
 refine aJ Z ?_
 rw[cC,GV s z165,z183]
 simp
 refine aj (ae (ab Z (jf [2,28,26,25,7,6,5,4,3,1,0] Z (jr ?_))))
 refine aJ Z ?_
 have hn:(decide (0≤s.kind)&&decide (s.kind≤8))=false:=by
  have:=cu z27
  have:=cu z42
  have:=cu z57
  have:=cu z76
  have:=cu z95
  have:=cu z114
  have:=cu z131
  have:=cu z148
  have:=cu z165
  rw[←Bool.not_eq_true];intro h;simp only[bS,decide_eq_true_eq]at h;omega
 rw[cC,bz,show rJ s=true by unfold rJ;rw[hn];rfl];rfl
inductive Tr where
  | node (s:Sm) (at_:Int) (kids:List Tr)
mutual
def Tr.d:Tr→D
  | .node s a ks=>.ptr [.int .i64 s.kind,.int .i64 s.var,.int .i64 s.event,.int .i64 s.sum.c,cY s.sum.xs,.int .i64 s.index.c,cY s.index.xs,fC s.facts,.int .i64 a,.slc 1 (Trs.d ks)] 0
def Trs.d:List Tr→List (List D)
  | []=>[]
  | t::r=>[t.d]::Trs.d r
end
theorem gW: ∀{ts:List Tr},(Trs.d ts).length=ts.length
 | []=>rfl
 | t::r=>by simp[Trs.d,gW]
theorem rq: ∀{ts:List Tr} {t:Tr},Trs.d (ts++[t])=Trs.d ts++[[t.d]]
 | [],t=>rfl
 | u::r,t=>by simp[Trs.d,rq]
def c6(f:Nat→Option (Tr×Nat)):Nat→Nat→Option (List Tr×Nat)
  | 0,k=>some ([],k)
  | q + 1,k=>match f k with
    | none=>none
    | some (t,k')=>(c6 f q k').map fun r=>(t::r.1,r.2)
def cV : Nat→List Sm→Nat→Option (Tr×Nat)
  | 0,_,_=>none
  | n + 1,body,k=>if body.length≤k then none else if cC (body.getD k default)<0 then none else
      (c6 (cV n body) (cC (body.getD k default)).toNat (k+1)).map fun r=>(.node (body.getD k default) k r.1,r.2)
theorem dN{f:Nat→Option (Tr×Nat)}{q k k':Nat}{t:Tr}(h:f k=some (t,k')):c6 f (q+1) k=(c6 f q k').map fun r=>(t::r.1,r.2):=by rw[c6,h]
theorem eJ{f:Nat→Option (Tr×Nat)}{q k:Nat}(h:f k=none):c6 f (q+1) k=none:=by rw[c6,h]
theorem uP{f:Nat→Option (Tr×Nat)}{N:Nat}(hf: ∀k t k',f k=some (t,k')→k<k'∧k'≤N): ∀{q k ts k'},c6 f q k=some (ts,k')→k≤N→k≤k'∧k'≤N
 | 0,k,ts,k',h,hk=>by simp[c6]at h;omega
 | q + 1,k,ts,k',h,hk=>by
  unfold c6 at h
  cases hx:f k with
  | none=>rw[hx]at h;cases h
  | some x=>
   obtain⟨t,k1⟩:=x
   rw[hx]at h
   simp only[Option.map_eq_some_iff]at h
   obtain⟨⟨ts1,k2⟩,h1,h2⟩:=h
   simp only[Prod.mk.injEq]at h2
   have h3:=hf k t k1 hx
   have h4:=uP hf h1 h3.2
   omega
theorem iy: ∀{n body k t k'},cV n body k=some (t,k')→k<k'∧k'≤body.length
 | 0,_,_,_,_,h=>by cases h
 | n+1,body,k,t,k',h=>by
  unfold cV at h
  split at h
  cases h
  split at h
  cases h
  simp only[Option.map_eq_some_iff]at h
  obtain⟨⟨ts1,k2⟩,h1,h2⟩:=h
  simp only[Prod.mk.injEq]at h2
  have:=uP (N:=body.length) (fun k t k' h=>iy h) h1 (by omega)
  omega
abbrev tP(r:Option (Tr×Nat)):D:=match r with|some (t,_)=>t.d|none=>.nilp
abbrev tN(r:Option (Tr×Nat)):Int:=match r with|some (_,k)=>k|none=>0
abbrev tB(r:Option (Tr×Nat)):Bool:=match r with|some _=>true|none=>false
abbrev Ed(r:Option (Tr×Nat)):A:=.tup [.c (.d (tP r)),eI (tN r),eB (tB r)]
theorem xA{r:Option (Tr×Nat)}(h:tB r=true): ∃t k,r=some (t,k):=by
 cases r with
 | none=>cases h
 | some x=>exact⟨x.1,x.2,Z⟩
theorem AU{r:Option (Tr×Nat)}(h:tB r=false):r=none:=by
 cases r with
 | none=>rfl
 | some x=>cases h
theorem Bp(s:Sm):cC s≤2:=by
 unfold cC;split
 exact(c7 _).2
 decide
theorem Ii{n k:Nat}(hk:k≤body.length)(hn:body.length<n+1+k)(ih: ∀k',k'≤body.length→body.length<n+k'→MQ h1 h2 87 [.c (.d (kI body)),eI k'] [] (Plain (Ed (cV n body k')))):MQ h1 h2 87 [.c (.d (kI body)),eI k] [] (Plain (Ed (cV (n+1) body k))):=by
 refine jB 58 h1 h2 Tryz.func87 Z fun O hF=>?_
 have hl:body.length≤L:=by simpa[As.fact,A.fact,M.fact,D.fact,Ds.fact]using hF.1.1
 refine ae (aH Z (jn (af (ae (ab Z (dh Z (js Z (jn (ah Z (fun z15=>?_) (fun z15=>?_))))))))))
 try simp only[bG]at z15
 refine ae (aH Z (jr ?_))
 refine⟨.inl Z,_,am [] Z Z (e':=[(4,.c (.d .nilp)),(5,eI 0),(6,eB false)]) ⟨Z,Z,Z,ap⟩ Z,_,Z,?_,Z⟩
 rw[show cV (n+1) body k=none from if_pos (by omega)]
 try simp only[bG]at z15
 refine aj (ae (ab Z (nN Z Z (js Z (bP Z (J1 h1 h2) 21000 Z (js Z (jn (af (ae (ab Z (jn (ah Z (fun z22=>?_) (fun z22=>?_)))))))))))))
 try simp only[bG]at z22
 refine ae (aH Z (jr ?_))
 refine⟨.inl Z,_,am [] Z Z (e':=[(4,.c (.d .nilp)),(5,eI 0),(6,eB false)]) ⟨Z,Z,Z,ap⟩ Z,_,Z,?_,Z⟩
 rw[show cV (n+1) body k=none by unfold cV;rw[if_neg (by omega)];exact if_pos z22]
 try simp only[bG]at z22
 refine aj (ae (ab Z (nN Z Z (aH Z (jx Z (aq ?_))))))
 refine js Z (ba (js Z (ji Z (js Z (jn (af (ao (aw (X:=Nat×Nat×List Tr) (fun x=>⟨[(0,.c (.d (kI body))),(1,eI x.2.1),(7,eI x.1),(8,.c (.pt 29 0 0))],[(29,.box [.d (.int .i64 (body.getD k default).kind),.d (.int .i64 (body.getD k default).var),.d (.int .i64 (body.getD k default).event),.d (.int .i64 (body.getD k default).sum.c),.d (cY (body.getD k default).sum.xs),.d (.int .i64 (body.getD k default).index.c),.d (cY (body.getD k default).index.xs),.d (fC (body.getD k default).facts),.d (.int .i64 k),.rs 700 0 x.2.2.length]),(700,.row false 1 (Trs.d x.2.2))]⟩) (fun x=>x.2.1≤body.length∧k<x.2.1∧c6 (cV n body) (cC (body.getD k default)).toNat (k+1)=(c6 (cV n body) x.1 x.2.1).map (fun r=>(x.2.2++r.1,r.2))∧x.2.2.length+x.1≤2) (fun x=>x.1) ((cC (body.getD k default)).toNat,k+1,[]) ((cz 29 700 1 false 9 Z Z Z).trans (Ent.to ⟨Z,Z,congrArg (fun z=>some (eI z)) (Int.toNat_of_nonneg z22).symm,Z,ap⟩ Z)) ?_ (fun x hi=>?_)))))))))
 exact⟨(show k+1≤body.length by omega),Nat.lt_succ_self k,by simp,by have:=Bp (body.getD k default);show 0+(cC (body.getD k default)).toNat≤2;omega⟩
 refine af (ae (ab Z (jn (ah Z (fun z33=>?_) (fun z33=>?_)))))
 try simp only[bG]at z33
 refine aj (af (ao (ae (ab Z (an O Z Z Z Z (ih x.2.1 hi.1 (by omega)) (ac Z) Z Z Z Z (B0:=40000) Z Z (az Z (aH Z (jn (af (ae (ab Z (jn (ah Z (fun z44=>?_) (fun z44=>?_))))))))))))))
 try simp only[bG]at z44
 refine ae (aH Z (jr ?_))
 refine⟨.inl Z,_,am [] Z Z (e':=[(4,.c (.d .nilp)),(5,eI 0),(6,eB false)]) ⟨Z,Z,Z,ap⟩ Z,_,Z,?_,Z⟩
 have e0:=AU z44
 rw[Int.toNat_natCast]at z22
 rw [show cV (n+1) body k=none by
  unfold cV
  rw[if_neg (by omega),if_neg (by omega),hi.2.2.1]
  obtain⟨q,hq⟩: ∃q,x.1=q+1:=⟨x.1-1,by omega⟩
  rw[hq,eJ e0];rfl]
 try simp only[bG]at z44
 refine aj (ae ?_)
 obtain⟨t1,k1,hr⟩:=xA z44
 obtain⟨s1,a1,ks1⟩:=t1
 rw[hr]
 refine az Z (ab Z (aU (bO O Z Z Z) Z (aq ?_)))
 refine aU (cU (own:=false) O Z (.row Z gW.symm) (.whole Z Z (.inr ⟨Z,Z⟩)) (by simp) Z (by rw[gW];show x.2.2.length+1≤L;omega) (by rw[gW];show(x.2.2.length+1)*8≤_;omega) Z (by rw[cG,gW])) Z (aq ?_)
 refine ab Z (jo Z (aq ?_))
 refine jn (ak (ab Z (jn (ak (js Z (ji Z (js Z (jn ?_))))))))
 refine⟨(x.1-1,k1,x.2.2++[.node s1 a1 ks1]),((am [29,52] (e':=[(0,_),(1,_),(7,_),(8,_)]) Z Z ⟨Z,Z,Z,Z,ap⟩ Z).trans (Ent.sub 52 700 Z Z Z)).trans (Ent.to ⟨Z,Z,?_,Z,ap⟩ ?_),⟨(iy hr).2,by have:=(iy hr).1;show k<k1;omega,?_,?_⟩,?_⟩
 exact congrArg (fun z=>some (eI z)) (by show(x.1:Int)-1=(x.1-1:Nat);omega)
 rw[rq,cG];rfl
 rw[hi.2.2.1]
 obtain⟨q,hq⟩: ∃q,x.1=q+1:=⟨x.1-1,by omega⟩
 rw[hq,dN hr]
 simp[Option.map_map,Function.comp_def]
 show(x.2.2++[_]).length+(x.1-1)≤2;simp;omega
 show x.1-1<x.1;omega
 try simp only[bG]at z33
 refine bg (ae (az Z (js Z (jr ?_))))
 refine⟨.inl Z,_,((Ent.to (e':=[(4,_),(5,_),(6,_)]) ⟨Z,Z,Z,ap⟩ Z).trans (Ent.freeze (e':=[(4,_),(5,_),(6,_)]) 700 Z (.cons Z (.keep Z) (.cons Z (.keep Z) (.cons Z (.keep Z) .nil))) (.cons Z (.box (dw Z (dw Z (dw Z (dw Z (dw Z (dw Z (dw Z (dw Z (dw Z (.cons (.row Z gW.symm) .nil))))))))))) (.skip .nil)))).trans (Ent.freeze (e':=[(4,_),(5,_),(6,_)]) 29 Z (.cons Z (.c (.box (cs:=[.int .i64 (body.getD k default).kind,.int .i64 (body.getD k default).var,.int .i64 (body.getD k default).event,.int .i64 (body.getD k default).sum.c,cY (body.getD k default).sum.xs,.int .i64 (body.getD k default).index.c,cY (body.getD k default).index.xs,fC (body.getD k default).facts,.int .i64 k,.slc 1 (Trs.d x.2.2)]) Z (aE Z))) (.cons Z (.keep Z) (.cons Z (.keep Z) .nil))) (.skip .nil)),_,Z,?_,Z⟩
 have hx:x.1=0:=by omega
 rw[Int.toNat_natCast]at z22
 rw [show cV (n+1) body k=some (.node (body.getD k default) k x.2.2,x.2.1) by
  unfold cV
  rw[if_neg (by omega),if_neg (by omega),hi.2.2.1,hx];simp[c6]]
 rfl
theorem Hg{L:Nat}(h1:4096≤L)(h2:L≤1073741824){body:List Sm}: ∀{n k:Nat},k≤body.length→body.length<n+k→MC Tryz.prog L 87 [.c (.d (kI body)),eI k] [] (Plain (Ed (cV n body k)))
 | 0,k,hk,hn=>by omega
 | n+1,k,hk,hn=>Ii h1 h2 hk hn (fun k' hk' hn'=>Hg h1 h2 hk' hn')
def D6(body:List Sm):Option (Tr×Nat):=cV (body.length+1) body 0
def BR(body:List Sm):D:=if(30:Int)<body.length then .nilp else tP (D6 body)
def vG(body:List Sm):Bool:=if(30:Int)<body.length then false else(tB (D6 body)&&decide (tN (D6 body)=body.length))
def gL(p:Pm):Bool:=vG p.body&&(terms p.pre 6&&terms p.post 6)

theorem Ep:MQ h1 h2 56 [.c (.d (kI body))] [] (Plain (.tup [.c (.d (BR body)),eB (vG body)])):=by
 refine jB 24 h1 h2 Tryz.func56 Z fun O hF=>?_
 have hl:body.length≤L:=by simpa[As.fact,A.fact,M.fact,D.fact,Ds.fact]using hF.1.1
 refine ae (ab Z (jn (af (ae (js Z (dh Z (js Z (jn (ah Z (fun z9=>?_) (fun z9=>?_))))))))))
 try simp only[bG]at z9
 refine ae (ab Z (jr ?_))
 refine⟨.inl Z,_,b9,_,Z,?_,Z⟩
 rw[BR,vG,if_pos z9,if_pos z9]
 try simp only[bG]at z9
 refine aj (ae (js Z (bI [(11,_),(3,_),(2,_),(0,_)] [] ⟨Z,Z,Z,Z,ap⟩ Z (an O Z Z Z Z (Hg (n:=body.length+1) (k:=0) h1 h2 (cT _) (by omega)) (ac Z) Z Z Z Z (B0:=13000) Z Z (az Z (aH Z (ba (aH Z (bI [(18,_),(16,_),(5,_),(3,_),(2,_),(0,_)] [] ⟨Z,Z,Z,Z,Z,Z,ap⟩ Z (aA 4 Z Z Z (fun hx=>ax hx Z (ax hx Z (dD hx (cf O Z Z Z Z Z Z Z Z) Z (ax hx Z (AN.nil))))) Z Z (av (ay O Z Z Z Z Z) Z (ab Z (jr ?_)))))))))))))
 refine⟨.inl Z,_,b9,_,Z,?_,Z⟩
 rw[BR,vG,if_neg (by omega),if_neg (by omega),←Bool.cond_false_right];rfl
theorem J7:MQ h1 h2 84 [.c (.d (kI body))] [] (Plain (eB (vG body))):=by
 refine aL ?_ Z
 refine jB 11 h1 h2 Tryz.func84 Z fun O hF=>?_
 refine ae (js Z (ba (js Z (bI [(6,_),(2,_)] [] ⟨Z,Z,ap⟩ Z (an O Z Z Z Z (Ep h1 h2) (ac Z) Z Z Z Z (B0:=8000) Z Z (az Z (js Z (ba (ab Z (jr ?_))))))))))
 refine aJ Z ?_
 first|rfl|skip
theorem Hi:MQ h1 h2 53 [kK p] [] (Plain (eB (gL p))):=by
 refine aL ?_ Z
 refine jB 16 h1 h2 Tryz.func53 Z fun O hF=>?_
 refine ae (jx Z (js Z (ba (ab Z (jf [4,2,1,0] Z (bP Z (J7 h1 h2) 6000 Z (js Z (jf [6,2,1,0] Z (aA 3 Z Z Z (fun hx=>ax hx Z (ax hx Z (bA O hx Z Z Z Z (Eo h1 h2) (ac Z) Z Z Z Z Z Z Z (B0:=10000) Z (AN.nil)))) Z Z (av (ay O Z Z Z Z Z) Z (js Z (jf [11,2,1,0] Z (aA 3 Z Z Z (fun hx=>ax hx Z (ax hx Z (bA O hx Z Z Z Z (Eo h1 h2) (ac Z) Z Z Z Z Z Z Z (B0:=15000) Z (AN.nil)))) Z Z (av (ay O Z Z Z Z Z) Z (js Z (jf [2,0] Z (jr ?_)))))))))))))))))
 refine aJ Z ?_
 rw[Bool.cond_false_right,Bool.cond_false_right,Bool.and_assoc];rfl
variable{s:Sx}
theorem Ke:MQ h1 h2 54 [GR s] [] (Plain (eB (zk s))):=by
 refine aL ?_ Z
 refine jB 23 h1 h2 Tryz.func54 Z fun O hF=>?_
 refine ae (jx Z (js Z (ba (ab Z (dh Z (ab Z (jf [7,2,1,0] Z (aA 4 Z Z Z (fun hx=>ax hx Z (ax hx Z (dD hx (cf O Z Z Z Z Z Z Z Z) Z (ax hx Z (AN.nil))))) Z Z (av (ay O Z Z Z Z Z) Z (js Z (jf [13,2,1,0] Z (aA 3 Z Z Z (fun hx=>ax hx Z (ax hx Z (bA O hx Z Z Z Z (vM h1 h2) (ac Z) Z Z Z Z Z Z Z (B0:=17000) Z (AN.nil)))) Z Z (av (ay O Z Z Z Z Z) Z (js Z (jf [18,2,1,0] Z (aA 3 Z Z Z (fun hx=>ax hx Z (ax hx Z (bA O hx Z Z Z Z (vM h1 h2) (ac Z) Z Z Z Z Z Z Z (B0:=22000) Z (AN.nil)))) Z Z (av (ay O Z Z Z Z Z) Z (js Z (jf [2,0] Z (jr ?_))))))))))))))))))))
 refine aJ Z ?_
 exact congrArg eB (show(bif bif bif decide ((s.vars.length:Int)=4)then decide ((s.cells.length:Int)=8)else false then s.vars.all mO else false then s.cells.all mO else false)=zk s by unfold zk c9;cases s.vars.all mO<;>cases s.cells.all mO<;>simp)
theorem Kd{v c:List Int}:MQ h1 h2 57 [.agg [.d (cY v),.d (cY c)]] [] (Rows (.agg [.rs 0 0 v.length,.rs 1 0 c.length]) [aO v,aO c]):=by
 refine cH (jB 10 h1 h2 Tryz.func57 Z fun O hF=>?_)
 refine ae (jx Z (jl Z (jn (af (fZ [_,_,_,_,_,_,_,_] [aF,ag [0],pe [0,1] 0,pn [] 0 1,pn [3] 0 1,pe (rg 0 5) 1,pn (rg 0 6) 2 2,pe (rg 0 7) 2] [2,5,7] [_,_,_,_] (kc Z (kc Z (ai (dA O (B0:=6000) Z Z Z Z (vL h1 h2) (ac Z) Z Z Z Z Z) (ai (kc Z (V Z)) (ai (kc Z (V Z)) (ai (dA O (B0:=9000) Z Z Z Z (vL h1 h2) (ac Z) Z Z Z Z Z) (kc Z (ai (eS Z Z Z) trivial)))))))) ?_)))))
 refine ea ?_
 refine⟨.inl Z,_,b9,_,Z,[6000,9000],by decide,Z,Z,Z⟩
structure RS where
  vars:List Int
  cells:List Int
  events:List Int
  fuel:Int
  steps:Int
  out:Int
abbrev jF(e:Nat)(r:RS):B:=.box [.rs 1 0 4,.rs 2 0 8,.rs e 0 r.events.length,.d (.int .i64 r.fuel),.d (.int .i64 r.steps),.d (.int .i64 r.out)]
abbrev rH(e:Nat)(r:RS):List (Nat×B):=[(0,jF e r),(1,aO r.vars),(2,aO r.cells),(e,aO r.events)]
def bc(r:RS):Bool×RS:=if r.steps=r.fuel then(false,{r with out:=1})else(true,{r with steps:=r.steps+1})

theorem ud{r:RS}(hs:0≤r.steps)(hs2:r.steps≤1073741824):MQ h1 h2 89 [.c (.pt 0 0 0)] (rH 3 r) (bb (eB (bc r).1) (rH 3 (bc r).2)):=by
 refine MC.shift 500 Z (jH 22 [500,501,502,503] h1 h2 Tryz.func89 Z fun O hF=>?_)
 refine b0 ?_
 refine ae (js Z (jn (af (af (fZ [_,_,_,_,_,_,_,_,_] [aF,ag [0],ag [0,1],ag [0,1,2],aF,ag [4],ag [4,5],ag [4,5,6],ag (rg 0 8)] [] [_] (cw Z (cw Z (kc Z trivial))) ?_)))))
 refine jw [11,2,0] Z (b0 ?_)
 refine ah Z (fun z11=>?_) (fun z11=>?_)
 try simp only[bG]at z11
 refine ae (aH Z (jo Z (aq ?_)))
 refine ba (js Z (jr ?_))
 refine⟨.inl Z,_,am [500,501,502,503] Z Z (e':=[(2,_)]) ⟨Z,ap⟩ Z,_,Z,?_,?_⟩
 rw[bc,if_pos z11];rfl
 rw[bc,if_pos z11];rfl
 try simp only[bG]at z11
 refine aj (ae (az Z (ji Z (ab Z (jo Z (aq ?_))))))
 refine ba (js Z (jr ?_))
 refine⟨.inl Z,_,am [500,501,502,503] Z Z (e':=[(2,_)]) ⟨Z,ap⟩ Z,_,Z,?_,?_⟩
 rw[bc,if_neg z11];rfl
 rw[bc,if_neg z11];rfl
theorem zF{r:RS}:MQ h1 h2 91 [.c (.pt 0 0 0),eI x] (rH 3 r) (bb (eB false) (rH 3 {r with out:=x})):=by
 refine MC.shift 500 Z (jH 9 [500,501,502,503] h1 h2 Tryz.func91 Z fun O hF=>?_)
 refine b0 ?_
 refine ae (js Z (ba (az Z (jo Z (aq ?_)))))
 refine ba (js Z (jr ?_))
 refine⟨.inl Z,_,am [500,501,502,503] Z Z (e':=[(4,_)]) ⟨Z,ap⟩ Z,_,Z,?_,?_⟩
 rfl
 rfl
def er (s:Sm)(f:RS→Bool×RS):Nat→RS→Bool×RS
  | 0,r=>(false,{r with out:=1})
  | m + 1,r=>if r.steps=r.fuel then(false,{r with out:=1})else
    if aS s.sum r.vars<0 then(true,{r with steps:=r.steps+1})else
      if(f {r with steps:=r.steps+1}).1=true then er s f m (f {r with steps:=r.steps+1}).2 else(false,(f {r with steps:=r.steps+1}).2)
def leaf(s:Sm)(r:RS):Bool×RS:=
  if s.kind=2 then(if mO (aS s.sum r.vars)=true then(true,{r with vars:=r.vars.set s.var.toNat (aS s.sum r.vars)})else(false,{r with out:=4}))
  else if s.kind=3 then(if ft 0 7 (aS s.index r.vars)=true then(true,{r with vars:=r.vars.set s.var.toNat (r.cells.getD (aS s.index r.vars).toNat default)})else(false,{r with out:=2}))
  else if s.kind=4 then(if ft 0 7 (aS s.index r.vars)=true then(if mO (aS s.sum r.vars)=true then(true,{r with cells:=r.cells.set (aS s.index r.vars).toNat (aS s.sum r.vars)})else(false,{r with out:=4}))else(false,{r with out:=2}))
  else if s.kind=5 then(true,{r with events:=r.events++[s.event]})
  else if s.kind=6 then(if aS s.sum r.vars<0 then(false,{r with out:=3})else(true,r))
  else(true,r)
def bm : Tr→RS→Bool×RS
  | .node s a [x,y],r=>
    if s.kind=1 then(if(bm x r).1=true then bm y (bm x r).2 else(false,(bm x r).2))else
      if(bc r).1=true then(if 0≤aS s.sum (bc r).2.vars then bm x (bc r).2 else bm y (bc r).2)else(false,(bc r).2)
  | .node s a [x],r=>er s (bm x) ((r.fuel-r.steps).toNat+1) r
  | .node s a _,r=>if(bc r).1=true then leaf s (bc r).2 else(false,(bc r).2)
theorem cO{s:Sm}{a:Int}{r:RS}:bm (.node s a []) r=if(bc r).1=true then leaf s (bc r).2 else(false,(bc r).2):=by rw[bm]<;>simp
theorem uB{s:Sm}{a:Int}{x:Tr}{r:RS}:bm (.node s a [x]) r=er s (bm x) ((r.fuel-r.steps).toNat+1) r:=by rw[bm]
theorem gv{s:Sm}{a:Int}{x y:Tr}{r:RS}:bm (.node s a [x,y]) r=if s.kind=1 then(if(bm x r).1=true then bm y (bm x r).2 else(false,(bm x r).2))else
      if(bc r).1=true then(if 0≤aS s.sum (bc r).2.vars then bm x (bc r).2 else bm y (bc r).2)else(false,(bc r).2):=by rw[bm]
structure RSok(r:RS):Prop where
  vars:c9 r.vars 4=true
  cells:c9 r.cells 8=true
  lo:0≤r.steps
  hi:r.steps≤r.fuel
  fuel:r.fuel≤2000
  events:(r.events.length:Int)≤r.steps
theorem RSok.nv{r:RS}(h:RSok r):r.vars.length=4:=by have:=(gb h.vars).2;omega
theorem RSok.nc{r:RS}(h:RSok r):r.cells.length=8:=by have:=(gb h.cells).2;omega
structure RSle(r r':RS):Prop where
  ok:RSok r'
  fuel:r'.fuel=r.fuel
  steps:r.steps≤r'.steps
theorem RSok.step{r:RS}(h:RSok r):RSle r (bc r).2:=by
 unfold bc
 split
 exact⟨⟨h.vars,h.cells,h.lo,h.hi,h.fuel,h.events⟩,Z,Int.le_refl _⟩
 rename_i hne
 have:=h.hi;have:=h.lo;have:=h.events
 exact⟨⟨h.vars,h.cells,by show 0≤r.steps+1;omega,by show r.steps+1≤r.fuel;omega,h.fuel,by show(r.events.length:Int)≤r.steps+1;omega⟩,Z,by show r.steps≤r.steps+1;omega⟩
theorem dg{s:Sm}(h:bz s=true):s.sum.term=true∧s.index.term=true:=by
 unfold bz rJ at h
 cases h1:s.sum.term<;>cases h2:s.index.term<;>simp[h1,h2]at h ⊢
theorem qn{s:Sm}(h:bz s=true)(hk:pX s=true):0≤s.var∧s.var≤3:=by
 unfold bz zg at h
 rw[hk]at h
 cases h1:(decide (0≤s.var)&&decide (s.var≤3))with
 | true=>simpa using h1
 | false=>rw[h1]at h;cases rJ s<;>cases yf s<;>simp at h
theorem tq{xs:List Int}{n:Int}(h:c9 xs n=true){i:Nat}{v:Int}(hv:mO v=true):c9 (xs.set i v) n=true:=by
 have h1:=gb h
 unfold c9
 rw[List.length_set,bS,List.all_eq_true]
 refine⟨fun x hx=>?_,by simpa using h1.2⟩
 rcases List.mem_or_eq_of_mem_set hx with h2|h2
 exact List.all_eq_true.1 h1.1 x h2
 rw[h2];exact hv
variable{vr ev a:Int}{su ix:Tm}{fa:List Tm}
theorem F6{r:RS}(hst:bz ⟨0,vr,ev,su,ix,fa⟩=true)(hr:RSok r):MQ h1 h2 58 [.c (.pt 0 0 0),.c (.d (Tr.d (.node ⟨0,vr,ev,su,ix,fa⟩ a [])))] (rH 3 r) (bb (eB (bm (.node ⟨0,vr,ev,su,ix,fa⟩ a []) r).1) (rH 4 (bm (.node ⟨0,vr,ev,su,ix,fa⟩ a []) r).2)):=by
 refine MC.shift 500 Z (jH 219 [500,501,502,503] h1 h2 Tryz.func58 Z fun O hF=>?_)
 refine b0 ?_
 have hsf:=dg hst
 refine ae (js Z (ba (az Z (ab Z (jn (af (ae (az Z (aH Z (bq Z (js Z (bq Z (js Z (bq Z (js Z (bq Z (js Z (bq Z (js Z (bq Z (js Z (av (bl O Z Z Z Z Z) Z (js Z (bq Z (js Z (bq Z (au O [500,501,502,503] (bin:=[jF 3 r,aO (r).vars,aO (r).cells,aO (r).events]) Z Z Z Z (ud (r:=r) h1 h2 hr.lo (Int.le_trans hr.hi (Int.le_trans hr.fuel (by decide)))) Z Z Z Z Z Z (B0:=30000) Z Z (aq ?_))))))))))))))))))))))))))))
 refine bq Z (js Z (av (bl O Z Z Z Z Z) Z (jn (ah Z (fun z31=>?_) (fun z31=>?_)))))
 refine ae (js Z (jr ?_))
 have hs0:(bc r).1=false:=by cases h:(bc r).1 with|false=>rfl|true=>rw[h]at z31;cases z31
 have hrun:bm (.node ⟨0,vr,ev,su,ix,fa⟩ a []) r=(false,(bc r).2):=by rw[cO,if_neg (by rw[hs0];decide)]
 refine⟨.inl Z,_,(am [500,501,502,503] Z Z (e':=[(4,_)]) ⟨Z,ap⟩ Z).trans (aa 503 504 Z Z),_,Z,?_,?_⟩
 rw[hrun];rfl
 rw[hrun];rfl
 refine aj (ae ?_)
 have hs1:(bc r).1=true:=by cases h:(bc r).1 with|true=>rfl|false=>rw[h]at z31;cases z31
 have hr1:=hr.step.ok
 obtain⟨q,hq⟩: ∃q,q=(bc r).2:=⟨_,rfl⟩
 rw[←hq]at hr1 ⊢
 have hnv:=hr1.nv
 have hnc:=hr1.nc
 refine ab Z (jn (af (ae (az Z (ab Z (jn (ah Z (fun z37=>?_) (fun z37=>?_))))))))
 refine jw [5,4,0,1] Z (fZ [_,_,_,_,_,_,_,_,_,_,_,_,_,_,_,_] [aF,ag [0],ag [0,1],ag [0,1,2],ag (rg 0 4),aF,pe (rg 0 6) 0,pn [] 0 1,pn [7] 0 1,pn [7,8] 0 1,pn [7,8,9] 0 1,pn (rg 7 4) 0 1,pn [] 0 1,pe (rg 0 13) 1,pn (rg 0 14) 2 2,pn (rg 0 15) 2 2] [6,13] [_,_,_] (cw Z (kc Z (kc Z (ai (bv O (B0:=45000) Z Z Z Z (kR (t:=su) (vars:=q.vars) h1 h2 hsf.1 hr1.vars) (.cons (.agg (aE Z)) (.cons (.c (.whole Z (by rw[bQ];exact hnv.symm))) .nil)) Z Z Z Z Z) (ai (kc Z (V Z)) (ai (kc Z (V Z)) (ai (kc Z (V Z)) (ai (kc Z (V Z)) (ai (kc Z (V Z)) (ai (kc Z (V Z)) (ai (bv O (B0:=52000) Z Z Z Z (kR (t:=ix) (vars:=q.vars) h1 h2 hsf.2 hr1.vars) (.cons (.agg (aE Z)) (.cons (.c (.whole Z (by rw[bQ];exact hnv.symm))) .nil)) Z Z Z Z Z) (kc Z (kc Z trivial))))))))))))) ?_)
 refine jw [7,6,5,4,0,1] Z (b0 ?_)
 refine af (ae (az Z (aH Z (bq Z (js Z (bq Z (js Z (bq Z (js Z (bq Z (js Z (bq Z (js Z (bq Z (js Z (av (aT O Z Z Z Z Z) Z (js Z (bF Z (bF Z (bF Z (av (aT O Z Z Z Z Z) Z (jn (ah Z (fun z70=>?_) (fun z70=>?_))))))))))))))))))))))))
 exact c5 z70
 refine aj (af (ae (az Z (aH Z (bq Z (js Z (bq Z (js Z (bq Z (js Z (bq Z (js Z (bq Z (js Z (bq Z (js Z (av (aT O Z Z Z Z Z) Z (js Z (bF Z (bF Z (bF Z (av (aT O Z Z Z Z Z) Z (jn (ah Z (fun z91=>?_) (fun z91=>?_)))))))))))))))))))))))))
 exact c5 z91
 refine aj (af (ae (az Z (js Z (jn (ao (ae (ab Z (jn (ah Z (fun z99=>?_) (fun z99=>?_)))))))))))
 exact c5 z99
 refine ae (ab Z (jn (ah Z (fun z119=>?_) (fun z119=>?_))))
 exact c5 z119
 refine ae (ab Z (jn (ah Z (fun z129=>?_) (fun z129=>?_))))
 exact c5 z129
 refine ae (ab Z (jn (ah Z (fun z146=>?_) (fun z146=>?_))))
 exact c5 z146
 refine ae (ab Z (jn (ah Z (fun z156=>?_) (fun z156=>?_))))
 exact c5 z156
 refine ae (ab Z (jn (ah Z (fun z172=>?_) (fun z172=>?_))))
 exact c5 z172
 refine ae (ab Z (jn (ah Z (fun z178=>?_) (fun z178=>?_))))
 exact c5 z178
 refine ae (ab Z (jn (ah Z (fun z198=>?_) (fun z198=>?_))))
 exact c5 z198
 refine aj (ae (js Z (jr ?_)))
 have hrun:bm (.node ⟨0,vr,ev,su,ix,fa⟩ a []) r=(true,q):=by rw[cO,if_pos hs1,←hq];unfold leaf;rfl
 refine⟨.inl Z,_,(am [500,501,502,503] Z Z (e':=[(4,_)]) ⟨Z,ap⟩ Z).trans (aa 503 504 Z Z),_,Z,?_,?_⟩
 rw[hrun];rfl
 rw[hrun];rfl
 exact kQ z37
theorem FZ{r:RS}(hst:bz ⟨2,vr,ev,su,ix,fa⟩=true)(hr:RSok r):MQ h1 h2 58 [.c (.pt 0 0 0),.c (.d (Tr.d (.node ⟨2,vr,ev,su,ix,fa⟩ a [])))] (rH 3 r) (bb (eB (bm (.node ⟨2,vr,ev,su,ix,fa⟩ a []) r).1) (rH 4 (bm (.node ⟨2,vr,ev,su,ix,fa⟩ a []) r).2)):=by
 refine MC.shift 500 Z (jH 219 [500,501,502,503] h1 h2 Tryz.func58 Z fun O hF=>?_)
 refine b0 ?_
 have hsf:=dg hst
 refine ae (js Z (jn (ae (az Z (ab Z (jn (af (ae (az Z (aH Z (bq Z (js Z (bq Z (js Z (bq Z (js Z (bq Z (js Z (bq Z (js Z (bq Z (js Z (av (bl O Z Z Z Z Z) Z (js Z (bq Z (js Z (bq Z (au O [500,501,502,503] (bin:=[jF 3 r,aO (r).vars,aO (r).cells,aO (r).events]) Z Z Z Z (ud (r:=r) h1 h2 hr.lo (Int.le_trans hr.hi (Int.le_trans hr.fuel (by decide)))) Z Z Z Z Z Z (B0:=30000) Z Z (aq ?_)))))))))))))))))))))))))))))
 refine bq Z (js Z (av (bl O Z Z Z Z Z) Z (jn (ah Z (fun z31=>?_) (fun z31=>?_)))))
 refine ae (js Z (jr ?_))
 have hs0:(bc r).1=false:=by cases h:(bc r).1 with|false=>rfl|true=>rw[h]at z31;cases z31
 have hrun:bm (.node ⟨2,vr,ev,su,ix,fa⟩ a []) r=(false,(bc r).2):=by rw[cO,if_neg (by rw[hs0];decide)]
 refine⟨.inl Z,_,(am [500,501,502,503] Z Z (e':=[(4,_)]) ⟨Z,ap⟩ Z).trans (aa 503 504 Z Z),_,Z,?_,?_⟩
 rw[hrun];rfl
 rw[hrun];rfl
 refine aj (ae ?_)
 have hs1:(bc r).1=true:=by cases h:(bc r).1 with|true=>rfl|false=>rw[h]at z31;cases z31
 have hr1:=hr.step.ok
 obtain⟨q,hq⟩: ∃q,q=(bc r).2:=⟨_,rfl⟩
 rw[←hq]at hr1 ⊢
 have hnv:=hr1.nv
 have hnc:=hr1.nc
 refine ab Z (jn (af (ae (az Z (ab Z (jn (ah Z (fun z37=>?_) (fun z37=>?_))))))))
 refine jw [5,4,0,1] Z (fZ [_,_,_,_,_,_,_,_,_,_,_,_,_,_,_,_] [aF,ag [0],ag [0,1],ag [0,1,2],ag (rg 0 4),aF,pe (rg 0 6) 0,pn [] 0 1,pn [7] 0 1,pn [7,8] 0 1,pn [7,8,9] 0 1,pn (rg 7 4) 0 1,pn [] 0 1,pe (rg 0 13) 1,pn (rg 0 14) 2 2,pn (rg 0 15) 2 2] [6,13] [_,_,_] (cw Z (kc Z (kc Z (ai (bv O (B0:=45000) Z Z Z Z (kR (t:=su) (vars:=q.vars) h1 h2 hsf.1 hr1.vars) (.cons (.agg (aE Z)) (.cons (.c (.whole Z (by rw[bQ];exact hnv.symm))) .nil)) Z Z Z Z Z) (ai (kc Z (V Z)) (ai (kc Z (V Z)) (ai (kc Z (V Z)) (ai (kc Z (V Z)) (ai (kc Z (V Z)) (ai (kc Z (V Z)) (ai (bv O (B0:=52000) Z Z Z Z (kR (t:=ix) (vars:=q.vars) h1 h2 hsf.2 hr1.vars) (.cons (.agg (aE Z)) (.cons (.c (.whole Z (by rw[bQ];exact hnv.symm))) .nil)) Z Z Z Z Z) (kc Z (kc Z trivial))))))))))))) ?_)
 refine jw [7,6,5,4,0,1] Z (b0 ?_)
 refine af (ae (az Z (aH Z (bq Z (js Z (bq Z (js Z (bq Z (js Z (bq Z (js Z (bq Z (js Z (bq Z (js Z (av (aT O Z Z Z Z Z) Z (js Z (bF Z (bF Z (bF Z (av (aT O Z Z Z Z Z) Z (jn (ah Z (fun z70=>?_) (fun z70=>?_))))))))))))))))))))))))
 exact c5 z70
 refine aj (af (ae (az Z (aH Z (bF Z (bF Z (bF Z (bF Z (bF Z (bF Z (av (bl O Z Z Z Z Z) Z (js Z (bq Z (js Z (bq Z (bP Z (Hf h1 h2) 90000 Z (bq Z (js Z (av (bl O Z Z Z Z Z) Z (jn (ah Z (fun z91=>?_) (fun z91=>?_))))))))))))))))))))))
 refine ae (js Z ?_)
 have hb91:mO (aS su q.vars)=false:=by cases h:mO (aS su q.vars)with|false=>rfl|true=>exact absurd (show false=true from(by have h9:=z91;rw[h]at h9;exact h9)) (by decide)
 refine au O [500,501,502,503] (bin:=[jF 3 q,aO (q).vars,aO (q).cells,aO (q).events]) Z Z Z Z (zF (r:=q) (x:=4) h1 h2) Z Z Z Z Z Z (B0:=94000) Z Z (aq ?_)
 refine js Z (jr ?_)
 have hrun:bm (.node ⟨2,vr,ev,su,ix,fa⟩ a []) r=(false,{q with out:=4}):=by rw[cO,if_pos hs1,←hq];unfold leaf;rw[if_pos Z,if_neg (show¬mO (aS su q.vars)=true by rw[hb91];decide)]
 refine⟨.inl Z,_,(am [500,501,502,503] Z Z (e':=[(4,_)]) ⟨Z,ap⟩ Z).trans (aa 503 504 Z Z),_,Z,?_,?_⟩
 rw[hrun];rfl
 rw[hrun];rfl
 refine aj (af (ae (az Z (js Z (jn (ao (ae (ab Z (jn (ah Z (fun z99=>?_) (fun z99=>?_)))))))))))
 exact c5 z99
 refine ae (ab Z (jn (ah Z (fun z119=>?_) (fun z119=>?_))))
 refine ak (az Z (js Z ?_))
 have hb91:mO (aS su q.vars)=true:=by cases h:mO (aS su q.vars)with|true=>rfl|false=>exact absurd (show true=false from(by have h9:=z91;rw[h]at h9;exact h9)) (by decide)
 have hv:=qn hst Z
 have hv1:0≤vr:=hv.1
 have hv2:vr≤3:=hv.2
 refine ab Z (dv Z Z (aU (ca (ex:=[.int .i64 (q.vars.getD vr.toNat default)]) (xs':=(q.vars.set vr.toNat (aS su q.vars)).map fun n=>[.int .i64 n]) O Z Z Z Z Z Z Z Z Z Z Z Z Z Z (by simp[show vr.toNat<q.vars.length by omega]) (by simp[List.map_set])) Z (aq ?_)))
 refine jn (ae (js Z (jr ?_)))
 have hrun:bm (.node ⟨2,vr,ev,su,ix,fa⟩ a []) r=(true,{q with vars:=q.vars.set vr.toNat (aS su q.vars)}):=by rw[cO,if_pos hs1,←hq];unfold leaf;rw[if_pos Z,if_pos (show mO (aS su q.vars)=true from hb91)]
 refine⟨.inl Z,_,(am [500,501,502,503] Z Z (e':=[(4,_)]) ⟨Z,ap⟩ Z).trans (aa 503 504 Z Z),_,Z,?_,?_⟩
 rw[hrun];rfl
 rw[hrun];rfl
 exact kQ z119
 exact kQ z37
theorem FY{r:RS}(hst:bz ⟨3,vr,ev,su,ix,fa⟩=true)(hr:RSok r):MQ h1 h2 58 [.c (.pt 0 0 0),.c (.d (Tr.d (.node ⟨3,vr,ev,su,ix,fa⟩ a [])))] (rH 3 r) (bb (eB (bm (.node ⟨3,vr,ev,su,ix,fa⟩ a []) r).1) (rH 4 (bm (.node ⟨3,vr,ev,su,ix,fa⟩ a []) r).2)):=by
 refine MC.shift 500 Z (jH 219 [500,501,502,503] h1 h2 Tryz.func58 Z fun O hF=>?_)
 refine b0 ?_
 have hsf:=dg hst
 refine ae (js Z (ba (az Z (ab Z (jn (af (ae (az Z (aH Z (bq Z (js Z (bq Z (js Z (bq Z (js Z (bq Z (js Z (bq Z (js Z (bq Z (js Z (av (bl O Z Z Z Z Z) Z (js Z (bq Z (js Z (bq Z (au O [500,501,502,503] (bin:=[jF 3 r,aO (r).vars,aO (r).cells,aO (r).events]) Z Z Z Z (ud (r:=r) h1 h2 hr.lo (Int.le_trans hr.hi (Int.le_trans hr.fuel (by decide)))) Z Z Z Z Z Z (B0:=30000) Z Z (aq ?_))))))))))))))))))))))))))))
 refine bq Z (js Z (av (bl O Z Z Z Z Z) Z (jn (ah Z (fun z31=>?_) (fun z31=>?_)))))
 refine ae (js Z (jr ?_))
 have hs0:(bc r).1=false:=by cases h:(bc r).1 with|false=>rfl|true=>rw[h]at z31;cases z31
 have hrun:bm (.node ⟨3,vr,ev,su,ix,fa⟩ a []) r=(false,(bc r).2):=by rw[cO,if_neg (by rw[hs0];decide)]
 refine⟨.inl Z,_,(am [500,501,502,503] Z Z (e':=[(4,_)]) ⟨Z,ap⟩ Z).trans (aa 503 504 Z Z),_,Z,?_,?_⟩
 rw[hrun];rfl
 rw[hrun];rfl
 refine aj (ae ?_)
 have hs1:(bc r).1=true:=by cases h:(bc r).1 with|true=>rfl|false=>rw[h]at z31;cases z31
 have hr1:=hr.step.ok
 obtain⟨q,hq⟩: ∃q,q=(bc r).2:=⟨_,rfl⟩
 rw[←hq]at hr1 ⊢
 have hnv:=hr1.nv
 have hnc:=hr1.nc
 refine ab Z (jn (af (ae (az Z (ab Z (jn (ah Z (fun z37=>?_) (fun z37=>?_))))))))
 refine jw [5,4,0,1] Z (fZ [_,_,_,_,_,_,_,_,_,_,_,_,_,_,_,_] [aF,ag [0],ag [0,1],ag [0,1,2],ag (rg 0 4),aF,pe (rg 0 6) 0,pn [] 0 1,pn [7] 0 1,pn [7,8] 0 1,pn [7,8,9] 0 1,pn (rg 7 4) 0 1,pn [] 0 1,pe (rg 0 13) 1,pn (rg 0 14) 2 2,pn (rg 0 15) 2 2] [6,13] [_,_,_] (cw Z (kc Z (kc Z (ai (bv O (B0:=45000) Z Z Z Z (kR (t:=su) (vars:=q.vars) h1 h2 hsf.1 hr1.vars) (.cons (.agg (aE Z)) (.cons (.c (.whole Z (by rw[bQ];exact hnv.symm))) .nil)) Z Z Z Z Z) (ai (kc Z (V Z)) (ai (kc Z (V Z)) (ai (kc Z (V Z)) (ai (kc Z (V Z)) (ai (kc Z (V Z)) (ai (kc Z (V Z)) (ai (bv O (B0:=52000) Z Z Z Z (kR (t:=ix) (vars:=q.vars) h1 h2 hsf.2 hr1.vars) (.cons (.agg (aE Z)) (.cons (.c (.whole Z (by rw[bQ];exact hnv.symm))) .nil)) Z Z Z Z Z) (kc Z (kc Z trivial))))))))))))) ?_)
 refine jw [7,6,5,4,0,1] Z (b0 ?_)
 refine af (ae (az Z (aH Z (bF Z (bF Z (bF Z (bF Z (bF Z (bF Z (av (bl O Z Z Z Z Z) Z (js Z (bq Z (js Z (bq Z (bP Z (p9 h1 h2) 69000 Z (bq Z (js Z (av (bl O Z Z Z Z Z) Z (jn (ah Z (fun z70=>?_) (fun z70=>?_)))))))))))))))))))))
 refine ae (js Z ?_)
 have hb70:ft 0 7 (aS ix q.vars)=false:=by cases h:ft 0 7 (aS ix q.vars)with|false=>rfl|true=>exact absurd (show false=true from(by have h9:=z70;rw[h]at h9;exact h9)) (by decide)
 refine au O [500,501,502,503] (bin:=[jF 3 q,aO (q).vars,aO (q).cells,aO (q).events]) Z Z Z Z (zF (r:=q) (x:=2) h1 h2) Z Z Z Z Z Z (B0:=73000) Z Z (aq ?_)
 refine js Z (jr ?_)
 have hrun:bm (.node ⟨3,vr,ev,su,ix,fa⟩ a []) r=(false,{q with out:=2}):=by rw[cO,if_pos hs1,←hq];unfold leaf;rw[if_neg (by decide: ¬(3:Int)=2),if_pos Z,if_neg (show¬ft 0 7 (aS ix q.vars)=true by rw[hb70];decide)]
 refine⟨.inl Z,_,(am [500,501,502,503] Z Z (e':=[(4,_)]) ⟨Z,ap⟩ Z).trans (aa 503 504 Z Z),_,Z,?_,?_⟩
 rw[hrun];rfl
 rw[hrun];rfl
 refine aj (af (ae ?_))
 have hb70:ft 0 7 (aS ix q.vars)=true:=by cases h:ft 0 7 (aS ix q.vars)with|true=>rfl|false=>exact absurd (show true=false from(by have h9:=z70;rw[h]at h9;exact h9)) (by decide)
 have hin0:0≤aS ix q.vars∧aS ix q.vars≤7:=by simpa[ft]using hb70
 have hin1:=hin0.1
 have hin2:=hin0.2
 have hv:=qn hst Z
 have hv1:0≤vr:=hv.1
 have hv2:vr≤3:=hv.2
 refine az Z (aH Z (bq Z (js Z (bq Z (js Z (bq Z (js Z (bq Z (js Z (bq Z (js Z (bq Z (js Z (av (aT O Z Z Z Z Z) Z (js Z (bF Z (bF Z (bF Z (av (aT O Z Z Z Z Z) Z (jn (ah Z (fun z91=>?_) (fun z91=>?_))))))))))))))))))))))
 exact c5 z91
 refine aj (af (ae (az Z (js Z (jn (ao (ae (ab Z (jn (ah Z (fun z99=>?_) (fun z99=>?_)))))))))))
 exact c5 z99
 refine ae (ab Z (jn (ah Z (fun z119=>?_) (fun z119=>?_))))
 exact c5 z119
 refine ae (ab Z (jn (ah Z (fun z129=>?_) (fun z129=>?_))))
 refine jw [100,98,7,6,5,4,0,1] Z (fZ [_,_,_,_,_,_,_,_,_,_,_,_,_,_,_,_] [aF,aF,ag [1],ag [1,2],ag [1,2,3],ag (rg 1 4),aF,ag [6],ag [6,7],ag [6,7,8],ag (rg 6 4),aF,ag (rg 6 6),ag (rg 6 7),ag (rg 0 14),pe (rg 0 15) 0] [15] [_,_] (cw Z (cw Z (cw Z (ai (vI Z Z) (ai (bt O (ex:=[.int .i64 (q.cells.getD (aS ix q.vars).toNat default)]) Z Z Z Z (by simp[show(aS ix q.vars).toNat<q.cells.length by omega]) Z) (ai (vI Z Z) (ai (cR (ex:=[.int .i64 (q.vars.getD vr.toNat default)]) (xs':=(q.vars.set vr.toNat (q.cells.getD (aS ix q.vars).toNat default)).map fun n=>[.int .i64 n]) O Z Z Z Z Z Z Z Z Z Z Z Z Z Z Z (by simp[show vr.toNat<q.vars.length by omega]) (by simp[List.map_set]) Z) trivial))))))) ?_)
 refine jw [100,98,7,6,5,4,0,1] Z (b0 ?_)
 refine ae (js Z (jr ?_))
 have hrun:bm (.node ⟨3,vr,ev,su,ix,fa⟩ a []) r=(true,{q with vars:=q.vars.set vr.toNat (q.cells.getD (aS ix q.vars).toNat default)}):=by rw[cO,if_pos hs1,←hq];unfold leaf;rw[if_neg (by decide: ¬(3:Int)=2),if_pos Z,if_pos (show ft 0 7 (aS ix q.vars)=true from hb70)]
 refine⟨.inl Z,_,(am [500,501,502,503] Z Z (e':=[(4,_)]) ⟨Z,ap⟩ Z).trans (aa 503 504 Z Z),_,Z,?_,?_⟩
 rw[hrun];rfl
 rw[hrun];rfl
 exact kQ z129
 exact kQ z37
theorem FW{r:RS}(hst:bz ⟨4,vr,ev,su,ix,fa⟩=true)(hr:RSok r):MQ h1 h2 58 [.c (.pt 0 0 0),.c (.d (Tr.d (.node ⟨4,vr,ev,su,ix,fa⟩ a [])))] (rH 3 r) (bb (eB (bm (.node ⟨4,vr,ev,su,ix,fa⟩ a []) r).1) (rH 4 (bm (.node ⟨4,vr,ev,su,ix,fa⟩ a []) r).2)):=by
 refine MC.shift 500 Z (jH 219 [500,501,502,503] h1 h2 Tryz.func58 Z fun O hF=>?_)
 refine b0 ?_
 have hsf:=dg hst
 refine ae (js Z (jn (ae (az Z (ab Z (jn (af (ae (az Z (aH Z (bq Z (js Z (bq Z (js Z (bq Z (js Z (bq Z (js Z (bq Z (js Z (bq Z (js Z (av (bl O Z Z Z Z Z) Z (js Z (bq Z (js Z (bq Z (au O [500,501,502,503] (bin:=[jF 3 r,aO (r).vars,aO (r).cells,aO (r).events]) Z Z Z Z (ud (r:=r) h1 h2 hr.lo (Int.le_trans hr.hi (Int.le_trans hr.fuel (by decide)))) Z Z Z Z Z Z (B0:=30000) Z Z (aq ?_)))))))))))))))))))))))))))))
 refine bq Z (js Z (av (bl O Z Z Z Z Z) Z (jn (ah Z (fun z31=>?_) (fun z31=>?_)))))
 refine ae (js Z (jr ?_))
 have hs0:(bc r).1=false:=by cases h:(bc r).1 with|false=>rfl|true=>rw[h]at z31;cases z31
 have hrun:bm (.node ⟨4,vr,ev,su,ix,fa⟩ a []) r=(false,(bc r).2):=by rw[cO,if_neg (by rw[hs0];decide)]
 refine⟨.inl Z,_,(am [500,501,502,503] Z Z (e':=[(4,_)]) ⟨Z,ap⟩ Z).trans (aa 503 504 Z Z),_,Z,?_,?_⟩
 rw[hrun];rfl
 rw[hrun];rfl
 refine aj (ae ?_)
 have hs1:(bc r).1=true:=by cases h:(bc r).1 with|true=>rfl|false=>rw[h]at z31;cases z31
 have hr1:=hr.step.ok
 obtain⟨q,hq⟩: ∃q,q=(bc r).2:=⟨_,rfl⟩
 rw[←hq]at hr1 ⊢
 have hnv:=hr1.nv
 have hnc:=hr1.nc
 refine ab Z (jn (af (ae (az Z (ab Z (jn (ah Z (fun z37=>?_) (fun z37=>?_))))))))
 refine jw [5,4,0,1] Z (fZ [_,_,_,_,_,_,_,_,_,_,_,_,_,_,_,_] [aF,ag [0],ag [0,1],ag [0,1,2],ag (rg 0 4),aF,pe (rg 0 6) 0,pn [] 0 1,pn [7] 0 1,pn [7,8] 0 1,pn [7,8,9] 0 1,pn (rg 7 4) 0 1,pn [] 0 1,pe (rg 0 13) 1,pn (rg 0 14) 2 2,pn (rg 0 15) 2 2] [6,13] [_,_,_] (cw Z (kc Z (kc Z (ai (bv O (B0:=45000) Z Z Z Z (kR (t:=su) (vars:=q.vars) h1 h2 hsf.1 hr1.vars) (.cons (.agg (aE Z)) (.cons (.c (.whole Z (by rw[bQ];exact hnv.symm))) .nil)) Z Z Z Z Z) (ai (kc Z (V Z)) (ai (kc Z (V Z)) (ai (kc Z (V Z)) (ai (kc Z (V Z)) (ai (kc Z (V Z)) (ai (kc Z (V Z)) (ai (bv O (B0:=52000) Z Z Z Z (kR (t:=ix) (vars:=q.vars) h1 h2 hsf.2 hr1.vars) (.cons (.agg (aE Z)) (.cons (.c (.whole Z (by rw[bQ];exact hnv.symm))) .nil)) Z Z Z Z Z) (kc Z (kc Z trivial))))))))))))) ?_)
 refine jw [7,6,5,4,0,1] Z (b0 ?_)
 refine af (ae (az Z (aH Z (bq Z (js Z (bq Z (js Z (bq Z (js Z (bq Z (js Z (bq Z (js Z (bq Z (js Z (av (aT O Z Z Z Z Z) Z (js Z (bq Z (js Z (bq Z (bP Z (p9 h1 h2) 69000 Z (bq Z (js Z (av (bl O Z Z Z Z Z) Z (jn (ah Z (fun z70=>?_) (fun z70=>?_)))))))))))))))))))))))))))
 refine ae (js Z ?_)
 have hb70:ft 0 7 (aS ix q.vars)=false:=by cases h:ft 0 7 (aS ix q.vars)with|false=>rfl|true=>exact absurd (show false=true from(by have h9:=z70;rw[h]at h9;exact h9)) (by decide)
 refine au O [500,501,502,503] (bin:=[jF 3 q,aO (q).vars,aO (q).cells,aO (q).events]) Z Z Z Z (zF (r:=q) (x:=2) h1 h2) Z Z Z Z Z Z (B0:=73000) Z Z (aq ?_)
 refine js Z (jr ?_)
 have hrun:bm (.node ⟨4,vr,ev,su,ix,fa⟩ a []) r=(false,{q with out:=2}):=by rw[cO,if_pos hs1,←hq];unfold leaf;rw[if_neg (by decide: ¬(4:Int)=2),if_neg (by decide: ¬(4:Int)=3),if_pos Z,if_neg (show¬ft 0 7 (aS ix q.vars)=true by rw[hb70];decide)]
 refine⟨.inl Z,_,(am [500,501,502,503] Z Z (e':=[(4,_)]) ⟨Z,ap⟩ Z).trans (aa 503 504 Z Z),_,Z,?_,?_⟩
 rw[hrun];rfl
 rw[hrun];rfl
 refine aj (af (ae ?_))
 have hb70:ft 0 7 (aS ix q.vars)=true:=by cases h:ft 0 7 (aS ix q.vars)with|true=>rfl|false=>exact absurd (show true=false from(by have h9:=z70;rw[h]at h9;exact h9)) (by decide)
 have hin0:0≤aS ix q.vars∧aS ix q.vars≤7:=by simpa[ft]using hb70
 have hin1:=hin0.1
 have hin2:=hin0.2
 refine az Z (aH Z (bq Z (js Z (bq Z (js Z (bq Z (js Z (bq Z (js Z (bq Z (js Z (bq Z (js Z (av (aT O Z Z Z Z Z) Z (js Z (bq Z (js Z (bq Z (bP Z (Hf h1 h2) 90000 Z (bq Z (js Z (av (bl O Z Z Z Z Z) Z (jn (ah Z (fun z91=>?_) (fun z91=>?_)))))))))))))))))))))))))
 refine ae (js Z ?_)
 have hb91:mO (aS su q.vars)=false:=by cases h:mO (aS su q.vars)with|false=>rfl|true=>exact absurd (show false=true from(by have h9:=z91;rw[h]at h9;exact h9)) (by decide)
 refine au O [500,501,502,503] (bin:=[jF 3 q,aO (q).vars,aO (q).cells,aO (q).events]) Z Z Z Z (zF (r:=q) (x:=4) h1 h2) Z Z Z Z Z Z (B0:=94000) Z Z (aq ?_)
 refine js Z (jr ?_)
 have hrun:bm (.node ⟨4,vr,ev,su,ix,fa⟩ a []) r=(false,{q with out:=4}):=by rw[cO,if_pos hs1,←hq];unfold leaf;rw[if_neg (by decide: ¬(4:Int)=2),if_neg (by decide: ¬(4:Int)=3),if_pos Z,if_pos (show ft 0 7 (aS ix q.vars)=true from hb70),if_neg (show¬mO (aS su q.vars)=true by rw[hb91];decide)]
 refine⟨.inl Z,_,(am [500,501,502,503] Z Z (e':=[(4,_)]) ⟨Z,ap⟩ Z).trans (aa 503 504 Z Z),_,Z,?_,?_⟩
 rw[hrun];rfl
 rw[hrun];rfl
 refine aj (af (ae ?_))
 have hb91:mO (aS su q.vars)=true:=by cases h:mO (aS su q.vars)with|true=>rfl|false=>exact absurd (show true=false from(by have h9:=z91;rw[h]at h9;exact h9)) (by decide)
 refine az Z (js Z (jn (ao (ae (ab Z (jn (ah Z (fun z99=>?_) (fun z99=>?_))))))))
 exact c5 z99
 refine ae (ab Z (jn (ah Z (fun z119=>?_) (fun z119=>?_))))
 exact c5 z119
 refine ae (ab Z (jn (ah Z (fun z129=>?_) (fun z129=>?_))))
 exact c5 z129
 refine ae (ab Z (jn (ah Z (fun z146=>?_) (fun z146=>?_))))
 refine ak (az Z (aH Z (dv Z Z (aU (ca (ex:=[.int .i64 (q.cells.getD (aS ix q.vars).toNat default)]) (xs':=(q.cells.set (aS ix q.vars).toNat (aS su q.vars)).map fun n=>[.int .i64 n]) O Z Z Z Z Z Z Z Z Z Z Z Z Z Z (by simp[show(aS ix q.vars).toNat<q.cells.length by omega]) (by simp[List.map_set])) Z (aq ?_)))))
 refine jn (ae (js Z (jr ?_)))
 have hrun:bm (.node ⟨4,vr,ev,su,ix,fa⟩ a []) r=(true,{q with cells:=q.cells.set (aS ix q.vars).toNat (aS su q.vars)}):=by rw[cO,if_pos hs1,←hq];unfold leaf;rw[if_neg (by decide: ¬(4:Int)=2),if_neg (by decide: ¬(4:Int)=3),if_pos Z,if_pos (show ft 0 7 (aS ix q.vars)=true from hb70),if_pos (show mO (aS su q.vars)=true from hb91)]
 refine⟨.inl Z,_,(am [500,501,502,503] Z Z (e':=[(4,_)]) ⟨Z,ap⟩ Z).trans (aa 503 504 Z Z),_,Z,?_,?_⟩
 rw[hrun];rfl
 rw[hrun];rfl
 exact kQ z146
 exact kQ z37
theorem FV{r:RS}(hst:bz ⟨5,vr,ev,su,ix,fa⟩=true)(hr:RSok r):MQ h1 h2 58 [.c (.pt 0 0 0),.c (.d (Tr.d (.node ⟨5,vr,ev,su,ix,fa⟩ a [])))] (rH 3 r) (bb (eB (bm (.node ⟨5,vr,ev,su,ix,fa⟩ a []) r).1) (rH 4 (bm (.node ⟨5,vr,ev,su,ix,fa⟩ a []) r).2)):=by
 refine MC.shift 500 Z (jH 219 [500,501,502,503] h1 h2 Tryz.func58 Z fun O hF=>?_)
 refine b0 ?_
 have hsf:=dg hst
 refine ae (js Z (ba (az Z (ab Z (jn (af (ae (az Z (aH Z (bq Z (js Z (bq Z (js Z (bq Z (js Z (bq Z (js Z (bq Z (js Z (bq Z (js Z (av (bl O Z Z Z Z Z) Z (js Z (bq Z (js Z (bq Z (au O [500,501,502,503] (bin:=[jF 3 r,aO (r).vars,aO (r).cells,aO (r).events]) Z Z Z Z (ud (r:=r) h1 h2 hr.lo (Int.le_trans hr.hi (Int.le_trans hr.fuel (by decide)))) Z Z Z Z Z Z (B0:=30000) Z Z (aq ?_))))))))))))))))))))))))))))
 refine bq Z (js Z (av (bl O Z Z Z Z Z) Z (jn (ah Z (fun z31=>?_) (fun z31=>?_)))))
 refine ae (js Z (jr ?_))
 have hs0:(bc r).1=false:=by cases h:(bc r).1 with|false=>rfl|true=>rw[h]at z31;cases z31
 have hrun:bm (.node ⟨5,vr,ev,su,ix,fa⟩ a []) r=(false,(bc r).2):=by rw[cO,if_neg (by rw[hs0];decide)]
 refine⟨.inl Z,_,(am [500,501,502,503] Z Z (e':=[(4,_)]) ⟨Z,ap⟩ Z).trans (aa 503 504 Z Z),_,Z,?_,?_⟩
 rw[hrun];rfl
 rw[hrun];rfl
 refine aj (ae ?_)
 have hs1:(bc r).1=true:=by cases h:(bc r).1 with|true=>rfl|false=>rw[h]at z31;cases z31
 have hr1:=hr.step.ok
 obtain⟨q,hq⟩: ∃q,q=(bc r).2:=⟨_,rfl⟩
 rw[←hq]at hr1 ⊢
 have hnv:=hr1.nv
 have hnc:=hr1.nc
 refine ab Z (jn (af (ae (az Z (ab Z (jn (ah Z (fun z37=>?_) (fun z37=>?_))))))))
 refine jw [5,4,0,1] Z (fZ [_,_,_,_,_,_,_,_,_,_,_,_,_,_,_,_] [aF,ag [0],ag [0,1],ag [0,1,2],ag (rg 0 4),aF,pe (rg 0 6) 0,pn [] 0 1,pn [7] 0 1,pn [7,8] 0 1,pn [7,8,9] 0 1,pn (rg 7 4) 0 1,pn [] 0 1,pe (rg 0 13) 1,pn (rg 0 14) 2 2,pn (rg 0 15) 2 2] [6,13] [_,_,_] (cw Z (kc Z (kc Z (ai (bv O (B0:=45000) Z Z Z Z (kR (t:=su) (vars:=q.vars) h1 h2 hsf.1 hr1.vars) (.cons (.agg (aE Z)) (.cons (.c (.whole Z (by rw[bQ];exact hnv.symm))) .nil)) Z Z Z Z Z) (ai (kc Z (V Z)) (ai (kc Z (V Z)) (ai (kc Z (V Z)) (ai (kc Z (V Z)) (ai (kc Z (V Z)) (ai (kc Z (V Z)) (ai (bv O (B0:=52000) Z Z Z Z (kR (t:=ix) (vars:=q.vars) h1 h2 hsf.2 hr1.vars) (.cons (.agg (aE Z)) (.cons (.c (.whole Z (by rw[bQ];exact hnv.symm))) .nil)) Z Z Z Z Z) (kc Z (kc Z trivial))))))))))))) ?_)
 refine jw [7,6,5,4,0,1] Z (b0 ?_)
 refine af (ae (az Z (aH Z (bq Z (js Z (bq Z (js Z (bq Z (js Z (bq Z (js Z (bq Z (js Z (bq Z (js Z (av (aT O Z Z Z Z Z) Z (js Z (bF Z (bF Z (bF Z (av (aT O Z Z Z Z Z) Z (jn (ah Z (fun z70=>?_) (fun z70=>?_))))))))))))))))))))))))
 exact c5 z70
 refine aj (af (ae (az Z (aH Z (bq Z (js Z (bq Z (js Z (bq Z (js Z (bq Z (js Z (bq Z (js Z (bq Z (js Z (av (aT O Z Z Z Z Z) Z (js Z (bF Z (bF Z (bF Z (av (aT O Z Z Z Z Z) Z (jn (ah Z (fun z91=>?_) (fun z91=>?_)))))))))))))))))))))))))
 exact c5 z91
 refine aj (af (ae (az Z (js Z (jn (ao (ae (ab Z (jn (ah Z (fun z99=>?_) (fun z99=>?_)))))))))))
 exact c5 z99
 refine ae (ab Z (jn (ah Z (fun z119=>?_) (fun z119=>?_))))
 exact c5 z119
 refine ae (ab Z (jn (ah Z (fun z129=>?_) (fun z129=>?_))))
 exact c5 z129
 refine ae (ab Z (jn (ah Z (fun z146=>?_) (fun z146=>?_))))
 exact c5 z146
 refine ae (ab Z (jn (ah Z (fun z156=>?_) (fun z156=>?_))))
 refine jw [100,98,7,6,5,4,0,1] Z ?_
 have hev:=hr1.events
 have hhi:=hr1.hi
 have hfu:=hr1.fuel
 refine kJ [_,_,_,_,_,_,_,_,_,_,_,_,_,_,_] [pn [] 0 2,pn [] 0 1,pn [1] 0 1,pn [1,2] 0 1,pn [1,2,3] 0 1,aF,ag [5],ag [5,6],ag [5,6,7],ag (rg 5 4),pe (rg 5 5) 0,pe (rg 1 10) 1,pn (rg 0 12) 2 2,pn (rg 0 13) 2 2,pe (rg 0 14) 2] [10,11,14] [_,_,_,_] [[],[503,168],[]] (ai (ka Z Z (ka Z Z (kw Z Z))) (ai (ka Z Z (kw Z Z)) (ai (ka Z Z (kw Z Z)) (ai (ka Z Z (kw Z Z)) (ai (ka Z Z (kw Z Z)) (ka Z Z (ka Z Z (ka Z Z (ka Z Z (ka Z Z (ai (ai (aI (jU O Z Z Z Z Z Z Z Z Z Z Z Z Z)) Z) (ai (ai (dJ (zs:=(q.events++[ev]).map fun n=>[.int .i64 n]) (n:=(q.events++[ev]).length) O Z Z Z Z Z Z Z Z Z Z Z Z Z Z Z Z (.row Z (bQ _).symm) Z Z (by decide) Z (by rw[bQ];show q.events.length+1≤L;omega) (by rw[bQ];show(q.events.length+1)*8≤_;omega) (by simp) (bQ _) Z) Z) (ka Z Z (ka Z Z (ai (ai (aI (eS Z Z Z)) Z) trivial))))))))))))))) ?_
 refine jw [100,98,7,6,5,4,0,1] Z (b0 ?_)
 refine ae (js Z (jr ?_))
 have hrun:bm (.node ⟨5,vr,ev,su,ix,fa⟩ a []) r=(true,{q with events:=q.events++[ev]}):=by rw[cO,if_pos hs1,←hq];unfold leaf;rfl
 refine⟨.inl Z,_,(am [500,501,502,169] Z Z (e':=[(4,_)]) ⟨Z,ap⟩ Z).trans (aa 169 504 Z Z),_,Z,?_,?_⟩
 rw[hrun];rfl
 rw[hrun];rfl
 exact kQ z156
 exact kQ z37
theorem FU{r:RS}(hst:bz ⟨6,vr,ev,su,ix,fa⟩=true)(hr:RSok r):MQ h1 h2 58 [.c (.pt 0 0 0),.c (.d (Tr.d (.node ⟨6,vr,ev,su,ix,fa⟩ a [])))] (rH 3 r) (bb (eB (bm (.node ⟨6,vr,ev,su,ix,fa⟩ a []) r).1) (rH 4 (bm (.node ⟨6,vr,ev,su,ix,fa⟩ a []) r).2)):=by
 refine MC.shift 500 Z (jH 219 [500,501,502,503] h1 h2 Tryz.func58 Z fun O hF=>?_)
 refine b0 ?_
 have hsf:=dg hst
 refine ae (js Z (ba (az Z (ab Z (jn (af (ae (az Z (aH Z (bq Z (js Z (bq Z (js Z (bq Z (js Z (bq Z (js Z (bq Z (js Z (bq Z (js Z (av (bl O Z Z Z Z Z) Z (js Z (bq Z (js Z (bq Z (au O [500,501,502,503] (bin:=[jF 3 r,aO (r).vars,aO (r).cells,aO (r).events]) Z Z Z Z (ud (r:=r) h1 h2 hr.lo (Int.le_trans hr.hi (Int.le_trans hr.fuel (by decide)))) Z Z Z Z Z Z (B0:=30000) Z Z (aq ?_))))))))))))))))))))))))))))
 refine bq Z (js Z (av (bl O Z Z Z Z Z) Z (jn (ah Z (fun z31=>?_) (fun z31=>?_)))))
 refine ae (js Z (jr ?_))
 have hs0:(bc r).1=false:=by cases h:(bc r).1 with|false=>rfl|true=>rw[h]at z31;cases z31
 have hrun:bm (.node ⟨6,vr,ev,su,ix,fa⟩ a []) r=(false,(bc r).2):=by rw[cO,if_neg (by rw[hs0];decide)]
 refine⟨.inl Z,_,(am [500,501,502,503] Z Z (e':=[(4,_)]) ⟨Z,ap⟩ Z).trans (aa 503 504 Z Z),_,Z,?_,?_⟩
 rw[hrun];rfl
 rw[hrun];rfl
 refine aj (ae ?_)
 have hs1:(bc r).1=true:=by cases h:(bc r).1 with|true=>rfl|false=>rw[h]at z31;cases z31
 have hr1:=hr.step.ok
 obtain⟨q,hq⟩: ∃q,q=(bc r).2:=⟨_,rfl⟩
 rw[←hq]at hr1 ⊢
 have hnv:=hr1.nv
 have hnc:=hr1.nc
 refine ab Z (jn (af (ae (az Z (ab Z (jn (ah Z (fun z37=>?_) (fun z37=>?_))))))))
 refine jw [5,4,0,1] Z (fZ [_,_,_,_,_,_,_,_,_,_,_,_,_,_,_,_] [aF,ag [0],ag [0,1],ag [0,1,2],ag (rg 0 4),aF,pe (rg 0 6) 0,pn [] 0 1,pn [7] 0 1,pn [7,8] 0 1,pn [7,8,9] 0 1,pn (rg 7 4) 0 1,pn [] 0 1,pe (rg 0 13) 1,pn (rg 0 14) 2 2,pn (rg 0 15) 2 2] [6,13] [_,_,_] (cw Z (kc Z (kc Z (ai (bv O (B0:=45000) Z Z Z Z (kR (t:=su) (vars:=q.vars) h1 h2 hsf.1 hr1.vars) (.cons (.agg (aE Z)) (.cons (.c (.whole Z (by rw[bQ];exact hnv.symm))) .nil)) Z Z Z Z Z) (ai (kc Z (V Z)) (ai (kc Z (V Z)) (ai (kc Z (V Z)) (ai (kc Z (V Z)) (ai (kc Z (V Z)) (ai (kc Z (V Z)) (ai (bv O (B0:=52000) Z Z Z Z (kR (t:=ix) (vars:=q.vars) h1 h2 hsf.2 hr1.vars) (.cons (.agg (aE Z)) (.cons (.c (.whole Z (by rw[bQ];exact hnv.symm))) .nil)) Z Z Z Z Z) (kc Z (kc Z trivial))))))))))))) ?_)
 refine jw [7,6,5,4,0,1] Z (b0 ?_)
 refine af (ae (az Z (aH Z (bq Z (js Z (bq Z (js Z (bq Z (js Z (bq Z (js Z (bq Z (js Z (bq Z (js Z (av (aT O Z Z Z Z Z) Z (js Z (bF Z (bF Z (bF Z (av (aT O Z Z Z Z Z) Z (jn (ah Z (fun z70=>?_) (fun z70=>?_))))))))))))))))))))))))
 exact c5 z70
 refine aj (af (ae (az Z (aH Z (bq Z (js Z (bq Z (js Z (bq Z (js Z (bq Z (js Z (bq Z (js Z (bq Z (js Z (av (aT O Z Z Z Z Z) Z (js Z (bF Z (bF Z (bF Z (av (aT O Z Z Z Z Z) Z (jn (ah Z (fun z91=>?_) (fun z91=>?_)))))))))))))))))))))))))
 exact c5 z91
 refine aj (af (ae (az Z (js Z (jn (ao (ae (ab Z (jn (ah Z (fun z99=>?_) (fun z99=>?_)))))))))))
 exact c5 z99
 refine ae (ab Z (jn (ah Z (fun z119=>?_) (fun z119=>?_))))
 exact c5 z119
 refine ae (ab Z (jn (ah Z (fun z129=>?_) (fun z129=>?_))))
 exact c5 z129
 refine ae (ab Z (jn (ah Z (fun z146=>?_) (fun z146=>?_))))
 exact c5 z146
 refine ae (ab Z (jn (ah Z (fun z156=>?_) (fun z156=>?_))))
 exact c5 z156
 refine ae (ab Z (jn (ah Z (fun z172=>?_) (fun z172=>?_))))
 refine ae (ab Z (jn (ah Z (fun z175=>?_) (fun z175=>?_))))
 refine ae (js Z (au O [500,501,502,503] (bin:=[jF 3 q,aO (q).vars,aO (q).cells,aO (q).events]) Z Z Z Z (zF (r:=q) (x:=3) h1 h2) Z Z Z Z Z Z (B0:=178000) Z Z (aq ?_)))
 refine js Z (jr ?_)
 have hrun:bm (.node ⟨6,vr,ev,su,ix,fa⟩ a []) r=(false,{q with out:=3}):=by rw[cO,if_pos hs1,←hq];unfold leaf;rw[if_neg (by decide: ¬(6:Int)=2),if_neg (by decide: ¬(6:Int)=3),if_neg (by decide: ¬(6:Int)=4),if_neg (by decide: ¬(6:Int)=5),if_pos Z,if_pos (bK z175)]
 refine⟨.inl Z,_,(am [500,501,502,503] Z Z (e':=[(4,_)]) ⟨Z,ap⟩ Z).trans (aa 503 504 Z Z),_,Z,?_,?_⟩
 rw[hrun];rfl
 rw[hrun];rfl
 refine aj (ae (js Z (jr ?_)))
 have hrun:bm (.node ⟨6,vr,ev,su,ix,fa⟩ a []) r=(true,q):=by rw[cO,if_pos hs1,←hq];unfold leaf;rw[if_neg (by decide: ¬(6:Int)=2),if_neg (by decide: ¬(6:Int)=3),if_neg (by decide: ¬(6:Int)=4),if_neg (by decide: ¬(6:Int)=5),if_pos Z,if_neg (cu z175)]
 refine⟨.inl Z,_,(am [500,501,502,503] Z Z (e':=[(4,_)]) ⟨Z,ap⟩ Z).trans (aa 503 504 Z Z),_,Z,?_,?_⟩
 rw[hrun];rfl
 rw[hrun];rfl
 exact kQ z172
 exact kQ z37
theorem FT{x y:Tr}{r:RS}(hst:bz ⟨7,vr,ev,su,ix,fa⟩=true)(hr:RSok r)(ihx: ∀r,RSok r→MQ h1 h2 58 [.c (.pt 0 0 0),.c (.d x.d)] (rH 3 r) (bb (eB (bm x r).1) (rH 4 (bm x r).2)))(ihy: ∀r,RSok r→MQ h1 h2 58 [.c (.pt 0 0 0),.c (.d y.d)] (rH 3 r) (bb (eB (bm y r).1) (rH 4 (bm y r).2))):MQ h1 h2 58 [.c (.pt 0 0 0),.c (.d (Tr.d (.node ⟨7,vr,ev,su,ix,fa⟩ a [x,y])))] (rH 3 r) (bb (eB (bm (.node ⟨7,vr,ev,su,ix,fa⟩ a [x,y]) r).1) (rH 4 (bm (.node ⟨7,vr,ev,su,ix,fa⟩ a [x,y]) r).2)):=by
 refine MC.shift 500 Z (jH 219 [500,501,502,503] h1 h2 Tryz.func58 Z fun O hF=>?_)
 refine b0 ?_
 have hsf:=dg hst
 refine ae (js Z (ba (az Z (ab Z (jn (af (ae (az Z (aH Z (bq Z (js Z (bq Z (js Z (bq Z (js Z (bq Z (js Z (bq Z (js Z (bq Z (js Z (av (bl O Z Z Z Z Z) Z (js Z (bq Z (js Z (bq Z (au O [500,501,502,503] (bin:=[jF 3 r,aO (r).vars,aO (r).cells,aO (r).events]) Z Z Z Z (ud (r:=r) h1 h2 hr.lo (Int.le_trans hr.hi (Int.le_trans hr.fuel (by decide)))) Z Z Z Z Z Z (B0:=30000) Z Z (aq ?_))))))))))))))))))))))))))))
 refine bq Z (js Z (av (bl O Z Z Z Z Z) Z (jn (ah Z (fun z31=>?_) (fun z31=>?_)))))
 refine ae (js Z (jr ?_))
 have hs0:(bc r).1=false:=by cases h:(bc r).1 with|false=>rfl|true=>rw[h]at z31;cases z31
 have hrun:bm (.node ⟨7,vr,ev,su,ix,fa⟩ a [x,y]) r=(false,(bc r).2):=by rw[gv,if_neg (by decide: ¬(7:Int)=1),if_neg (by rw[hs0];decide)]
 refine⟨.inl Z,_,(am [500,501,502,503] Z Z (e':=[(4,_)]) ⟨Z,ap⟩ Z).trans (aa 503 504 Z Z),_,Z,?_,?_⟩
 rw[hrun];rfl
 rw[hrun];rfl
 refine aj (ae ?_)
 have hs1:(bc r).1=true:=by cases h:(bc r).1 with|true=>rfl|false=>rw[h]at z31;cases z31
 have hr1:=hr.step.ok
 obtain⟨q,hq⟩: ∃q,q=(bc r).2:=⟨_,rfl⟩
 rw[←hq]at hr1 ⊢
 have hnv:=hr1.nv
 have hnc:=hr1.nc
 refine ab Z (jn (af (ae (az Z (ab Z (jn (ah Z (fun z37=>?_) (fun z37=>?_))))))))
 refine jw [5,4,0,1] Z (fZ [_,_,_,_,_,_,_,_,_,_,_,_,_,_,_,_] [aF,ag [0],ag [0,1],ag [0,1,2],ag (rg 0 4),aF,pe (rg 0 6) 0,pn [] 0 1,pn [7] 0 1,pn [7,8] 0 1,pn [7,8,9] 0 1,pn (rg 7 4) 0 1,pn [] 0 1,pe (rg 0 13) 1,pn (rg 0 14) 2 2,pn (rg 0 15) 2 2] [6,13] [_,_,_] (cw Z (kc Z (kc Z (ai (bv O (B0:=45000) Z Z Z Z (kR (t:=su) (vars:=q.vars) h1 h2 hsf.1 hr1.vars) (.cons (.agg (aE Z)) (.cons (.c (.whole Z (by rw[bQ];exact hnv.symm))) .nil)) Z Z Z Z Z) (ai (kc Z (V Z)) (ai (kc Z (V Z)) (ai (kc Z (V Z)) (ai (kc Z (V Z)) (ai (kc Z (V Z)) (ai (kc Z (V Z)) (ai (bv O (B0:=52000) Z Z Z Z (kR (t:=ix) (vars:=q.vars) h1 h2 hsf.2 hr1.vars) (.cons (.agg (aE Z)) (.cons (.c (.whole Z (by rw[bQ];exact hnv.symm))) .nil)) Z Z Z Z Z) (kc Z (kc Z trivial))))))))))))) ?_)
 refine jw [7,6,5,4,0,1] Z (b0 ?_)
 refine af (ae (az Z (aH Z (bq Z (js Z (bq Z (js Z (bq Z (js Z (bq Z (js Z (bq Z (js Z (bq Z (js Z (av (aT O Z Z Z Z Z) Z (js Z (bF Z (bF Z (bF Z (av (aT O Z Z Z Z Z) Z (jn (ah Z (fun z70=>?_) (fun z70=>?_))))))))))))))))))))))))
 exact c5 z70
 refine aj (af (ae (az Z (aH Z (bq Z (js Z (bq Z (js Z (bq Z (js Z (bq Z (js Z (bq Z (js Z (bq Z (js Z (av (aT O Z Z Z Z Z) Z (js Z (bF Z (bF Z (bF Z (av (aT O Z Z Z Z Z) Z (jn (ah Z (fun z91=>?_) (fun z91=>?_)))))))))))))))))))))))))
 exact c5 z91
 refine aj (af (ae (az Z (js Z (jn (ao (ae (ab Z (jn (ah Z (fun z99=>?_) (fun z99=>?_)))))))))))
 exact c5 z99
 refine ae (ab Z (jn (ah Z (fun z119=>?_) (fun z119=>?_))))
 exact c5 z119
 refine ae (ab Z (jn (ah Z (fun z129=>?_) (fun z129=>?_))))
 exact c5 z129
 refine ae (ab Z (jn (ah Z (fun z146=>?_) (fun z146=>?_))))
 exact c5 z146
 refine ae (ab Z (jn (ah Z (fun z156=>?_) (fun z156=>?_))))
 exact c5 z156
 refine ae (ab Z (jn (ah Z (fun z172=>?_) (fun z172=>?_))))
 exact c5 z172
 refine ae (ab Z (jn (ah Z (fun z178=>?_) (fun z178=>?_))))
 refine af (ae (ab Z (jn (ah Z (fun z181=>?_) (fun z181=>?_)))))
 refine ae (az Z (js Z (av (bN O Z Z Z Z Z Z Z Z (by simp[Trs.d]) Z) Z (js Z (au O [500,501,502,503] (bin:=[jF 3 q,aO (q).vars,aO (q).cells,aO (q).events]) Z Z Z Z (ihx q hr1) Z Z Z Z Z Z (B0:=190000) Z Z (aq ?_))))))
 refine js Z (jr ?_)
 have hrun:bm (.node ⟨7,vr,ev,su,ix,fa⟩ a [x,y]) r=bm x q:=by rw[gv,if_neg (by decide: ¬(7:Int)=1),if_pos hs1,←hq,if_pos (bK z181)]
 refine⟨.inl Z,_,(am [500,501,502,190004] Z Z (e':=[(4,_)]) ⟨Z,ap⟩ Z).trans (aa 190004 504 Z Z),_,Z,?_,?_⟩
 rw[hrun];rfl
 rw[hrun];rfl
 refine aj (ae (az Z (js Z (av (bN O Z Z Z Z Z Z Z Z (by simp[Trs.d]) Z) Z (js Z (au O [500,501,502,503] (bin:=[jF 3 q,aO (q).vars,aO (q).cells,aO (q).events]) Z Z Z Z (ihy q hr1) Z Z Z Z Z Z (B0:=198000) Z Z (aq ?_)))))))
 refine js Z (jr ?_)
 have hrun:bm (.node ⟨7,vr,ev,su,ix,fa⟩ a [x,y]) r=bm y q:=by rw[gv,if_neg (by decide: ¬(7:Int)=1),if_pos hs1,←hq,if_neg (cu z181)]
 refine⟨.inl Z,_,(am [500,501,502,198004] Z Z (e':=[(4,_)]) ⟨Z,ap⟩ Z).trans (aa 198004 504 Z Z),_,Z,?_,?_⟩
 rw[hrun];rfl
 rw[hrun];rfl
 exact kQ z178
 exact kQ z37
theorem F5{x y:Tr}{r:RS}(hst:bz ⟨1,vr,ev,su,ix,fa⟩=true)(hr:RSok r)(ihx: ∀r,RSok r→MQ h1 h2 58 [.c (.pt 0 0 0),.c (.d x.d)] (rH 3 r) (bb (eB (bm x r).1) (rH 4 (bm x r).2)))(ihy: ∀r,RSok r→MQ h1 h2 58 [.c (.pt 0 0 0),.c (.d y.d)] (rH 3 r) (bb (eB (bm y r).1) (rH 4 (bm y r).2)))(hxo: ∀r,RSok r→RSle r (bm x r).2):MQ h1 h2 58 [.c (.pt 0 0 0),.c (.d (Tr.d (.node ⟨1,vr,ev,su,ix,fa⟩ a [x,y])))] (rH 3 r) (bb (eB (bm (.node ⟨1,vr,ev,su,ix,fa⟩ a [x,y]) r).1) (rH 4 (bm (.node ⟨1,vr,ev,su,ix,fa⟩ a [x,y]) r).2)):=by
 refine MC.shift 500 Z (jH 219 [500,501,502,503] h1 h2 Tryz.func58 Z fun O hF=>?_)
 refine b0 ?_
 have hsf:=dg hst
 refine ae (js Z (ba (az Z (ab Z (jn (af (ae (az Z (aH Z (bF Z (bF Z (bF Z (bF Z (bF Z (bF Z (av (aT O Z Z Z Z Z) Z (js Z (bF Z (bF Z (bF Z (av (aT O Z Z Z Z Z) Z (jn (ah Z (fun z31=>?_) (fun z31=>?_))))))))))))))))))))))))
 exact c5 z31
 refine aj (ae (ab Z (jn (af (ae (az Z (ab Z (jn (ah Z (fun z37=>?_) (fun z37=>?_))))))))))
 exact c5 z37
 refine aj (af (ae (az Z (aH Z (bq Z (js Z (bq Z (js Z (bq Z (js Z (bq Z (js Z (bq Z (js Z (bq Z (js Z (av (aT O Z Z Z Z Z) Z (js Z (bF Z (bF Z (bF Z (av (aT O Z Z Z Z Z) Z (jn (ah Z (fun z70=>?_) (fun z70=>?_)))))))))))))))))))))))))
 exact c5 z70
 refine aj (af (ae (az Z (aH Z (bq Z (js Z (bq Z (js Z (bq Z (js Z (bq Z (js Z (bq Z (js Z (bq Z (js Z (av (aT O Z Z Z Z Z) Z (js Z (bF Z (bF Z (bF Z (av (aT O Z Z Z Z Z) Z (jn (ah Z (fun z91=>?_) (fun z91=>?_)))))))))))))))))))))))))
 exact c5 z91
 refine aj (af (ae (az Z (js Z (jn (ao (ae (ab Z (jn (ah Z (fun z99=>?_) (fun z99=>?_)))))))))))
 refine ae (az Z (js Z (av (bN O Z Z Z Z Z Z Z Z (by simp[Trs.d]) Z) Z (js Z (au O [500,501,502,503] (bin:=[jF 3 r,aO (r).vars,aO (r).cells,aO (r).events]) Z Z Z Z (ihx r hr) Z Z Z Z Z Z (B0:=109000) Z Z (aq ?_))))))
 refine js Z ?_
 cases hb110:(bm x r).1 with
 | true=>
  refine bq Z (js Z (bq Z (js Z (bq Z (js Z (bq Z (js Z (bq Z (js Z (bq Z (av (bN O Z Z Z Z Z Z Z Z (by simp[Trs.d]) Z) Z (bq Z (js Z (bq Z (au O [500,501,502,109004] (bin:=[jF 3 (bm x r).2,aO ((bm x r).2).vars,aO ((bm x r).2).cells,aO ((bm x r).2).events]) Z Z Z Z (ihy (bm x r).2 (hxo r hr).ok) Z Z Z Z Z Z (B0:=118000) Z Z (aq ?_))))))))))))))))
  refine av (bl O Z Z Z Z Z) Z (js Z (jr ?_))
  have hrun:bm (.node ⟨1,vr,ev,su,ix,fa⟩ a [x,y]) r=bm y (bm x r).2:=by rw[gv,if_pos Z,if_pos hb110]
  refine⟨.inl Z,_,(am [500,501,502,118004] Z Z (e':=[(4,_)]) ⟨Z,ap⟩ Z).trans (aa 118004 504 Z Z),_,Z,?_,?_⟩
  rw[hrun];rfl
  rw[hrun];rfl
 | false=>
  refine bF Z (bF Z (bF Z (bF Z (bF Z (bF Z (bF Z (bF Z (av (aT O Z Z Z Z Z) Z (js Z (jr ?_))))))))))
  have hrun:bm (.node ⟨1,vr,ev,su,ix,fa⟩ a [x,y]) r=(false,(bm x r).2):=by rw[gv,if_pos Z,if_neg (by rw[hb110];decide)]
  refine⟨.inl Z,_,(am [500,501,502,109004] Z Z (e':=[(4,_)]) ⟨Z,ap⟩ Z).trans (aa 109004 504 Z Z),_,Z,?_,?_⟩
  rw[hrun];rfl
  rw[hrun];rfl
 exact kQ z99

theorem FS{x:Tr}{r:RS}(hst:bz ⟨8,vr,ev,su,ix,fa⟩=true)(hr:RSok r)(ihx: ∀r,RSok r→MQ h1 h2 58 [.c (.pt 0 0 0),.c (.d x.d)] (rH 3 r) (bb (eB (bm x r).1) (rH 4 (bm x r).2)))(hxo: ∀r,RSok r→RSle r (bm x r).2):MQ h1 h2 58 [.c (.pt 0 0 0),.c (.d (Tr.d (.node ⟨8,vr,ev,su,ix,fa⟩ a [x])))] (rH 3 r) (bb (eB (bm (.node ⟨8,vr,ev,su,ix,fa⟩ a [x]) r).1) (rH 4 (bm (.node ⟨8,vr,ev,su,ix,fa⟩ a [x]) r).2)):=by
 refine MC.shift 500 Z (jH 219 [500,501,502,503] h1 h2 Tryz.func58 Z fun O hF=>?_)
 refine b0 ?_
 have hsf:=dg hst
 have hnv:=hr.nv
 refine ae (js Z (ba (az Z (ab Z (jn (af (ae (az Z (aH Z (bq Z (js Z (bq Z (js Z (bq Z (js Z (bq Z (js Z (bq Z (js Z (bq Z (js Z (av (bl O Z Z Z Z Z) Z (js Z (bF Z (bF Z (bF Z (av (aT O Z Z Z Z Z) Z (jn (ah Z (fun z31=>?_) (fun z31=>?_))))))))))))))))))))))))))))))
 exact c5 z31
 refine aj (ae (ab Z (jn (af (ae (az Z (ab Z (jn (ah Z (fun z37=>?_) (fun z37=>?_))))))))))
 refine jw [5,4,0,1] Z (fZ [_,_,_,_,_,_,_,_,_,_,_,_,_,_,_,_] [aF,ag [0],ag [0,1],ag [0,1,2],ag (rg 0 4),aF,pe (rg 0 6) 0,pn [] 0 1,pn [7] 0 1,pn [7,8] 0 1,pn [7,8,9] 0 1,pn (rg 7 4) 0 1,pn [] 0 1,pe (rg 0 13) 1,pn (rg 0 14) 2 2,pn (rg 0 15) 2 2] [6,13] [_,_,_] (cw Z (kc Z (kc Z (ai (bv O (B0:=45000) Z Z Z Z (kR (t:=su) (vars:=r.vars) h1 h2 hsf.1 hr.vars) (.cons (.agg (aE Z)) (.cons (.c (.whole Z (by rw[bQ];exact hnv.symm))) .nil)) Z Z Z Z Z) (ai (kc Z (V Z)) (ai (kc Z (V Z)) (ai (kc Z (V Z)) (ai (kc Z (V Z)) (ai (kc Z (V Z)) (ai (kc Z (V Z)) (ai (bv O (B0:=52000) Z Z Z Z (kR (t:=ix) (vars:=r.vars) h1 h2 hsf.2 hr.vars) (.cons (.agg (aE Z)) (.cons (.c (.whole Z (by rw[bQ];exact hnv.symm))) .nil)) Z Z Z Z Z) (kc Z (kc Z trivial))))))))))))) ?_)
 refine jw [7,6,5,4,0,1] Z (b0 ?_)
 refine af (ae (az Z (aH Z (bq Z (js Z (bq Z (js Z (bq Z (js Z (bq Z (js Z (bq Z (js Z (bq Z (js Z (av (aT O Z Z Z Z Z) Z (js Z (bF Z (bF Z (bF Z (av (aT O Z Z Z Z Z) Z (jn (ah Z (fun z70=>?_) (fun z70=>?_))))))))))))))))))))))))
 exact c5 z70
 refine aj (af (ae (az Z (aH Z (bq Z (js Z (bq Z (js Z (bq Z (js Z (bq Z (js Z (bq Z (js Z (bq Z (js Z (av (aT O Z Z Z Z Z) Z (js Z (bF Z (bF Z (bF Z (av (aT O Z Z Z Z Z) Z (jn (ah Z (fun z91=>?_) (fun z91=>?_)))))))))))))))))))))))))
 exact c5 z91
 refine aj (af (ae (az Z (js Z (jn (ao (ae (ab Z (jn (ah Z (fun z99=>?_) (fun z99=>?_)))))))))))
 exact c5 z99
 refine ae (ab Z (jn (ah Z (fun z119=>?_) (fun z119=>?_))))
 exact c5 z119
 refine ae (ab Z (jn (ah Z (fun z129=>?_) (fun z129=>?_))))
 exact c5 z129
 refine ae (ab Z (jn (ah Z (fun z146=>?_) (fun z146=>?_))))
 exact c5 z146
 refine ae (ab Z (jn (ah Z (fun z156=>?_) (fun z156=>?_))))
 exact c5 z156
 refine ae (ab Z (jn (ah Z (fun z172=>?_) (fun z172=>?_))))
 exact c5 z172
 refine ae (ab Z (jn (ah Z (fun z178=>?_) (fun z178=>?_))))
 exact c5 z178
 refine ae (ab Z (jn (ah Z (fun z198=>?_) (fun z198=>?_))))
 refine af (ao (aw (X:=Nat×RS) (fun z=>⟨[(0,.c (.pt 500 0 0)),(1,.c (.d (Tr.d (.node ⟨8,vr,ev,su,ix,fa⟩ a [x])))),(5,.c (.rs 501 0 4))],[(500,.box [.rs 501 0 4,.rs 502 0 8,.rs 600 0 z.2.events.length,.d (.int .i64 z.2.fuel),.d (.int .i64 z.2.steps),.d (.int .i64 z.2.out)]),(501,aO z.2.vars),(502,aO z.2.cells),(600,aO z.2.events)]⟩) (fun z=>RSok z.2∧(z.2.fuel-z.2.steps).toNat<z.1∧er ⟨8,vr,ev,su,ix,fa⟩ (bm x) z.1 z.2=bm (.node ⟨8,vr,ev,su,ix,fa⟩ a [x]) r) (fun z=>z.1) ((r.fuel-r.steps).toNat+1,r) ((am [500,501,502,503] (e':=[(0,_),(1,_),(5,_)]) Z Z ⟨Z,Z,Z,ap⟩ Z).trans ((aa 503 600 Z Z).trans (Ent.to ⟨Z,Z,Z,ap⟩ Z))) ?_ (fun z hi=>?_)))
 exact⟨hr,Nat.lt_succ_self _,uB.symm⟩
 refine af (ae (js Z (au O [500,501,502,600] (bin:=[jF 3 z.2,aO (z.2).vars,aO (z.2).cells,aO (z.2).events]) Z Z Z Z (ud (r:=z.2) h1 h2 hi.1.lo (Int.le_trans hi.1.hi (Int.le_trans hi.1.fuel (by decide)))) Z Z Z Z Z Z (B0:=202000) Z Z (aq ?_))))
 refine jn (ah Z (fun z201=>?_) (fun z201=>?_))
 refine aj (ao (af (ae ?_)))
 have hs1:(bc z.2).1=true:=z201
 have hr1:=hi.1.step.ok
 have hrs:=hi.1.step
 obtain⟨q,hq⟩: ∃q,q=(bc z.2).2:=⟨_,rfl⟩
 rw[←hq]at hr1 hrs ⊢
 have hne: ¬z.2.steps=z.2.fuel:=fun e=>by unfold bc at hs1;rw[if_pos e]at hs1;cases hs1
 have hq2:q={z.2 with steps:=z.2.steps+1}:=by rw[hq];unfold bc;rw[if_neg hne]
 have hnv:=hr1.nv
 refine az Z (ab Z (du O Z Z Z Z (kR (t:=su) (vars:=q.vars) h1 h2 hsf.1 hr1.vars) (.cons (.agg (aE Z)) (.cons (.c (.whole Z (by rw[bQ];exact hnv.symm))) .nil)) Z Z Z Z Z (B0:=209000) Z (js Z (jn (ah Z (fun z209=>?_) (fun z209=>?_))))))
 refine ae (js Z (jr ?_))
 have hrun:bm (.node ⟨8,vr,ev,su,ix,fa⟩ a [x]) r=(true,q):=by
  rw[←hi.2.2]
  obtain⟨m,hm⟩: ∃m,z.1=m+1:=⟨z.1-1,by omega⟩
  rw[hm]
  unfold er
  rw[if_neg hne,←hq2]
  rw[if_pos (bK (by rw[hq2]at z209;exact z209))]
 refine⟨.inl Z,_,(am [500,501,502,600] Z Z (e':=[(4,_)]) ⟨Z,ap⟩ Z).trans (aa 600 504 Z Z),_,Z,?_,?_⟩
 rw[hrun];rfl
 rw[hrun];rfl
 refine aj (ae (az Z (js Z ?_)))
 have hneg:=cu z209
 refine av (bN O Z Z Z Z Z Z Z Z (by simp[Trs.d]) Z) Z (js Z (au O [500,501,502,600] (bin:=[jF 3 q,aO (q).vars,aO (q).cells,aO (q).events]) Z Z Z Z (ihx q hr1) Z Z Z Z Z Z (B0:=218000) Z Z (aq ?_)))
 refine js Z (jn (ah Z (fun z218=>?_) (fun z218=>?_)))
 refine ae (js Z (jr ?_))
 have hrun:bm (.node ⟨8,vr,ev,su,ix,fa⟩ a [x]) r=(false,(bm x q).2):=by
  have hb218:(bm x q).1=false:=by cases h:(bm x q).1 with|false=>rfl|true=>rw[h]at z218;cases z218
  rw[←hi.2.2]
  obtain⟨m,hm⟩: ∃m,z.1=m+1:=⟨z.1-1,by omega⟩
  rw[hm]
  unfold er
  rw[if_neg hne,←hq2]
  rw[if_neg (cu (by rw[hq2]at z209;exact z209)),if_neg (by rw[hb218];decide)]
 refine⟨.inl Z,_,(am [500,501,502,218004] Z Z (e':=[(4,_)]) ⟨Z,ap⟩ Z).trans (aa 218004 504 Z Z),_,Z,?_,?_⟩
 rw[hrun];rfl
 rw[hrun];rfl
 refine aj ?_
 have hb:(bm x q).1=true:=by cases h:(bm x q).1 with|true=>rfl|false=>rw[h]at z218;cases z218
 have hxq:=hxo q hr1
 refine⟨(z.1-1,(bm x q).2),(am [500,501,502,218004] (e':=[(0,_),(1,_),(5,_)]) Z Z ⟨Z,Z,Z,ap⟩ Z).trans ((aa 218004 600 Z Z).trans (Ent.to ⟨Z,Z,Z,ap⟩ Z)),⟨hxq.ok,?_,?_⟩,?_⟩
 have h4:=hi.1.hi;have h5:=hxq.ok.hi;have h6:=hxq.fuel;have h7:=hxq.steps;have h8:q.steps=z.2.steps+1:=by rw[hq2]
 have h9:q.fuel=z.2.fuel:=by rw[hq2]
 show((bm x q).2.fuel-(bm x q).2.steps).toNat<z.1-1;have:=hi.2.1;have h3:z.2.steps<z.2.fuel:=by omega
 omega
 rw[←hi.2.2]
 obtain⟨m,hm⟩: ∃m,z.1=m+1:=⟨z.1-1,by omega⟩
 rw[hm]
 show er _ _ m _=_
 conv=>rhs;unfold er
 rw[if_neg hne,←hq2]
 rw[if_neg (by rw[hq2]at hneg;exact hneg),if_pos hb]
 show z.1-1<z.1;have:=hi.2.1;omega
 refine bg (ae (js Z (jr ?_)))
 have hrun:bm (.node ⟨8,vr,ev,su,ix,fa⟩ a [x]) r=(false,(bc z.2).2):=by
  have hs1:(bc z.2).1=false:=z201
  rw[←hi.2.2]
  obtain⟨m,hm⟩: ∃m,z.1=m+1:=⟨z.1-1,by omega⟩
  rw[hm]
  unfold er
  have he:z.2.steps=z.2.fuel:=Decidable.byContradiction fun h=>by unfold bc at hs1;rw[if_neg h]at hs1;cases hs1
  rw[if_pos he,bc,if_pos he]
 refine⟨.inl Z,_,(am [500,501,502,600] Z Z (e':=[(4,_)]) ⟨Z,ap⟩ Z).trans (aa 600 504 Z Z),_,Z,?_,?_⟩
 rw[hrun];rfl
 rw[hrun];rfl
 exact kQ z198
 exact kQ z37
mutual
/-- Each element is valid, and has the statements behind it that it dU. -/
def Tr.ok:Tr→Prop
  | .node s _ ks=>bz s=true∧(ks.length:Int)=bC s.kind∧Trs.ok ks
def Trs.ok:List Tr→Prop
  | []=>True
  | t::r=>t.ok∧Trs.ok r
end
theorem RSle.trans{a b c:RS}(h:RSle a b)(h':RSle b c):RSle a c:=⟨h'.ok,h'.fuel.trans h.fuel,Int.le_trans h.steps h'.steps⟩
theorem RSok.out{r:RS}(h:RSok r)(x:Int):RSle r {r with out:=x}:=⟨⟨h.vars,h.cells,h.lo,h.hi,h.fuel,h.events⟩,rfl,Int.le_refl _⟩
theorem CT{s:Sm}{r q:RS}(h:RSok r)(hq:q=(bc r).2)(hs:(bc r).1=true):RSle r (leaf s q).2:=by
 have h1:=h.step
 have hne: ¬r.steps=r.fuel:=fun e=>by unfold bc at hs;rw[if_pos e]at hs;cases hs
 have hq2:q={r with steps:=r.steps+1}:=by rw[hq];unfold bc;rw[if_neg hne]
 rw[←hq]at h1
 have h2:=h1.ok
 have key: ∀q':RS,RSok q'→q'.fuel=q.fuel→q'.steps=q.steps→RSle r q':=fun q' a b c=>⟨a,b.trans h1.fuel,by rw[c];exact h1.steps⟩
 unfold leaf
 split
 split
 rename_i hb;exact key _ ⟨tq h2.vars hb,h2.cells,h2.lo,h2.hi,h2.fuel,h2.events⟩ Z Z
 exact key _ (h2.out 4).ok Z Z
 split
 split
 rename_i hb
 have hc:=gb h2.cells
 have hi:(aS s.index q.vars).toNat<q.cells.length:=by
  have:=hc.2
  simp only[ft,bS,decide_eq_true_eq]at hb
  omega
 refine key _ ⟨tq h2.vars ?_,h2.cells,h2.lo,h2.hi,h2.fuel,h2.events⟩ Z Z
 rw[aD hi]
 exact List.all_eq_true.1 hc.1 _ (List.getElem_mem hi)
 exact key _ (h2.out 2).ok Z Z
 split
 split
 split
 rename_i hb;exact key _ ⟨h2.vars,tq h2.cells hb,h2.lo,h2.hi,h2.fuel,h2.events⟩ Z Z
 exact key _ (h2.out 4).ok Z Z
 exact key _ (h2.out 2).ok Z Z
 split
 refine⟨⟨h2.vars,h2.cells,h2.lo,h2.hi,h2.fuel,?_⟩,h1.fuel,h1.steps⟩
 have:=h.events
 show((q.events++[s.event]).length:Int)≤q.steps
 rw[hq2];simp;omega
 split
 split
 exact key _ (h2.out 3).ok Z Z
 exact h1
 exact h1
theorem ul{s:Sm}{f:RS→Bool×RS}(hf: ∀r,RSok r→RSle r (f r).2): ∀{m:Nat} {r:RS},RSok r→RSle r (er s f m r).2
 | 0,r,h=>h.out 1
 | m+1,r,h=>by
  unfold er
  split
  exact h.out 1
  rename_i hne
  have h1:=h.step
  unfold bc at h1
  rw[if_neg hne]at h1
  split
  exact h1
  split
  exact h1.trans ((hf _ h1.ok).trans (ul hf (hf _ h1.ok).ok))
  exact h1.trans (hf _ h1.ok)
theorem lJ: ∀{t:Tr},t.ok→∀{r:RS},RSok r→RSle r (bm t r).2
 | .node s a [x,y],ht,r,h=>by
  have hx: ∀r,RSok r→RSle r (bm x r).2:=fun r hr=>lJ ht.2.2.1 hr
  have hy: ∀r,RSok r→RSle r (bm y r).2:=fun r hr=>lJ ht.2.2.2.1 hr
  rw[gv]
  split
  split
  exact(hx r h).trans (hy _ (hx r h).ok)
  exact hx r h
  split
  split
  exact h.step.trans (hx _ h.step.ok)
  exact h.step.trans (hy _ h.step.ok)
  exact h.step
 | .node s a [x],ht,r,h=>by rw[uB];exact ul (fun r hr=>lJ ht.2.2.1 hr) h
 | .node s a [],ht,r,h=>by
  rw[cO]
  split
  rename_i hs;exact CT h Z hs
  exact h.step
 | .node s a (x::y::z::ks),ht,r,h=>by
  have h1:((x::y::z::ks).length:Int)=bC s.kind:=ht.2.1
  have h2:=(c7 s.kind).2
  simp only[eH]at h1
  omega
theorem yZ{k:Int}(h:bC k=2):k=1∨k=7:=by
 unfold bC at h
 split at h
 exact .inl ‹_›
 split at h
 exact .inr ‹_›
 split at h<;>simp at h
theorem y2{k:Int}(h:bC k=1):k=8:=by
 unfold bC at h
 split at h
 simp at h
 split at h
 simp at h
 split at h
 assumption
 simp at h
theorem wQ{s:Sm}(hs:bz s=true)(h:bC s.kind=0):s.kind=0∨s.kind=2∨s.kind=3∨s.kind=4∨s.kind=5∨s.kind=6:=by
 have h8:0≤s.kind∧s.kind≤8:=by
  unfold bz rJ at hs
  cases h1:(decide (0≤s.kind)&&decide (s.kind≤8))with
  | true=>simpa using h1
  | false=>rw[h1]at hs;simp at hs
 have a1:s.kind≠1:=fun e=>by rw[e]at h;cases h
 have a2:s.kind≠7:=fun e=>by rw[e]at h;cases h
 have a3:s.kind≠8:=fun e=>by rw[e]at h;cases h
 omega
theorem Ci{L:Nat}(h1:4096≤L)(h2:L≤1073741824): ∀{t:Tr},t.ok→∀{r:RS},RSok r→MC Tryz.prog L 58 [.c (.pt 0 0 0),.c (.d t.d)] (rH 3 r) (bb (eB (bm t r).1) (rH 4 (bm t r).2))
 | .node s a [x,y],ht,r,h=>by
  have ihx: ∀r,RSok r→MC Tryz.prog L 58 [.c (.pt 0 0 0),.c (.d x.d)] (rH 3 r) (bb (eB (bm x r).1) (rH 4 (bm x r).2)):=fun r hr=>Ci h1 h2 ht.2.2.1 hr
  have ihy: ∀r,RSok r→MC Tryz.prog L 58 [.c (.pt 0 0 0),.c (.d y.d)] (rH 3 r) (bb (eB (bm y r).1) (rH 4 (bm y r).2)):=fun r hr=>Ci h1 h2 ht.2.2.2.1 hr
  obtain⟨k,vr,ev,su,ix,fa⟩:=s
  have hk:bC k=2:=ht.2.1.symm
  rcases yZ hk with rfl|rfl
  exact F5 h1 h2 ht.1 h ihx ihy (fun r hr=>lJ ht.2.2.1 hr)
  exact FT h1 h2 ht.1 h ihx ihy
 | .node s a [x],ht,r,h=>by
  have ihx: ∀r,RSok r→MC Tryz.prog L 58 [.c (.pt 0 0 0),.c (.d x.d)] (rH 3 r) (bb (eB (bm x r).1) (rH 4 (bm x r).2)):=fun r hr=>Ci h1 h2 ht.2.2.1 hr
  obtain⟨k,vr,ev,su,ix,fa⟩:=s
  have hk:bC k=1:=ht.2.1.symm
  obtain rfl:=y2 hk
  exact FS h1 h2 ht.1 h ihx (fun r hr=>lJ ht.2.2.1 hr)
 | .node s a [],ht,r,h=>by
  obtain⟨k,vr,ev,su,ix,fa⟩:=s
  have hk:bC k=0:=ht.2.1.symm
  have:=wQ ht.1 hk
  simp only at this
  rcases this with rfl|rfl|rfl|rfl|rfl|rfl
  exact F6 h1 h2 ht.1 h
  exact FZ h1 h2 ht.1 h
  exact FY h1 h2 ht.1 h
  exact FW h1 h2 ht.1 h
  exact FV h1 h2 ht.1 h
  exact FU h1 h2 ht.1 h
 | .node s a (x::y::z::ks),ht,r,h=>by
  have h1:((x::y::z::ks).length:Int)=bC s.kind:=ht.2.1
  have h2:=(c7 s.kind).2
  simp only[eH]at h1
  omega
theorem nq{f:Nat→Option (Tr×Nat)}(hf: ∀k t k',f k=some (t,k')→t.ok): ∀{q k ts k'},c6 f q k=some (ts,k')→ts.length=q∧Trs.ok ts
 | 0,k,ts,k',h=>by simp only[c6,ef,Prod.mk.injEq]at h;rw[←h.1];exact⟨rfl,ap⟩
 | q + 1,k,ts,k',h=>by
  cases hx:f k with
  | none=>rw[eJ hx]at h;cases h
  | some x=>
   obtain⟨t,k1⟩:=x
   rw[dN hx]at h
   simp only[Option.map_eq_some_iff]at h
   obtain⟨⟨ts1,k2⟩,h1,h2⟩:=h
   simp only[Prod.mk.injEq]at h2
   obtain⟨h3,h4⟩:=nq hf h1
   rw[←h2.1]
   exact⟨by simp[h3],hf k t k1 hx,h4⟩
theorem ne: ∀{n body k t k'},cV n body k=some (t,k')→t.ok
 | 0,_,_,_,_,h=>by cases h
 | n + 1,body,k,t,k',h=>by
  unfold cV at h
  split at h
  cases h
  split at h
  cases h
  rename_i hk
  simp only[Option.map_eq_some_iff]at h
  obtain⟨⟨ts1,k2⟩,h1,h2⟩:=h
  simp only[Prod.mk.injEq]at h2
  obtain⟨h3,h4⟩:=nq (fun k t k' h=>ne h) h1
  rw[←h2.1]
  have hs:bz (body.getD k default)=true:=by
   cases hb:bz (body.getD k default)with
   | true=>rfl
   | false=>unfold cC at hk;rw[hb]at hk;exact absurd (by rw[if_neg (by decide)];decide) hk
  refine⟨hs,?_,h4⟩
  rw[h3]
  unfold cC
  rw[if_pos hs]
  have:=(c7 (body.getD k default).kind).1
  omega
theorem qm{body:List Sm}(h:vG body=true): ∃t,D6 body=some (t,body.length)∧t.ok∧BR body=t.d:=by
 unfold vG at h
 split at h
 cases h
 rename_i h30
 simp only[bS,decide_eq_true_eq]at h
 obtain⟨t,k,hk⟩:=xA h.1
 have h2:=h.2
 rw[hk]at h2
 simp only[Int.ofNat_inj,Int.natCast_inj]at h2
 subst h2
 exact⟨t,hk,ne hk,by unfold BR;rw[if_neg h30,hk]⟩
def kS(body:List Sm):Tr:=match D6 body with|some (t,_)=>t|none=>.node default 0 []
def r0(s:Sx)(f:Int):RS:=⟨s.vars,s.cells,[],f,0,0⟩
theorem Dv{s:Sx}{f:Int}(hs:zk s=true)(hf:ft 0 2000 f=true):RSok (r0 s f):=by
 unfold zk at hs
 simp only[bS]at hs
 simp only[ft,bS,decide_eq_true_eq]at hf
 exact⟨hs.1,hs.2,Int.le_refl _,hf.1,hf.2,by simp[r0]⟩
theorem qU{body:List Sm}(h:vG body=true):(kS body).ok∧BR body=(kS body).d:=by
 obtain⟨t,h1,h2,h3⟩:=qm h
 unfold kS;rw[h1];exact⟨h2,h3⟩
theorem JU{f:Int}(hp:gL p=true)(hs:zk s=true)(hf:ft 0 2000 f=true):MQ h1 h2 29 [kK p,GR s,eI f] [] (bb (.tup [.c (.pt 0 0 0),eB true]) (rH 3 (bm (kS p.body) (r0 s f)).2)):=by
 refine jB 39 h1 h2 Tryz.func29 Z fun O hF=>?_
 have htb:vG p.body=true:=by unfold gL at hp;simp only[bS]at hp;exact hp.1
 obtain⟨hto,htd⟩:=qU htb
 have hr0:=Dv hs hf
 have h4:s.vars.length=4:=hr0.nv
 have h8:s.cells.length=8:=hr0.nc
 refine ae (jx Z (aq ?_))
 refine jf [3,1,2] Z (jx Z (aq ?_))
 refine ab Z (jn (af (ae (js Z (bP Z (Hi h1 h2) 13000 Z (ab Z (jf [14,7,6,4,3,1,2] Z (aA 3 Z Z Z (fun hx=>ax hx Z (bA O hx Z Z Z Z (Ke h1 h2) (ac Z) Z Z Z Z Z Z Z (B0:=17000) Z (ax hx Z (AN.nil)))) Z Z (av (aG O Z Z Z Z Z) Z (js Z (jf [19,7,6,4,3,1,2] Z (aA 3 Z Z Z (fun hx=>ax hx Z (bA O hx Z Z Z Z (p9 h1 h2) (ac Z) Z Z Z Z Z Z Z (B0:=22000) Z (ax hx Z (AN.nil)))) Z Z (av (aG O Z Z Z Z Z) Z (jf [23,7,6,4,3,1,2] Z (jn (ah Z (fun z23=>?_) (fun z23=>?_)))))))))))))))))
 exact absurd z23 (by rw[hp,hs,hf];decide)
 refine aj (ae (ab Z (jf [26,7,6,4,3,1,2] Z (an O Z Z Z Z (Ep h1 h2) (ac Z) Z Z Z Z (B0:=28000) Z Z ?_))))
 rw[htd]
 refine az Z (js Z (jf [8,7,6,4,3,1,2] Z (ba (js Z (ci O (B0:=32000) Z Z Z Z (Kd (v:=s.vars) (c:=s.cells) h1 h2) (ac Z) Z Z Z Z Z Z ?_)))))
 rw[h4,h8]
 refine aq ?_
 refine ab Z (jf [33,8,7,6,4,3,1,2] Z (jx Z (ar (cz 34 35000 1 true 2 Z Z Z) (aq ?_))))
 refine aq ?_
 refine js Z (jf [10,8,7,6,4,3,1,2] Z (ba (ab Z (jf [36,35,10,7,6,4,3,1,2] Z (au O [34,32000,32001,35000] (bin:=[jF 3 (r0 s f),aO s.vars,aO s.cells,aO []]) Z Z Z Z (Ci h1 h2 hto hr0) Z Z Z Z Z Z (B0:=38000) Z Z (aq ?_))))))
 refine jf [10,7,6,4,3,1,2] Z (ba (aH Z (jr ?_)))
 refine⟨.inl Z,_,(am [34,32000,32001,38004] (e':=[(6,_),(7,_)]) Z Z ⟨Z,Z,ap⟩ Z).trans ((aa 34 0 Z Z).trans ((aa 32000 1 Z Z).trans ((aa 32001 2 Z Z).trans (aa 38004 3 Z Z)))),_,Z,Z,Z⟩
theorem Ka{f:Int}(hp:gL p=true)(hs:zk s=true)(hf:ft 0 2000 f=true):MQ h1 h2 10 [kK p,GR s,eI f] [] (Rows (.tup [.agg [.rs 0 0 4,.rs 1 0 8],.c (.rs 2 0 (bm (kS p.body) (r0 s f)).2.events.length),eI (bm (kS p.body) (r0 s f)).2.out,eB true]) [aO (bm (kS p.body) (r0 s f)).2.vars,aO (bm (kS p.body) (r0 s f)).2.cells,aO (bm (kS p.body) (r0 s f)).2.events]):=by
 refine cH (jB 34 h1 h2 Tryz.func10 Z fun O hF=>?_)
 refine ae (jx Z (aq ?_))
 refine jx Z (aq ?_)
 refine jl Z (aq ?_)
 refine aH Z (ba (aH Z (sL O Z Z Z Z (JU (p:=p) (s:=s) (f:=f) h1 h2 hp hs hf) (ac Z) Z Z Z Z (B0:=17000) Z (aq ?_))))
 refine az Z (js Z (jn (af (ae (ab Z (jn (ah Z (fun z20=>?_) (fun z20=>?_))))))))
 exact absurd z20 (by decide)
 refine aj (af (jw [10,6] Z (fZ [_,_,_,_,_,_,_,_,_,_,_,_,_,_,_,_] [aF,ag [0],ag [0,1],ag [0,1,2],pn [] 0 1,pn [4] 0 1,pn [4,5] 0 1,pn [4,5,6] 0 1,pn [] 0 1,pn [8] 0 1,pn [8,9] 0 1,pn [8,9,10] 0 1,pe (rg 0 4) 0,pn (rg 0 8++[12]) 1 1,pn (rg 0 14) 1 1,pn (rg 0 15) 1 1] [12] [_,_] (cw Z (ai (kc Z (V Z)) (ai (kc Z (V Z)) (ai (kc Z (V Z)) (ai (kc Z (V Z)) (ai (kc Z (V Z)) (ai (kc Z (V Z)) (ai (kc Z (V Z)) (ai (kc Z (V Z)) (ai (eS Z Z Z) (kc Z (kc Z (kc Z trivial))))))))))))) ?_)))
 refine ea ?_
 refine⟨.inl Z,_,b9,_,Z,[17001,17002,17003],by decide,Z,Z,Z⟩
structure Rs where
  v:List Int
  c:List Int
  ev:List Int
  out:Int
  st:Int
structure Cf where
  n:Nat
  ws:List Nat
  v:List Int
  c:List Int
  ev:List Int
  st:Int
theorem yX{b:List Sm}(h:kH b=true):1≤b.length∧b.length≤30∧b.all bz=true∧sV b 0=b.length:=by
 unfold kH at h;simp only[bS,decide_eq_true_eq]at h
 exact⟨by omega,by omega,h.2.1,h.2.2⟩

theorem lz{f g:Nat→Option (Tr×Nat)}{k0:Nat}(h: ∀j,k0≤j→f j=g j)(hf: ∀k t k',f k=some (t,k')→k<k'): ∀{q k:Nat},k0≤k→c6 f q k=c6 g q k
 | 0,_,_=>rfl
 | q + 1,k,hk=>by
  cases hx:f k with
  | none=>rw[eJ hx,eJ (by rw[←h k hk];exact hx)]
  | some x=>
   obtain⟨t,k1⟩:=x
   have:=hf k t k1 hx
   rw[dN hx,dN (by rw[←h k hk];exact hx),lz h hf (by omega)]
theorem lV{n:Nat}{body:List Sm}{k:Nat}(h:body.length≤k):cV n body k=none:=by
 cases n with
 | zero=>rfl
 | succ n=>unfold cV;rw[if_pos h]
theorem qV: ∀{n m:Nat} {body:List Sm} {k:Nat},body.length<n+k→body.length<m+k→cV n body k=cV m body k
 | 0,m,body,k,h1,h2=>by rw[lV (by omega),lV (by omega)]
 | n+1,0,body,k,h1,h2=>by rw[lV (by omega),lV (by omega)]
 | n+1,m+1,body,k,h1,h2=>by
  unfold cV
  rw[lz (f:=cV n body) (g:=cV m body) (k0:=k+1) (fun j hj=>qV (by omega) (by omega)) (fun k t k' h=>(iy h).1) (da _)]
def cD(body:List Sm)(k:Nat):Option (Tr×Nat):=cV (body.length+1) body k
theorem oc{body:List Sm}{k:Nat}:cD body k=if body.length≤k then none else if cC (body.getD k default)<0 then none else(c6 (cD body) (cC (body.getD k default)).toNat (k+1)).map fun r=>(.node (body.getD k default) k r.1,r.2):=by
 unfold cD
 show(if body.length≤k then none else if cC (body.getD k default)<0 then none else(c6 (cV body.length body) (cC (body.getD k default)).toNat (k+1)).map fun r=>(Tr.node (body.getD k default) k r.1,r.2))=_
 rw[lz (f:=cV body.length body) (g:=cV (body.length+1) body) (k0:=k+1) (fun j hj=>qV (by omega) (by omega)) (fun k t k' h=>(iy h).1) (da _)]
theorem jV{body:List Sm}{k k':Nat}{t:Tr}(h:cD body k=some (t,k')):k<k'∧k'≤body.length:=iy h
theorem cx{body:List Sm}{k k':Nat}{s:Sm}{a:Int}{ks:List Tr}(h:cD body k=some (.node s a ks,k')) :
    k<body.length∧s=body.getD k default∧bz s=true∧c6 (cD body) ks.length (k+1)=some (ks,k')∧(ks.length:Int)=bC s.kind:=by
 rw[oc]at h
 split at h
 cases h
 split at h
 cases h
 rename_i h1 h2
 simp only[Option.map_eq_some_iff]at h
 obtain⟨⟨ts,k2⟩,h3,h4⟩:=h
 simp only[Prod.mk.injEq,Tr.node.injEq]at h4
 obtain⟨⟨h5,_,h6⟩,h7⟩:=h4
 subst h6;subst h7;subst h5
 have h8:=(nq (fun k t k' h=>ne h) h3).1
 have hs:bz (body.getD k default)=true:=by
  cases hb:bz (body.getD k default)with
  | true=>rfl
  | false=>unfold cC at h2;rw[hb]at h2;exact absurd (by rw[if_neg (by decide)];decide) h2
 refine⟨by omega,Z,hs,by rw[h8];exact h3,?_⟩
 rw[h8]
 unfold cC
 rw[if_pos hs]
 have:=(c7 (body.getD k default).kind).1
 omega
theorem oy{body:List Sm}{k:Nat}(hk:k<body.length){n:Int}(hn:0<n):fQ (body.drop k) n=(fQ (body.drop (k+1)) (n-1+bC (body.getD k default).kind)).map (· + 1):=by
 rw[u4 hn hk,show n+(bC (body.getD k default).kind-1)=n-1+bC (body.getD k default).kind by omega]
theorem sn{body:List Sm}{f:Nat→Option (Tr×Nat)}(hf: ∀k t k',f k=some (t,k')→k<k'∧∀n:Int,0≤n→fQ (body.drop k) (n+1)=(fQ (body.drop k') n).map (· + (k'-k))) :
    ∀{q k:Nat} {ts:List Tr} {k':Nat},c6 f q k=some (ts,k')→k≤k'∧∀n:Int,0≤n→fQ (body.drop k) (n+q)=(fQ (body.drop k') n).map (· + (k'-k))
 | 0,k,ts,k',h=>by
  simp only[c6,ef,Prod.mk.injEq]at h
  rw[←h.2]
  refine⟨da _,fun n hn=>?_⟩
  rw[show n+((0:Nat):Int)=n by omega]
  simp
 | q + 1,k,ts,k',h=>by
  cases hx:f k with
  | none=>rw[eJ hx]at h;cases h
  | some x=>
   obtain⟨t,k1⟩:=x
   rw[dN hx]at h
   simp only[Option.map_eq_some_iff]at h
   obtain⟨⟨ts1,k2⟩,h1,h2⟩:=h
   simp only[Prod.mk.injEq]at h2
   obtain⟨_,rfl⟩:=h2
   obtain⟨h3,h4⟩:=hf k t k1 hx
   obtain⟨h5,h6⟩:=sn hf h1
   refine⟨by omega,fun n hn=>?_⟩
   rw[show n+((q+1:Nat):Int)=(n+q)+1 by omega,h4 _ (by omega),h6 n hn,Option.map_map]
   exact congrArg (fun g=>Option.map g _) (funext fun x=>by simp;omega)
theorem ox{body:List Sm}: ∀{n k:Nat} {t:Tr} {k':Nat},cV n body k=some (t,k')→k<k'∧∀m:Int,0≤m→fQ (body.drop k) (m+1)=(fQ (body.drop k') m).map (· + (k'-k))
 | 0,_,_,_,h=>by cases h
 | n + 1,k,t,k',h=>by
  unfold cV at h
  split at h
  cases h
  split at h
  cases h
  rename_i h1 h2
  simp only[Option.map_eq_some_iff]at h
  obtain⟨⟨ts,k2⟩,h3,h4⟩:=h
  simp only[Prod.mk.injEq]at h4
  obtain⟨_,rfl⟩:=h4
  obtain⟨h5,h6⟩:=sn (body:=body) (fun k t k' h=>ox h) h3
  have hs:bz (body.getD k default)=true:=by
   cases hb:bz (body.getD k default)with
   | true=>rfl
   | false=>unfold cC at h2;rw[hb]at h2;exact absurd (by rw[if_neg (by decide)];decide) h2
  have hkf:cC (body.getD k default)=bC (body.getD k default).kind:=by unfold cC;rw[if_pos hs]
  have hb:=(c7 (body.getD k default).kind).1
  refine⟨by omega,fun m hm=>?_⟩
  have h7:=h6 m hm
  rw[hkf]at h7
  rw[oy (by omega) (by omega),show m+1-1+bC (body.getD k default).kind=m+((bC (body.getD k default).kind).toNat:Int) by omega,h7,Option.map_map]
  exact congrArg (fun g=>Option.map g _) (funext fun x=>by simp;omega)
theorem yQ{body:List Sm}{k k':Nat}{t:Tr}(h:cD body k=some (t,k')):sV body k=k':=by
 obtain⟨h1,h2⟩:=ox h
 have h3:=h2 0 (Int.le_refl _)
 unfold sV
 rw[show(1:Int)=0+1 from Z,h3,lg (Int.le_refl _)]
 show(k:Int)+((0+(k'-k):Nat):Int)=k'
 omega
theorem uv{body:List Sm}: ∀{n k:Nat} {t:Tr} {k':Nat},cV n body k=some (t,k')→∀j,k≤j→j<k'→bz (body.getD j default)=true
 | 0,_,_,_,h=>by cases h
 | n + 1,k,t,k',h=>by
  unfold cV at h
  split at h
  cases h
  split at h
  cases h
  rename_i h1 h2
  simp only[Option.map_eq_some_iff]at h
  obtain⟨⟨ts,k2⟩,h3,h4⟩:=h
  simp only[Prod.mk.injEq]at h4
  obtain⟨_,rfl⟩:=h4
  have hs:bz (body.getD k default)=true:=by
   cases hb:bz (body.getD k default)with
   | true=>rfl
   | false=>unfold cC at h2;rw[hb]at h2;exact absurd (by rw[if_neg (by decide)];decide) h2
  have key: ∀{q k:Nat} {ts:List Tr} {k':Nat},c6 (cV n body) q k=some (ts,k')→∀j,k≤j→j<k'→bz (body.getD j default)=true:=by
   intro q
   induction q with
   | zero=>intro k ts k' h j h1 h2;simp only[c6,ef,Prod.mk.injEq]at h;omega
   | succ q ih=>
    intro k ts k' h j h1 h2
    cases hx:cV n body k with
    | none=>rw[eJ hx]at h;cases h
    | some x=>
     obtain⟨t,k1⟩:=x
     rw[dN hx]at h
     simp only[Option.map_eq_some_iff]at h
     obtain⟨⟨ts1,k2⟩,h3,h4⟩:=h
     simp only[Prod.mk.injEq]at h4
     obtain⟨_,rfl⟩:=h4
     by_cases hj:j<k1
     exact uv hx j h1 hj
     exact ih h3 j (by omega) h2
  intro j hj1 hj2
  by_cases e:j=k
  rw[e];exact hs
  exact key h3 j (by omega) hj2
theorem sd{f:Nat→Option (Tr×Nat)}: ∀{a b k:Nat} {ts:List Tr} {k':Nat},c6 f (a+b) k=some (ts,k')→∃ts1 k1 ts2,c6 f a k=some (ts1,k1)∧c6 f b k1=some (ts2,k')
 | 0,b,k,ts,k',h=>⟨[],k,ts,rfl,by rwa[Nat.zero_add]at h⟩
 | a + 1,b,k,ts,k',h=>by
  rw[show a+1+b=(a+b)+1 by omega]at h
  cases hx:f k with
  | none=>rw[eJ hx]at h;cases h
  | some x=>
   obtain⟨t,k1⟩:=x
   rw[dN hx]at h
   simp only[Option.map_eq_some_iff]at h
   obtain⟨⟨ts1,k2⟩,h3,h4⟩:=h
   simp only[Prod.mk.injEq]at h4
   obtain⟨_,rfl⟩:=h4
   obtain⟨u1,k3,u2,h5,h6⟩:=sd h3
   exact⟨t::u1,k3,u2,by rw[dN hx,h5];rfl,h6⟩
theorem oO{body:List Sm}(hall: ∀j,j<body.length→bz (body.getD j default)=true): ∀(d:Nat) {k q m:Nat},body.length≤k+d→fQ (body.drop k) q=some m→∃ts,c6 (cD body) q k=some (ts,k+m)
 | d,k,0,m,hd,h=>by
  rw[show((0:Nat):Int)=0 from Z,lg (Int.le_refl _)]at h
  obtain rfl:=Option.some.inj h
  exact⟨[],Z⟩
 | 0,k,q+1,m,hd,h=>by
  rw[List.drop_of_length_le (by omega),qH (by omega)]at h;cases h
 | d + 1,k,q+1,m,hd,h=>by
  by_cases hk:k<body.length
  rw[oy hk (by omega)]at h
  have hb:=c7 (body.getD k default).kind
  rw[show((q+1:Nat):Int)-1+bC (body.getD k default).kind=(((bC (body.getD k default).kind).toNat+q:Nat):Int) by omega]at h
  simp only[Option.map_eq_some_iff]at h
  obtain⟨m',h1,rfl⟩:=h
  obtain⟨ts,h2⟩:=oO hall d (by omega) h1
  obtain⟨ts1,k1,ts2,h3,h4⟩:=sd h2
  have hkf:cC (body.getD k default)=bC (body.getD k default).kind:=by unfold cC;rw[if_pos (hall k hk)]
  have h5:cD body k=some (.node (body.getD k default) k ts1,k1):=by
   rw[oc,if_neg (by omega),if_neg (by omega),hkf,h3];rfl
  exact⟨.node (body.getD k default) k ts1::ts2,by rw[dN h5,h4,show k+(m'+1)=k+1+m' by omega];rfl⟩
  rw[List.drop_of_length_le (by omega),qH (by omega)]at h;cases h
theorem Jb{body:List Sm}:body.all bz=true↔∀j,j<body.length→bz (body.getD j default)=true:=by
 rw[List.all_eq_true]
 constructor
 intro h j hj;rw[aD hj];exact h _ (List.getElem_mem hj)
 intro h x hx
 obtain⟨j,hj,rfl⟩:=List.mem_iff_getElem.1 hx
 have:=h j hj
 rwa[aD hj]at this
theorem C6(body:List Sm):kH body=vG body:=by
 by_cases h30:(30:Int)<body.length
 unfold vG kH
 rw[if_pos h30,decide_eq_false (show¬(body.length:Int)≤30 by omega),Bool.and_false,Bool.false_and]
 rw[Bool.eq_iff_iff]
 constructor
 intro h
 obtain⟨h1,h2,h3,h4⟩:=yX h
 have h5:fQ (body.drop 0) ((1:Nat):Int)=some body.length:=by
  unfold sV at h4
  cases hx:fQ (body.drop 0) ((1:Nat):Int)with
  | none=>rw[show((1:Int))=((1:Nat):Int)from Z,hx]at h4;have h9:(-1:Int)=body.length:=h4;omega
  | some n=>
   rw[show((1:Int))=((1:Nat):Int)from Z,hx]at h4
   have:n=body.length:=by simp at h4;omega
   rw[this]
 obtain⟨ts,h6⟩:=oO (Jb.1 h3) body.length (by omega) h5
 cases hx:cD body 0 with
 | none=>rw[eJ hx]at h6;cases h6
 | some x=>
  obtain⟨t,k1⟩:=x
  rw[dN hx]at h6
  simp only[c6,Option.map_some,ef,Prod.mk.injEq]at h6
  unfold vG
  rw[if_neg h30,show D6 body=some (t,k1)from hx]
  show(true&&decide ((k1:Int)=body.length))=true
  rw[decide_eq_true (by omega)];rfl
 intro h
 obtain⟨t,h1,h2,h3⟩:=qm h
 have h4:cD body 0=some (t,body.length):=h1
 have h5:=yQ h4
 have h6:=(jV h4).1
 unfold kH
 rw[decide_eq_true (show(1:Int)≤body.length by omega),decide_eq_true (show(body.length:Int)≤30 by omega),Jb.2 (fun j hj=>uv h4 j (cT _) hj),decide_eq_true h5]
 rfl
structure Nd where
  kind:Int
  fact:Int
  term:Tm
  mul:List Int
  deriving Inhabited,DecidableEq
structure Sq where
  facts:List Tm
  goal:Tm
  deriving Inhabited,DecidableEq
abbrev Nd.cells(n:Nd):List D:=[.int .i64 n.kind,.int .i64 n.fact,.int .i64 n.term.c,cY n.term.xs,cY n.mul]
abbrev Sq.cells(s:Sq):List D:=[fC s.facts,.int .i64 s.goal.c,cY s.goal.xs]
abbrev aNd(n:Nd):A:=.agg (n.cells.map .d)
abbrev BS(s:Sq):A:=.agg (s.cells.map .d)
abbrev D9(ns:List Nd):D:=.slc 5 (ns.map Nd.cells)
abbrev nY(ns:List Nd):A:=.c (.d (D9 ns))
abbrev zQ(ns:List Nd):B:=.row true 5 (ns.map Nd.cells)
theorem uf{L:Nat}(h1:4096≤L)(h2:L≤1073741824){xs:List Int}:MC Tryz.prog L 59 [ce xs] [] (Plain (ce xs)):=(Cc h1 h2).frozen (.v (.c (.whole rfl (bQ _).symm)))
theorem DJ{L:Nat}(h1:4096≤L)(h2:L≤1073741824){xs:List Int}:MC Tryz.prog L 88 [ce xs] [] (Plain (ce xs)):=(vL h1 h2).frozen (.v (.c (.whole rfl (bQ _).symm)))
abbrev aN(ts:List Tm):B:=.row false 2 (ts.map Tm.cells)

theorem En:MQ h1 h2 160 [ptr t.cells] [] (Plain (db t)):=by
 refine MC.data (jB 13 h1 h2 Tryz.func160 Z fun O hF=>?_)
 refine ae (jl Z (jn (af (fZ [_,_,_,_,_,_,_,_,_,_,_] [pn [] 0 1,pn [0] 0 1,pn [0,1] 0 1,pn [0,1,2] 0 1,aF,ag [4],ag [4,5],ag [4,5,6],pe (rg 4 4) 0,pn (rg 0 9) 1 1,pe (rg 0 10) 1] [8,10] [_,_,_] (ai (kc Z (V Z)) (ai (kc Z (V Z)) (ai (kc Z (V Z)) (ai (kc Z (V Z)) (cw Z (ai (bR O (B0:=12000) Z Z Z Z (uf (xs:=t.xs) h1 h2) (ac Z) Z Z Z Z Z) (kc Z (ai (eS Z Z Z) trivial)))))))) ?_))))
 refine ea ?_
 refine aJ Z ?_
 exact .v (.agg (aE Z))
theorem Cd:MQ h1 h2 140 [db t] [] (Plain (db t)):=by
 refine MC.data (jB 9 h1 h2 Tryz.func140 Z fun O hF=>?_)
 refine ae (jx Z (jl Z (jn (af (fZ [_,_,_,_,_,_,_] [pn [] 0 1,pn [0] 0 1,aF,ag [2],pe [2,3] 0,pn (rg 0 5) 1 1,pe (rg 0 6) 1] [4,6] [_,_,_] (ai (kc Z (V Z)) (ai (kc Z (V Z)) (kc Z (kc Z (ai (bR O (B0:=8000) Z Z Z Z (DJ (xs:=t.xs) h1 h2) (ac Z) Z Z Z Z Z) (kc Z (ai (eS Z Z Z) trivial))))))) ?_)))))
 refine ea ?_
 refine aJ Z ?_
 exact .v (.agg (aE Z))
theorem sW:MQ h1 h2 125 [cb ts] [] (Rows (.c (.rs 0 0 ts.length)) [aN ts]):=by
 refine cH (jB 20 h1 h2 Tryz.func125 Z fun O hF=>?_)
 have hl:ts.length≤L:=by simpa[As.fact,A.fact,M.fact,D.fact,Ds.fact]using hF.1.1
 refine ae (js Z (ba (aU (bO O Z Z Z) Z (js Z (jn (af (ae (js Z (jn (ao (aw (X:=Nat) (fun i=>⟨[(0,cb ts),(3,.c (.rs 900 0 i)),(4,eI i)],[(900,aN (ts.take i))]⟩) (fun i=>i≤ts.length) (fun i=>ts.length-i) 0 ((dr 5 Z).trans ((aa 5 900 Z Z).trans (Ent.to ⟨Z,Z,Z,ap⟩ Z))) ?_ (fun i hi=>?_))))))))))))
 exact cT _
 refine af (ae (ab Z (dh Z (js Z (jn (ah Z (fun z9=>?_) (fun z9=>?_)))))))
 try simp only[bG]at z9
 refine aj (af (ao (ak (aH Z (nN Z Z (an O Z Z Z Z (En h1 h2) (ac Z) Z Z Z Z (B0:=17000) Z Z (aU (bp O Z Z Z Z Z Z Z Z Z Z Z) Z (aU (cU (own:=false) (zs:=(ts.take (i+1)).map Tm.cells) (n:=i+1) O Z (.row Z (by simp;omega)) (.whole Z Z (.inr ⟨Z,Z⟩)) (by simp) Z (by simp;omega) (by simp;omega) (by rw[List.take_succ_eq_append_getElem (by omega),List.map_append,Int.toNat_natCast,aD (by omega)];rfl) (by simp;omega)) Z (js Z (jn (ak (js Z (ji Z (js Z (jn ?_)))))))))))))))
 refine⟨i+1,(am [18] (e':=[(0,_),(3,_),(4,_)]) Z Z ⟨Z,Z,Z,ap⟩ Z).trans (aa 18 900 Z Z),by omega,by omega⟩
 try simp only[bG]at z9
 refine bg (ae (ab Z (jr ?_)))
 obtain rfl:i=ts.length:=by omega
 rw[List.take_length]
 refine⟨.inl Z,_,b9,_,Z,[900],by decide,Z,Z,Z⟩
theorem JR:MQ h1 h2 139 [cb ts] [] (Rows (.c (.rs 0 0 ts.length)) [aN ts]):=by
 refine cH (jB 19 h1 h2 Tryz.func139 Z fun O hF=>?_)
 have hl:ts.length≤L:=by simpa[As.fact,A.fact,M.fact,D.fact,Ds.fact]using hF.1.1
 refine ae (js Z (ba (js Z (jn (af (ae (js Z (dh Z (js Z (jn (ao (aw (X:=Nat) (fun i=>⟨[(3,.c (.rs 900 0 i)),(6,cb ts),(7,eI ts.length),(8,eI i)],[(900,aN (ts.take i))]⟩) (fun i=>i≤ts.length) (fun i=>ts.length-i) 0 ((cL 3 900 2 false Z Z).trans (Ent.to ⟨Z,Z,Z,Z,ap⟩ Z)) ?_ (fun i hi=>?_)))))))))))))
 exact cT _
 refine ae (js Z (jn (af (ah Z (fun z9=>?_) (fun z9=>?_)))))
 try simp only[bG]at z9
 refine aj (af (ao (ae (nN Z Z (js Z (jl Z (jo Z (jn (ak (ab Z (an O Z Z Z Z (Cd h1 h2) (ac Z) Z Z Z Z (B0:=15000) Z Z (aU (bp O Z Z Z Z Z Z Z Z Z Z Z) Z (aU (cU (own:=false) (zs:=(ts.take (i+1)).map Tm.cells) (n:=i+1) O Z (.row Z (by simp;omega)) (.whole Z Z (.inr ⟨Z,Z⟩)) (by simp) Z (by simp;omega) (by simp;omega) (by rw[List.take_succ_eq_append_getElem (by omega),List.map_append,Int.toNat_natCast,aD (by omega)];rfl) (by simp;omega)) Z (js Z (jn (ak (ji Z (js Z (jn ?_)))))))))))))))))))
 refine⟨i+1,(am [16] (e':=[(3,_),(6,_),(7,_),(8,_)]) Z Z ⟨Z,Z,Z,Z,ap⟩ Z).trans (aa 16 900 Z Z),by omega,by omega⟩
 try simp only[bG]at z9
 refine bg (ae (ab Z (jr ?_)))
 obtain rfl:i=ts.length:=by omega
 rw[List.take_length]
 refine⟨.inl Z,_,b9,_,Z,[900],by decide,Z,Z,Z⟩
theorem Dh{L:Nat}(h1:4096≤L)(h2:L≤1073741824){ts:List Tm}:MC Tryz.prog L 125 [cb ts] [] (Plain (cb ts)):=(sW h1 h2).frozen (.v (.c (.whole rfl (bQ _).symm)))
def bM(xs:List Int):List Int:=(xs.reverse.dropWhile (· == 0)).reverse
theorem lS{xs:List Int}:bM (xs++[0])=bM xs:=by simp[bM]
theorem rZ{xs:List Int}{x:Int}(h:x≠0):bM (xs++[x])=xs++[x]:=by simp[bM,h]
theorem n9{xs:List Int}{n:Nat}(h:n<xs.length)(h0:xs.getD n default=0):bM (xs.take (n+1))=bM (xs.take n):=by
 rw[List.take_succ_eq_append_getElem h,←aD h,h0,lS]
theorem lU{xs:List Int}{n:Nat}(hn:n≤xs.length)(h:n=0∨xs.getD (n-1) default≠0):bM (xs.take n)=xs.take n:=by
 cases n with
 | zero=>simp[bM]
 | succ n=>
  have h':xs.getD n default≠0:=by
   rcases h with h|h
   cases h
   exact h
  rw[aD (by omega)]at h'
  rw[List.take_succ_eq_append_getElem (by omega),rZ h']
def mf(c:Int)(xs:List Int):Tm×Bool:=if(Tm.mk c (bM xs)).ok=true then(⟨c,bM xs⟩,true)else(⟨0,[]⟩,false)
abbrev iZ(r:Tm×Bool):A:=.tup [db r.1,eB r.2]
def mg(a:Tm)(m:Int)(b:Tm)(n:Int):List Int:=(List.range 10).map fun i=>m*a.xs.getD i 0+n*b.xs.getD i 0
def yi(a:Tm)(m:Int)(b:Tm)(n:Int):Tm×Bool:=mf (m*a.c+n*b.c) (mg a m b n)
def aX(t:Tm):Tm×Bool:=yi t (-1) ⟨1,[]⟩ (-1)
structure Small(t:Tm):Prop where
  c:num t.c=true
  xs:t.xs.all num=true
theorem fE{a b:Int}(h1:num a=true)(h2:num b=true): -1000000000000≤a*b∧a*b≤1000000000000:=by
 have h1:=I7.1 h1
 have h2:=I7.1 h2
 have h3:a.natAbs≤1000000:=by omega
 have h4:b.natAbs≤1000000:=by omega
 have h5:=Nat.mul_le_mul h3 h4
 rw[←Int.natAbs_mul]at h5
 omega
theorem Small.get{t:Tm}(h:Small t)(i:Nat):num (t.xs.getD i 0)=true:=by
 by_cases hi:i<t.xs.length
 have:t.xs.getD i 0=t.xs[i]:=by simp[hi]
 rw[this]
 exact List.all_eq_true.1 h.xs _ (List.getElem_mem hi)
 have:t.xs.getD i 0=0:=by simp[Nat.not_lt.1 hi]
 rw[this];decide
theorem Small.of{t:Tm}(h:t.ok=true):Small t:=by
 simp only[Tm.ok,bS,Bool.not_eq_true']at h
 refine⟨?_,h.2⟩
 cases hn:num t.c with
 | true=>rfl
 | false=>rw[hn]at h;simp at h
theorem yw{a b:Tm}{m n:Int}{i:Nat}(h:i<10):(mg a m b n).take (i+1)=(mg a m b n).take i++[m*a.xs.getD i 0+n*b.xs.getD i 0]:=by
 rw[List.take_succ_eq_append_getElem (by simpa[mg]using h)]
 simp[mg]
theorem fN{a b:Tm}{m n:Int}:(mg a m b n).length=10:=by simp[mg]
theorem qf{t:Tm}(h:t.ok=true):t.xs.length≤10:=by
 simp only[Tm.ok,bS,Bool.not_eq_true']at h
 by_cases h1:(10:Int)<t.xs.length
 rw[decide_eq_true h1]at h
 cases num t.c<;>simp at h
 omega
theorem p8{c:Int}:MQ h1 h2 32 [eI c,ce xs] [] (Plain (iZ (mf c xs))):=by
 refine MC.data (jB 32 h1 h2 Tryz.func32 Z fun O hF=>?_)
 have hl:xs.length≤L:=by simpa[As.fact,A.fact,M.fact,D.fact,Ds.fact]using hF.2.1.1
 refine ae (jl Z (js Z (ba (js Z (dh Z (js Z (jf [6,5,4,0,1] Z (jn (af (ao (aw (X:=Nat) (fun n=>⟨[(0,eI c),(1,ce xs),(4,.c (.pt 4 0 0)),(6,eI n)],[(4,.box [.d (.int .i64 0),.d .nils])]⟩) (fun n=>n≤xs.length∧bM (xs.take n)=bM xs) (fun n=>n) xs.length (Ent.env ⟨Z,Z,Z,Z,ap⟩) ?_ (fun n hi=>?_))))))))))))
 exact⟨da _,by rw[List.take_length]⟩
 refine af (ae (aH Z (jf [12,0,1,4,6] Z (aA 6 Z Z Z (fun hx=>ax hx Z (ax hx Z (dD hx (vF Z) Z (dD hx (vD Z) Z (ax hx Z (ax hx Z (AN.nil))))))) Z Z (av (ay O Z Z Z Z Z) Z (jf [19,0,1,4,6] Z (jn (ah Z (fun z19=>?_) (fun z19=>?_)))))))))
 refine aj (ao (ak (js Z (ji Z (js Z (jf [6,19,0,1,4] Z (jn ?_)))))))
 rw[Bool.cond_false_right,bS,decide_eq_true_eq,decide_eq_true_eq]at z19
 obtain⟨k,hk⟩: ∃k,n=k+1:=⟨n-1,by omega⟩
 subst hk
 have hk2:((k+1:Nat):Int)-1=k:=by omega
 rw[hk2]at z19
 refine⟨k,Ent.to ⟨Z,Z,Z,by rw[hk2];rfl,ap⟩ Z,⟨by omega,?_⟩,Nat.lt_succ_self k⟩
 rw[←hi.2,n9 (by omega) (by simpa using z19.2)]
 refine bg (ae (aH Z ?_))
 have hd:bM (xs.take n)=xs.take n:=lU hi.1 (by
  rw[Bool.cond_false_right]at z19
  rcases Nat.eq_zero_or_pos n with h0|h0
  ·
   exact .inl h0
  ·
   refine .inr (fun h9=>?_)
   have e1:((n:Int)-1).toNat=n-1:=by omega
   rw[e1,h9]at z19;simp at z19;omega)
 have ht:=hi.2
 rw[hd]at ht
 refine av ((eF O Z Z ⟨by omega,by simp;omega⟩).cast (v':=ce (bM xs)) (by rw[←ht];simp[List.map_take])) Z (jf [25,22,19,0,1,4,6] Z (an O Z Z Z Z (uf (xs:=bM xs) h1 h2) (ac Z) Z Z Z Z (B0:=27000) Z Z (js Z (jf [27,19,0,1,4,6] Z (jl Z (jo Z (jn (af (ae (du O Z Z Z Z (Ch (t:=⟨c,bM xs⟩) h1 h2) (.cons (.c (.pb (cs:=Tm.cells ⟨c,bM xs⟩) Z (aE Z))) .nil) Z Z Z Z Z (B0:=29000) Z (js Z (jn (ah Z (fun z29=>?_) (fun z29=>?_))))))))))))))
 refine ae (js Z (jo Z (js Z (jr ?_))))
 refine aJ Z ?_
 have hok:(Tm.mk c (bM xs)).ok=false:=by simpa using z29
 rw[show mf c xs=(⟨0,[]⟩,false)from if_neg (by rw[hok];decide)]
 exact .tup (.cons (.agg (.cons .d (.cons .nils .nil))) (.cons (.c .d) .nil))
 refine aj (ae (js Z (jo Z (js Z (jr ?_)))))
 refine aJ Z ?_
 have hok:(Tm.mk c (bM xs)).ok=true:=by simpa using z29
 rw[show mf c xs=(⟨c,bM xs⟩,true)from if_pos hok]
 exact .tup (.cons (.agg (aE Z)) (.cons (.c .d) .nil))
theorem Ei{i:Nat}(hi:i<10):MQ h1 h2 176 [ptr t.cells,eI i] [] (Plain (eI (t.xs.getD i 0))):=by
 refine aL ?_ Z
 refine jB 19 h1 h2 Tryz.func176 Z fun O hF=>?_
 have hl:t.xs.length≤L:=by simpa[As.fact,A.fact,M.fact,D.fact,Ds.fact]using hF.1.2.1.1
 refine ae (js Z (jn (af (ae (az Z (js Z (dh Z (js Z (jn (ah Z (fun z11=>?_) (fun z11=>?_)))))))))))
 try simp only[bG]at z11
 refine ae (az Z (js Z (nN Z Z (ab Z (jr ?_)))))
 refine aJ Z ?_
 rw[Int.toNat_natCast]
 have:t.xs.getD i 0=t.xs.getD i default:=rfl
 rfl
 try simp only[bG]at z11
 refine aj (ae (js Z (jr ?_)))
 refine aJ Z ?_
 have:t.xs.getD i 0=0:=by simp[show t.xs.length≤i by omega]
 rw[this]
theorem Hb{a b:Tm}{m:Int}(ha:Small a)(hb:Small b)(hm:num m=true)(hn:num n=true):MQ h1 h2 151 [ptr a.cells,eI m,ptr b.cells,eI n] [] (Plain (iZ (yi a m b n))):=by
 refine MC.data (jB 48 h1 h2 Tryz.func151 Z fun O hF=>?_)
 refine ae (jl Z (js Z (ba (aU (bO O Z Z Z) Z (js Z (jn (af (ae (js Z (jn (ao (aw (X:=Nat) (fun i=>⟨[(0,ptr a.cells),(1,eI m),(2,ptr b.cells),(3,eI n),(8,.c (.pt 8 0 0)),(10,.c (.rs 900 0 i)),(11,eI i)],[(8,.box [.d (.int .i64 0),.d .nils]),(900,aO ((mg a m b n).take i))]⟩) (fun i=>i≤10) (fun i=>10-i) 0 ((aa 12 900 Z Z).trans (Ent.to ⟨Z,Z,Z,Z,Z,Z,Z,ap⟩ Z)) ?_ (fun i hi=>?_)))))))))))))
 exact cT _
 refine af (ae (ab Z (jn (ah Z (fun z14=>?_) (fun z14=>?_)))))
 try simp only[bG]at z14
 refine aj (af (ao (ak ?_)))
 have q1:=fE hm (ha.get i)
 have q2:=fE hn (hb.get i)
 refine az Z (bP Z (Ei (t:=a) (i:=i) h1 h2 (by omega)) 22000 Z (ji Z (aH Z (bP Z (Ei (t:=b) (i:=i) h1 h2 (by omega)) 27000 Z (ji Z (ji Z (aU (bO O Z Z Z) Z (aU (cJ (zs:=((mg a m b n).take (i+1)).map fun n=>[.int .i64 n]) (n:=i+1) O Z Z Z Z Z Z Z Z Z Z Z Z Z Z Z Z (.row Z (by simp[fN];omega)) Z Z (by decide) Z (by simp[fN];omega) (by simp[fN];omega) (by rw[yw (by omega),List.map_append];rfl) (by simp[fN];omega)) Z (js Z (jn (ak (js Z (ji Z (js Z (jn ?_)))))))))))))))
 refine⟨i+1,((am [8,30] (e':=[(0,_),(1,_),(2,_),(3,_),(8,_),(10,_),(11,_)]) Z Z ⟨Z,Z,Z,Z,Z,Z,Z,ap⟩ Z).trans (aa 30 900 Z Z)),by omega,by omega⟩
 try simp only[bG]at z14
 refine bg (af ?_)
 obtain rfl:i=10:=by omega
 rw[List.take_of_length_le (by rw[fN];decide)]
 have q1:=fE hm ha.c
 have q2:=fE hn hb.c
 refine jh (Ent.freeze 900 (e':=[(10,_),(8,_),(0,_),(1,_),(2,_),(3,_)]) Z (.cons Z (.c (.row Z (by simp[fN]))) (fe [8,0,1,2,3] Z)) (aZ Z (.skip .nil))) ?_
 refine fZ [_,_,_,_,_,_,_,_,_,_,_,_,_,_,_,_,_,_,_] [aF,aF,ag [1],ag [1,2],ag [1,2,3],ag (rg 0 5),aF,aF,ag [7],ag [7,8],ag [7,8,9],ag (rg 6 5),ag (rg 0 12),aF,pe (rg 0 14) 0,pn (rg 0 15) 1 1,pn (rg 0 15) 1 1,pe (rg 0 17) 1,pn (rg 0 18) 2 2] [14,17] [_,_,_] (cw Z (kc Z (ai (vF Z) (cw Z (kc Z (ai (vF Z) (ai (vF Z) (kc Z (ai (bR O (B0:=46000) Z Z Z Z (p8 (c:=m*a.c+n*b.c) (xs:=mg a m b n) h1 h2) (ac Z) Z Z Z Z Z) (kc Z (kc Z (ai (eS Z Z Z) (kc Z trivial))))))))))))) ?_
 refine jw [9,10,8,0,1,2,3] Z (b0 ?_)
 refine ea ?_
 refine aJ Z ?_
 exact .tup (.cons (.agg (aE Z)) (.cons (.c .d) .nil))
theorem zD(ht:Small t):MQ h1 h2 106 [ptr t.cells] [] (Plain (iZ (aX t))):=by
 refine MC.data (jB 10 h1 h2 Tryz.func106 Z fun O hF=>?_)
 refine ae (jl Z (js Z (ba (ab Z (jx Z (ar (Ent.freeze 6 (e':=[(6,_),(4,_),(2,_)]) Z (.cons Z (.c (.box (cs:=Tm.cells ⟨1,[]⟩) Z (.cons .d (.cons .nils .nil)))) (fe [4,2] Z)) (aZ Z (.skip .nil))) ?_))))))
 refine an O Z Z Z Z (Hb (a:=t) (m:= -1) (b:=⟨1,[]⟩) (n:= -1) h1 h2 ht ⟨by decide,by decide⟩ (by decide) (by decide)) (ac Z) Z Z Z Z (B0:=8000) Z Z (ab Z (jo Z (js Z (jr ?_))))
 refine aJ Z ?_
 exact .tup (.cons (.agg (aE Z)) (.cons (.c .d) .nil))
def mz(s:Sq):List Tm×Bool:=if(aX s.goal).2=true then(s.facts++[(aX s.goal).1],true)else([],false)
abbrev G9(r:List Tm×Bool):A:=.tup [cb r.1,eB r.2]
theorem Kb{s:Sq}(hg:Small s.goal)(hn:s.facts.length≤1000):MQ h1 h2 102 [ptr s.cells] [] (Plain (G9 (mz s))):=by
 refine MC.data (jB 23 h1 h2 Tryz.func102 Z fun O hF=>?_)
 refine ae (ab Z (ba (aH Z (an O Z Z Z Z (zD (t:=s.goal) h1 h2 hg) (.cons (.c (.sub Z)) .nil) Z Z Z Z (B0:=11000) Z Z (aH Z (jl Z (jo Z (js Z (jn (af (ae (ab Z (jn (ah Z (fun z14=>?_) (fun z14=>?_)))))))))))))))
 try simp only[bG]at z14
 refine ae (ab Z (jr ?_))
 refine aJ Z ?_
 have hok:(aX s.goal).2=false:=z14
 rw[show mz s=([],false)from if_neg (by rw[hok];decide)]
 exact .tup (.cons (.c .nils) (.cons (.c .d) .nil))
 try simp only[bG]at z14
 refine aj (af (jw [4,0] Z (rC [_,_,_,_,_,_,_,_,_,_] [aF,ag [0],ag [0,1],ag [0,1,2],pe [0,1,2,3] 0,pn [] 0 1,pn [5] 0 1,pe [0,1,2,3,4,5,6] 1,pn [0,1,2,3,4,5,6,7] 2 2,pn [0,1,2,3,4,5,6,7,8] 2 2] [4,7] 6 21 (.row false 2 [Tm.cells (aX s.goal).1]) [_,_] [_] [[],[20000]] (kf Z Z Z (kf Z Z Z (kf Z Z Z (kf Z Z Z (ai (ai (aB (aI (el O (B0:=20000) Z Z Z Z (sW (ts:=s.facts) h1 h2) (ac Z) Z Z Z Z)) (aI (el O (B0:=20000) Z Z Z Z (sW (ts:=s.facts) h1 h2) (ac Z) Z Z Z Z))) Z) (ai (kf Z Z Z (kg Z Z Z)) (ai (ai (ai (aI (cQ O Z Z Z Z Z Z Z Z Z Z Z Z Z Z)) Z) (ai (aI (cQ O Z Z Z Z Z Z Z Z Z Z Z Z Z Z)) Z)) (ai (ai (aB trivial (cp (own:=false) (xs:=s.facts.map Tm.cells) (ys:=[Tm.cells (aX s.goal).1]) (zs:=(s.facts++[(aX s.goal).1]).map Tm.cells) (n:=(s.facts++[(aX s.goal).1]).length) O Z Z Z Z Z Z Z Z Z Z Z Z Z Z Z Z (.row Z (bQ _).symm) (.whole Z Z (.inr ⟨Z,Z⟩)) (by simp) Z (by simp;omega) (by simp;omega) (by simp) (by simp) Z)) Z) (ai (ai (aB trivial (V Z)) Z) (ai (ai (aB trivial (V Z)) Z) trivial)))))))))) ?_)))
 refine jw [3,2,4,0] Z (b0 ?_)
 refine ea ?_
 refine aJ Z ?_
 have hok:(aX s.goal).2=true:=z14
 rw[show mz s=(s.facts++[(aX s.goal).1],true)from if_pos hok]
 exact .tup (.cons (.c (.whole Z (bQ _).symm)) (.cons (.c .d) .nil))
def fS(ts:List Tm)(n:Int):Bool:=ts.all Tm.ok&&decide ((ts.length:Int)≤n)
def dW(s:Sq):Bool:=fS s.facts 13&&s.goal.ok
def co(x:Int):Bool:=decide (0≤x)&&decide (x≤1000000)
def yl(xs:List Int):Bool:=xs.all co&&decide ((xs.length:Int)≤20)
def ic(n:Nd):Bool:=if n.kind=1 then(decide (n.fact=0)&&n.term.zero)&&yl n.mul else if n.kind=2 then(decide (n.fact=0)&&n.term.ok)&&decide ((n.mul.length:Int)=0)else if n.kind=3 then(ft 0 19 n.fact&&n.term.zero)&&decide ((n.mul.length:Int)=0)else false
def dl(k:Int):Int:=if k=1 then -1 else if k=2 then 1 else 0
def endK:List Nd→Int→Option Nat
  | [],need=>if need≤0 then some 0 else none
  | s::r,need=>if need≤0 then some 0 else(endK r (need+dl s.kind)).map (· + 1)
def endP(p:List Nd)(k:Nat):Int:=match endK (p.drop k) 1 with
  | some n=>k+n
  | none=> -1
def t3(p:List Nd):Bool:=(decide ((1:Int)≤p.length)&&decide ((p.length:Int)≤60))&&(p.all ic&&decide (endP p 0=p.length))
def rB(p:List Nd)(k:Nat):Nat→Int×Bool
  | 0=>(-1,false)
  | i+1=>if(p.getD i default).kind=1∨endP p i≤k then rB p k i else(i,decide (i+1=k))
theorem u6{l:List Nd}{n:Int}(h:n≤0):endK l n=some 0:=by cases l<;>simp[endK,h]
theorem u5{n:Int}(h:0<n):endK [] n=none:=by simp[endK];omega
theorem lh{l:List Nd}{n:Int}(h:0<n){k:Nat}(hk:k<l.length):endK (l.drop k) n=(endK (l.drop (k+1)) (n+dl (l.getD k default).kind)).map (· + 1):=by
 rw[List.drop_eq_getElem_cons hk,aD hk]
 show(if n≤0 then some 0 else _)=_
 rw[if_neg (by omega)]
theorem Kc:MQ h1 h2 101 [cb ts,eI n] [] (Plain (eB (fS ts n))):=by
 refine aL ?_ Z
 refine jB 21 h1 h2 Tryz.func101 Z fun O hF=>?_
 have hl:ts.length≤L:=by simpa[As.fact,A.fact,M.fact,D.fact,Ds.fact]using hF.1.1
 refine ae (js Z (jn (af (ae (js Z (jn (ao (aw (X:=Nat) (fun i=>⟨[(0,cb ts),(1,eI n),(5,eI i)],[]⟩) (fun i=>i≤ts.length∧∀j (h:j<ts.length),j<i→Tm.ok ts[j]=true) (fun i=>ts.length-i) 0 (Ent.env ⟨Z,Z,Z,ap⟩) ?_ (fun i hi=>?_)))))))))
 exact⟨cT _,fun j h hj=>absurd hj (Nat.not_lt_zero j)⟩
 refine af (ae (ab Z (dh Z (js Z (jn (ah Z (fun z9=>?_) (fun z9=>?_)))))))
 try simp only[bG]at z9
 refine aj (af (ao (ae (ab Z (nN Z Z (bP Z (Ch h1 h2) 16000 Z (js Z (jn (ah Z (fun z16=>?_) (fun z16=>?_))))))))))
 try simp only[bG]at z16
 refine ae (js Z (jr ?_))
 refine aJ Z ?_
 rw[Int.toNat_natCast,aD (by omega)]at z16
 rw[fS,jg i (by omega) z16,Bool.false_and]
 try simp only[bG]at z16
 refine aj (ak (js Z (ji Z (js Z (jn ?_)))))
 refine⟨i+1,Ent.env ⟨Z,Z,Z,ap⟩,⟨by omega,fun j h hj=>?_⟩,by omega⟩
 by_cases e:j=i
 subst e;rw[Int.toNat_natCast,aD h]at z16;exact z16
 exact hi.2 j h (by omega)
 try simp only[bG]at z9
 refine bg (ae (js Z (dh Z (aH Z (jr ?_)))))
 refine aJ Z ?_
 rw[fS,ki (fun j hj=>hi.2 j hj (by omega)),Bool.true_and]
theorem c82{s:Sq}:MQ h1 h2 66 [ptr s.cells] [] (Plain (eB (dW s))):=by
 refine aL ?_ Z
 refine jB 14 h1 h2 Tryz.func66 Z fun O hF=>?_
 refine ae (js Z (ba (az Z (bI [(6,_),(2,_),(0,_)] [] ⟨Z,Z,Z,ap⟩ Z (bP Z (Kc h1 h2) 8000 Z (js Z (bI [(8,_),(2,_),(0,_)] [] ⟨Z,Z,Z,ap⟩ Z (aA 4 Z Z Z (fun hx=>ax hx Z (ax hx Z (ax hx Z (bA O hx Z Z Z Z (Ch (t:=s.goal) h1 h2) (.cons (.c (.sub Z)) .nil) Z Z Z Z Z Z Z (B0:=13000) Z (AN.nil))))) Z Z (av (ay O Z Z Z Z Z) Z (js Z (jr ?_)))))))))))
 refine aJ Z ?_
 rw[Bool.cond_false_right];rfl
def bB(xs:List Int):Nat:=xs.foldl (fun g x=>Nat.gcd g x.natAbs) 0
theorem l7{xs:List Int}{i:Nat}(h:i<xs.length):bB (xs.take (i+1))=Nat.gcd (bB (xs.take i)) (xs.getD i default).natAbs:=by
 rw[List.take_succ_eq_append_getElem h,bB,List.foldl_append,aD h];rfl
theorem pN{xs:List Int}(h:xs.all num=true): ∀{i:Nat},i≤xs.length→bB (xs.take i)≤1000000
 | 0,_=>by simp[bB]
 | i+1,hi=>by
  rw[l7 (by omega)]
  have ih:=pN h (i:=i) (by omega)
  have hx:=I7.1 (List.all_eq_true.1 h _ (List.getElem_mem (show i<xs.length by omega)))
  rw[←aD (by omega)]at hx
  by_cases h0:(xs.getD i default).natAbs=0
  rw[h0,Nat.gcd_zero_right];exact ih
  have:=Nat.gcd_le_right (bB (xs.take i)) (Nat.pos_of_ne_zero h0)
  omega
def mx(a b:Int):Int:=if a>b then a else b
theorem Ao(x:Int):mx x (0-x)=(x.natAbs:Int):=by unfold mx;split<;>omega
def cq(t:Tm):Tm×Bool:=if bB t.xs<2 then(⟨0,[]⟩,false)else
  mf (if t.c.tmod (bB t.xs)<0 then t.c.tdiv (bB t.xs)-1 else t.c.tdiv (bB t.xs)) (t.xs.map fun x=>x.tdiv (bB t.xs))
theorem eV{a b:Int}(h: -1000000≤a∧a≤1000000): -1000000≤a.tdiv b∧a.tdiv b≤1000000:=by
 have h1:(a.tdiv b).natAbs≤a.natAbs:=by rw[Int.natAbs_tdiv];exact Nat.div_le_self _ _
 omega
theorem i9{a b:Int}(h: -1000000≤a∧a≤1000000): -1000000≤a.tmod b∧a.tmod b≤1000000:=by
 have h1:(a.tmod b).natAbs≤a.natAbs:=by rw[Int.natAbs_tmod];exact Nat.mod_le _ _
 omega
def kX(n:Nd)(ctx:List Tm)(first:Bool):List Tm:=if n.kind=3 then ctx++[(cq (ctx.getD n.fact.toNat default)).1]else if first=true then ctx++[n.term]else ctx++[(aX n.term).1]
def bD(f:Tm→Int):List Tm→List Int→Int
  | t::ts,m::ms=>m*f t+bD f ts ms
  | _,_=>0
theorem hJ{f:Tm→Int}: ∀{ts:List Tm} {ms:List Int} {i:Nat},i<ts.length→i<ms.length→bD f (ts.take (i+1)) (ms.take (i+1))=bD f (ts.take i) (ms.take i)+ms.getD i default*f (ts.getD i default)
 | [],_,i,h,_=>by simp at h
 | _::_,[],i,_,h=>by simp at h
 | x::xs,y::ys,0,_,_=>by simp[bD]
 | x::xs,y::ys,i+1,h1,h2=>by
  have:=hJ (f:=f) (ts:=xs) (ms:=ys) (i:=i) (by simpa using h1) (by simpa using h2)
  simp only[List.take_succ_cons,bD,List.getD_cons_succ]at this ⊢
  omega
theorem kl{f:Tm→Int}{ts:List Tm}{ms:List Int}(hf: ∀t∈ts,num (f t)=true)(hm:ms.all num=true): ∀{i:Nat},i≤ts.length→i≤ms.length→ -(i*1000000000000:Int)≤bD f (ts.take i) (ms.take i)∧bD f (ts.take i) (ms.take i)≤i*1000000000000
 | 0,_,_=>by simp[bD]
 | i+1,h1,h2=>by
  have ih:=kl hf hm (i:=i) (by omega) (by omega)
  rw[hJ (by omega) (by omega)]
  have a1:=hf _ (List.getElem_mem (show i<ts.length by omega))
  have a2:=List.all_eq_true.1 hm _ (List.getElem_mem (show i<ms.length by omega))
  have:=fE a2 a1
  rw[aD (by omega),aD (by omega)]
  omega
abbrev kb(k:Nat):Tm→Int:=fun t=>t.xs.getD k 0
def bU(ts:List Tm)(ms:List Int):List Int:=(List.range 10).map fun k=>bD (kb k) ts ms
def pT(ctx:List Tm)(ms:List Int):Bool:=decide (ctx.length=ms.length)&&((bU ctx ms).all (fun x=>decide (x=0))&&decide (bD Tm.c ctx ms<0))
def jt(n:Nd)(ctx:List Tm):Bool:=if n.kind=1 then pT ctx n.mul else if 20≤ctx.length then false else if n.kind=2 then(aX n.term).2 else if n.fact≥ctx.length then false else(cq (ctx.getD n.fact.toNat default)).2

theorem Ha{b:Int}:MQ h1 h2 175 [eI a,eI b] [] (Plain (eI (mx a b))):=by
 refine aL ?_ Z
 refine jB 10 h1 h2 Tryz.func175 Z fun O hF=>?_
 refine ae (js Z (jn (af (ae (aH Z (jn (ah Z (fun z7=>?_) (fun z7=>?_))))))))
 try simp only[bG]at z7
 refine ae (ab Z (jr ?_))
 refine aJ Z ?_
 rw[mx,if_pos z7]
 try simp only[bG]at z7
 refine aj (ae (ab Z (jr ?_)))
 refine aJ Z ?_
 rw[mx,if_neg (by omega)]
theorem zz(ht:t.xs.all num=true):MQ h1 h2 150 [ptr t.cells] [] (Plain (eI (bB t.xs))):=by
 refine aL ?_ Z
 refine jB 40 h1 h2 Tryz.func150 Z fun O hF=>?_
 have hl:t.xs.length≤L:=by simpa[As.fact,A.fact,M.fact,D.fact,Ds.fact]using hF.1.2.1.1
 refine ae (js Z (ba (js Z (jn (af (ae (js Z (jn (ao (aw (X:=Nat) (fun i=>⟨[(0,ptr t.cells),(3,eI (bB (t.xs.take i))),(4,eI i)],[]⟩) (fun i=>i≤t.xs.length) (fun i=>t.xs.length-i) 0 (Ent.env ⟨Z,Z,Z,ap⟩) ?_ (fun i hi=>?_)))))))))))
 exact cT _
 refine af (ae (az Z (js Z (dh Z (js Z (jn (ah Z (fun z13=>?_) (fun z13=>?_))))))))
 try simp only[bG]at z13
 refine aj (af (ao (af ?_)))
 have hi0:=hi
 have hx:=I7.1 (List.all_eq_true.1 ht _ (List.getElem_mem (show i<t.xs.length by omega)))
 rw[←aD (by omega)]at hx
 have hgs:=l7 (xs:=t.xs) (i:=i) (by omega)
 have hgl:=pN ht hi
 have hmx:=Ao (t.xs.getD i default)
 refine fZ [_,_,_,_,_,_,_,_,_,_,_,_,_,_,_,_,_] [aF,ag [0],ag [0,1],ag [0,1,2],aF,ag (rg 0 5),ag (rg 0 6),aF,ag [7],ag [7,8],ag [7,8,9],aF,ag (rg 7 5),ag (rg 7 6),ag (rg 7 7),pe (rg 0 15) 0,pn (rg 0 16) 1 1] [15] [_,_] (cw Z (kc Z (ai (vD Z) (cw Z (kc Z (kc Z (ai (vD Z) (kc Z (ai (bi O Z Z (by rw[Int.toNat_natCast];omega) (by rw[Int.toNat_natCast];omega)) (ai (bv O (B0:=32000) Z Z Z Z ((Ha (a:=t.xs.getD ((i:Int)).toNat default) (b:=0-t.xs.getD ((i:Int)).toNat default) h1 h2).plain (u:=eI ((t.xs.getD i default).natAbs)) (by rw[Int.toNat_natCast,hmx])) (ac Z) Z Z Z Z Z) (kc Z trivial))))))))))) ?_
 refine jw [5,13,0,3,4] Z (b0 ?_)
 refine ao (aw (X:=Nat×Nat) (fun z=>⟨[(0,ptr t.cells),(3,eI z.1),(4,eI i),(5,eI z.2)],[]⟩) (fun z=>Nat.gcd z.1 z.2=Nat.gcd (bB (t.xs.take i)) (t.xs.getD i default).natAbs∧z.1≤1000000∧z.2≤1000000) (fun z=>z.2) (bB (t.xs.take i),(t.xs.getD i default).natAbs) (Ent.env ⟨Z,Z,Z,Z,ap⟩) ?_ (fun z hi=>?_))
 exact⟨Z,hgl,by show(t.xs.getD i default).natAbs≤1000000;omega⟩
 have hz:=i9 (a:=z.1) (b:=z.2) (by omega)
 refine af (ae (ab Z (jn (ah Z (fun z33=>?_) (fun z33=>?_)))))
 try simp only[bG]at z33
 refine aj (ao (ae (ab Z (av (vR Z Z Z Z) Z (js Z (ba (ab Z (jn (ak (ab Z (jn ?_)))))))))))
 have hm:z.1%z.2<z.2:=Nat.mod_lt _ (by omega)
 refine⟨(z.2,z.1%z.2),Ent.env ⟨Z,Z,Z,Z,ap⟩,⟨?_,hi.2.2,by show z.1%z.2≤1000000;omega⟩,hm⟩
 show Nat.gcd z.2 (z.1%z.2)=_
 rw[←hi.1,Nat.gcd_comm z.2,←Nat.gcd_rec,Nat.gcd_comm]
 try simp only[bG]at z33
 refine bg (ak (js Z (ji Z (js Z (jn ?_)))))
 have hz0:z.2=0:=by omega
 have hz1:z.1=bB (t.xs.take (i+1)):=by rw[hgs,←hi.1,hz0,Nat.gcd_zero_right]
 rw[hz1]
 exact⟨i+1,Ent.env ⟨Z,Z,Z,ap⟩,by omega,by omega⟩
 try simp only[bG]at z13
 refine bg (ae (ab Z (jr ?_)))
 refine aJ Z ?_
 obtain rfl:i=t.xs.length:=by omega
 rw[List.take_length]
theorem J3(ht:Small t):MQ h1 h2 171 [ptr t.cells] [] (Plain (iZ (cq t))):=by
 refine MC.data (jB 55 h1 h2 Tryz.func171 Z fun O hF=>?_)
 have hl:t.xs.length≤L:=by simpa[As.fact,A.fact,M.fact,D.fact,Ds.fact]using hF.1.2.1.1
 refine ae (jl Z (js Z (ba (js Z (bP Z (zz (t:=t) h1 h2 ht.xs) 10000 Z (js Z (jn (af (ae (ab Z (jn (ah Z (fun z11=>?_) (fun z11=>?_)))))))))))))
 try simp only[bG]at z11
 refine ae (js Z (jo Z (js Z (jr ?_))))
 refine aJ Z ?_
 rw[show cq t=(⟨0,[]⟩,false)from if_pos (by omega)]
 exact .tup (.cons (.agg (.cons .d (.cons .nils .nil))) (.cons (.c .d) .nil))
 try simp only[bG]at z11
 refine aj (ae ?_)
 obtain⟨g,hg⟩: ∃g:Int,g=(bB t.xs:Int):=⟨_,rfl⟩
 rw[←hg]
 rw[←hg]at z11
 refine aU (bO O Z Z Z) Z (js Z (jn (af (ae (js Z (jn (ao (aw (X:=Nat) (fun i=>⟨[(0,ptr t.cells),(2,.c (.pt 2 0 0)),(4,eI g),(5,.c (.rs 900 0 i)),(6,eI i)],[(2,.box [.d (.int .i64 0),.d .nils]),(900,aO ((t.xs.map fun x=>x.tdiv g).take i))]⟩) (fun i=>i≤t.xs.length) (fun i=>t.xs.length-i) 0 ((aa 13 900 Z Z).trans (Ent.to ⟨Z,Z,Z,Z,Z,ap⟩ Z)) ?_ (fun i hi=>?_)))))))))
 exact cT _
 refine af (ae (az Z (js Z (dh Z (js Z (jn (ah Z (fun z20=>?_) (fun z20=>?_))))))))
 try simp only[bG]at z20
 refine aj (af (ao (ak ?_)))
 have hx:=eV (b:=g) (I7.1 (List.all_eq_true.1 ht.xs _ (List.getElem_mem (show i<t.xs.length by omega))))
 rw[←aD (by omega)]at hx
 refine az Z (ab Z (nN Z Z (ab Z (av (gf O Z Z Z Z (by omega) (by rw[Int.toNat_natCast];omega) (by rw[Int.toNat_natCast];omega)) Z (aU (bO O Z Z Z) Z (aU (cJ (zs:=((t.xs.map fun x=>x.tdiv g).take (i+1)).map fun n=>[.int .i64 n]) (n:=i+1) O Z Z Z Z Z Z Z Z Z Z Z Z Z Z Z Z (.row Z (by simp;omega)) Z Z (by decide) Z (by simp;omega) (by simp;omega) (by rw[List.take_succ_eq_append_getElem (by simp;omega),List.map_append,List.getElem_map,Int.toNat_natCast,aD (by omega)];rfl) (by simp;omega)) Z (js Z (jn (ak (js Z (ji Z (js Z (jn ?_)))))))))))))
 refine⟨i+1,((am [2,34] (e':=[(0,_),(2,_),(4,_),(5,_),(6,_)]) Z Z ⟨Z,Z,Z,Z,Z,ap⟩ Z).trans (aa 34 900 Z Z)),by omega,by omega⟩
 try simp only[bG]at z20
 refine bg (ae ?_)
 have z0:=I7.1 ht.c
 have hq:=eV (b:=g) z0
 have hr:=i9 (b:=g) z0
 obtain rfl:i=t.xs.length:=by omega
 rw[List.take_of_length_le (by simp)]
 refine ar (Ent.freeze 900 (e':=[(2,_),(4,_),(5,_),(0,_)]) Z (.cons Z (.keep Z) (.cons Z (.keep Z) (.cons Z (.c (.row Z (by simp))) (fe [0] Z)))) (aZ Z (.skip .nil))) ?_
 refine az Z (js Z (av (vQ Z Z Z Z) Z (js Z (jn (af (ae (az Z (js Z (av (vR Z Z Z Z) Z (js Z (jn (ah Z (fun z47=>?_) (fun z47=>?_)))))))))))))
 try simp only[bG]at z47
 refine ak (js Z (ji Z (js Z (ba (ab Z (an O Z Z Z Z (p8 (c:=_) (xs:=t.xs.map fun x=>x.tdiv g) h1 h2) (ac Z) Z Z Z Z (B0:=53000) Z Z (ab Z (jo Z (js Z (jr ?_))))))))))
 refine aJ Z ?_
 rw[show cq t=mf (t.c.tdiv g-1) (t.xs.map fun x=>x.tdiv g) by rw[hg,cq,if_neg (by omega),if_pos (by rw[←hg];exact z47)]]
 exact .tup (.cons (.agg (aE Z)) (.cons (.c .d) .nil))
 try simp only[bG]at z47
 refine aj (ae (ab Z (an O Z Z Z Z (p8 (c:=_) (xs:=t.xs.map fun x=>x.tdiv g) h1 h2) (ac Z) Z Z Z Z (B0:=53000) Z Z (ab Z (jo Z (js Z (jr ?_)))))))
 refine aJ Z ?_
 rw[show cq t=mf (t.c.tdiv g) (t.xs.map fun x=>x.tdiv g) by rw[hg,cq,if_neg (by omega),if_neg (by rw[←hg];omega)]]
 exact .tup (.cons (.agg (aE Z)) (.cons (.c .d) .nil))
def fP(ts:List Tm)(ms:List Int)(i j:Nat):List Int:=(List.range 10).map fun k=>bD (kb k) (ts.take i) (ms.take i)+(if k<j then ms.getD i default*(ts.getD i default).xs.getD k 0 else 0)
theorem eP{ts ms i j}:(fP ts ms i j).length=10:=by simp[fP]
theorem ol{ts ms i}:fP ts ms i 0=bU (ts.take i) (ms.take i):=by simp[fP,bU]
theorem ni{ts ms i j}(h:j<10):(fP ts ms i j).getD j default=bD (kb j) (ts.take i) (ms.take i):=by
 rw[aD (by rw[eP];exact h)]
 simp[fP]
theorem om{ts ms i j}(h:j<10):(fP ts ms i j).set j ((fP ts ms i j).getD j default+ms.getD i default*(ts.getD i default).xs.getD j default)=fP ts ms i (j+1):=by
 rw[ni h]
 apply List.ext_getElem?
 intro k
 rw[List.getElem?_set]
 by_cases hk:k<10
 by_cases e:j=k
 subst e
 rw[if_pos Z,if_pos (by rw[eP];exact h)]
 simp[fP,h]
 rw[if_neg e]
 have h3:(k<j+1)=(k<j):=by apply propext;omega
 simp only[fP,List.getElem?_map,List.getElem?_range hk,Option.map_some,h3]
 have h1:(fP ts ms i j)[k]? = none:=List.getElem?_eq_none (by rw[eP];omega)
 have h2:(fP ts ms i (j+1))[k]? = none:=List.getElem?_eq_none (by rw[eP];omega)
 rw[if_neg (by omega),h1,h2]
theorem qq{ts ms i j}(h1:i<ts.length)(h2:i<ms.length)(h:(ts.getD i default).xs.length≤j):fP ts ms i j=bU (ts.take (i+1)) (ms.take (i+1)):=by
 unfold fP bU
 apply List.map_congr_left
 intro k hk
 rw[hJ h1 h2]
 by_cases e:k<j
 rw[if_pos e]
 rw[if_neg e]
 show _+0=_+_*(ts.getD i default).xs.getD k 0
 rw[show(ts.getD i default).xs.getD k 0=0 by rw[List.getD_eq_getElem?_getD,List.getElem?_eq_none (by omega)];rfl,Int.mul_zero]
theorem kB{ts ms}:(bU ts ms).length=10:=by simp[bU]
structure CtxOk(ctx:List Tm):Prop where
  ok: ∀t∈ctx,t.ok=true
  len:ctx.length≤1000
theorem CtxOk.get{ctx:List Tm}(h:CtxOk ctx){i:Nat}(hi:i<ctx.length):(ctx.getD i default).ok=true:=by rw[aD hi];exact h.ok _ (List.getElem_mem hi)
theorem E4{ms:List Int}(h:ms.all co=true):ms.all num=true:=by
 rw[List.all_eq_true]at h ⊢
 intro x hx
 have:=h x hx
 simp only[co,bS,decide_eq_true_eq]at this
 exact I7.2 (by omega)
end Go.Al
