/- Contracts of the functions that copy, compare, mark and measure. Programs and their validity; the reference's functions for terms. -/
import Derived.Test.YtgaahipcjhjlbaaGreatProg
import Derived.Test.YtgaahipcjhjlbaaGreatC
set_option linter.unusedVariables false
set_option linter.unusedSimpArgs false
set_option maxRecDepth 10000
open Go.Proofs
/- The table of the types that the functions of this seat use, and its proof. -/
namespace Go.Al
variable{L:Nat}(h1:4096≤L)(h2:L≤1073741824)
def tt:List (Nat×TI):=[
  (2,⟨4,false,0,1,8,[.int .i64 0],[]⟩),
  (3,⟨4,false,0,1,8,[.int .i64 0],[]⟩),
  (4,⟨5,false,0,1,1,[.bool false],[]⟩),
  (5,⟨4,false,0,1,1,[.int .u8 0],[]⟩),
  (22,⟨1,false,5,1,24,[.nils],[]⟩),
  (24,⟨1,false,44,1,24,[.nils],[]⟩),
  (25,⟨1,false,56,1,24,[.nils],[]⟩),
  (27,⟨3,true,0,3,72,[.nils,.nils,.nils],[(0,1),(1,1),(2,1)]⟩),
  (29,⟨1,false,2,1,24,[.nils],[]⟩),
  (31,⟨3,true,0,2,48,[.nils,.nils],[(0,1),(1,1)]⟩),
  (33,⟨1,false,39,1,24,[.nils],[]⟩),
  (39,⟨3,true,0,5,88,[.int .i64 0,.int .i64 0,.nils,.nils,.nils],[(0,1),(1,1),(2,1),(3,1),(4,1)]⟩),
  (44,⟨3,true,0,2,32,[.int .i64 0,.nils],[(0,1),(1,1)]⟩),
  (45,⟨1,false,93,1,24,[.nils],[]⟩),
  (48,⟨1,false,95,1,24,[.nils],[]⟩),
  (56,⟨3,true,0,8,112,[.int .i64 0,.int .i64 0,.int .i64 0,.int .i64 0,.nils,.int .i64 0,.nils,.nils],[(0,1),(1,1),(2,1),(3,2),(5,2),(7,1)]⟩),
  (63,⟨6,false,0,1,8,[.nilp],[]⟩),
  (66,⟨1,false,24,1,24,[.nils],[]⟩),
  (68,⟨3,true,0,5,104,[.nils,.nils,.nils,.nils,.bool false],[(0,1),(1,1),(2,1),(3,1),(4,1)]⟩),
  (69,⟨6,false,0,1,8,[.nilp],[]⟩),
  (70,⟨1,false,69,1,24,[.nils],[]⟩),
  (71,⟨1,false,145,1,24,[.nils],[]⟩),
  (72,⟨8,false,0,1,8,[.nilm],[]⟩),
  (74,⟨3,true,0,9,168,[.nils,.nils,.nils,.nils,.bool false,.nilp,.nils,.nils,.nilm],[(0,5),(5,1),(6,1),(7,1),(8,1)]⟩),
  (76,⟨6,false,0,1,8,[.nilp],[]⟩),
  (83,⟨3,true,0,6,96,[.nils,.nils,.nils,.int .i64 0,.int .i64 0,.int .i64 0],[(0,2),(2,1),(3,1),(4,1),(5,1)]⟩),
  (93,⟨3,true,0,3,56,[.nils,.int .i64 0,.nils],[(0,1),(1,2)]⟩),
  (95,⟨1,false,183,1,24,[.nils],[]⟩),
  (96,⟨4,false,0,1,8,[.int .u64 0],[]⟩),
  (98,⟨3,true,0,3,40,[.nils,.int .i64 0,.int .u64 0],[(0,1),(1,1),(2,1)]⟩),
  (114,⟨1,false,160,1,24,[.nils],[]⟩),
  (116,⟨3,true,0,6,96,[.nilp,.nils,.int .i64 0,.nils,.nils,.bool false],[(0,1),(1,1),(2,1),(3,1),(4,1),(5,1)]⟩),
  (136,⟨8,false,0,1,8,[.nilm],[]⟩),
  (138,⟨3,true,0,3,40,[.nils,.nilm,.int .i64 0],[(0,1),(1,1),(2,1)]⟩),
  (142,⟨3,true,0,6,112,[.int .i64 0,.nils,.nils,.nils,.nils,.int .i64 0],[(0,1),(1,1),(2,1),(3,1),(4,1),(5,1)]⟩),
  (145,⟨6,false,0,1,8,[.nilp],[]⟩),
  (147,⟨3,true,0,3,24,[.nilp,.int .i64 0,.nilp],[(0,1),(1,1),(2,1)]⟩),
  (152,⟨3,true,0,10,144,[.int .i64 0,.int .i64 0,.int .i64 0,.int .i64 0,.nils,.int .i64 0,.nils,.nils,.int .i64 0,.nils],[(0,8),(8,1),(9,1)]⟩),
  (160,⟨3,true,0,3,24,[.int .i64 0,.int .i64 0,.int .i64 0],[(0,1),(1,1),(2,1)]⟩),
  (164,⟨3,true,0,4,80,[.nils,.int .i64 0,.nils,.nils],[(0,1),(1,1),(2,1),(3,1)]⟩),
  (176,⟨3,true,0,3,40,[.int .i64 0,.nils,.bool false],[(0,1),(1,1),(2,1)]⟩),
  (183,⟨3,true,0,5,72,[.int .i64 0,.int .i64 0,.int .i64 0,.nils,.nils],[(0,1),(1,1),(2,2),(4,1)]⟩),
  (217,⟨3,true,0,3,56,[.int .i64 0,.nils,.nils],[(0,2),(2,1)]⟩),
  (222,⟨1,false,226,1,24,[.nils],[]⟩),
  (226,⟨3,true,0,3,56,[.int .i64 0,.nils,.nils],[(0,1),(1,1),(2,1)]⟩),
  (241,⟨1,false,217,1,24,[.nils],[]⟩),
  (244,⟨1,false,3,1,24,[.nils],[]⟩)
]
theorem tt2:TIok Tryz.prog 2 ⟨4,false,0,1,8,[.int .i64 0],[]⟩:=(by constructor<;>kernel_rfl)
theorem tt3:TIok Tryz.prog 3 ⟨4,false,0,1,8,[.int .i64 0],[]⟩:=(by constructor<;>kernel_rfl)
theorem tt4:TIok Tryz.prog 4 ⟨5,false,0,1,1,[.bool false],[]⟩:=(by constructor<;>kernel_rfl)
theorem tt5:TIok Tryz.prog 5 ⟨4,false,0,1,1,[.int .u8 0],[]⟩:=(by constructor<;>kernel_rfl)
theorem Jy:TIok Tryz.prog 22 ⟨1,false,5,1,24,[.nils],[]⟩:=(by constructor<;>kernel_rfl)
theorem Jx:TIok Tryz.prog 24 ⟨1,false,44,1,24,[.nils],[]⟩:=(by constructor<;>kernel_rfl)
theorem Jw:TIok Tryz.prog 25 ⟨1,false,56,1,24,[.nils],[]⟩:=(by constructor<;>kernel_rfl)
theorem Jv:TIok Tryz.prog 27 ⟨3,true,0,3,72,[.nils,.nils,.nils],[(0,1),(1,1),(2,1)]⟩:=(by constructor<;>kernel_rfl)
theorem Ju:TIok Tryz.prog 29 ⟨1,false,2,1,24,[.nils],[]⟩:=(by constructor<;>kernel_rfl)
theorem Jt:TIok Tryz.prog 31 ⟨3,true,0,2,48,[.nils,.nils],[(0,1),(1,1)]⟩:=(by constructor<;>kernel_rfl)
theorem Js:TIok Tryz.prog 33 ⟨1,false,39,1,24,[.nils],[]⟩:=(by constructor<;>kernel_rfl)
theorem Jr:TIok Tryz.prog 39 ⟨3,true,0,5,88,[.int .i64 0,.int .i64 0,.nils,.nils,.nils],[(0,1),(1,1),(2,1),(3,1),(4,1)]⟩:=(by constructor<;>kernel_rfl)
theorem Jq:TIok Tryz.prog 44 ⟨3,true,0,2,32,[.int .i64 0,.nils],[(0,1),(1,1)]⟩:=(by constructor<;>kernel_rfl)
theorem Jp:TIok Tryz.prog 45 ⟨1,false,93,1,24,[.nils],[]⟩:=(by constructor<;>kernel_rfl)
theorem Jo:TIok Tryz.prog 48 ⟨1,false,95,1,24,[.nils],[]⟩:=(by constructor<;>kernel_rfl)
theorem Jn:TIok Tryz.prog 56 ⟨3,true,0,8,112,[.int .i64 0,.int .i64 0,.int .i64 0,.int .i64 0,.nils,.int .i64 0,.nils,.nils],[(0,1),(1,1),(2,1),(3,2),(5,2),(7,1)]⟩:=(by constructor<;>kernel_rfl)
theorem Jm:TIok Tryz.prog 63 ⟨6,false,0,1,8,[.nilp],[]⟩:=(by constructor<;>kernel_rfl)
theorem Jl:TIok Tryz.prog 66 ⟨1,false,24,1,24,[.nils],[]⟩:=(by constructor<;>kernel_rfl)
theorem Jk:TIok Tryz.prog 68 ⟨3,true,0,5,104,[.nils,.nils,.nils,.nils,.bool false],[(0,1),(1,1),(2,1),(3,1),(4,1)]⟩:=(by constructor<;>kernel_rfl)
theorem Jj:TIok Tryz.prog 69 ⟨6,false,0,1,8,[.nilp],[]⟩:=(by constructor<;>kernel_rfl)
theorem Ji:TIok Tryz.prog 70 ⟨1,false,69,1,24,[.nils],[]⟩:=(by constructor<;>kernel_rfl)
theorem Jh:TIok Tryz.prog 71 ⟨1,false,145,1,24,[.nils],[]⟩:=(by constructor<;>kernel_rfl)
theorem Jg:TIok Tryz.prog 72 ⟨8,false,0,1,8,[.nilm],[]⟩:=(by constructor<;>kernel_rfl)
theorem Jf:TIok Tryz.prog 74 ⟨3,true,0,9,168,[.nils,.nils,.nils,.nils,.bool false,.nilp,.nils,.nils,.nilm],[(0,5),(5,1),(6,1),(7,1),(8,1)]⟩:=(by constructor<;>kernel_rfl)
theorem Je:TIok Tryz.prog 76 ⟨6,false,0,1,8,[.nilp],[]⟩:=(by constructor<;>kernel_rfl)
theorem Jd:TIok Tryz.prog 83 ⟨3,true,0,6,96,[.nils,.nils,.nils,.int .i64 0,.int .i64 0,.int .i64 0],[(0,2),(2,1),(3,1),(4,1),(5,1)]⟩:=(by constructor<;>kernel_rfl)
theorem Jc:TIok Tryz.prog 93 ⟨3,true,0,3,56,[.nils,.int .i64 0,.nils],[(0,1),(1,2)]⟩:=(by constructor<;>kernel_rfl)
theorem Jb:TIok Tryz.prog 95 ⟨1,false,183,1,24,[.nils],[]⟩:=(by constructor<;>kernel_rfl)
theorem Ja:TIok Tryz.prog 96 ⟨4,false,0,1,8,[.int .u64 0],[]⟩:=(by constructor<;>kernel_rfl)
theorem I9:TIok Tryz.prog 98 ⟨3,true,0,3,40,[.nils,.int .i64 0,.int .u64 0],[(0,1),(1,1),(2,1)]⟩:=(by constructor<;>kernel_rfl)
theorem HA:TIok Tryz.prog 114 ⟨1,false,160,1,24,[.nils],[]⟩:=(by constructor<;>kernel_rfl)
theorem Hz:TIok Tryz.prog 116 ⟨3,true,0,6,96,[.nilp,.nils,.int .i64 0,.nils,.nils,.bool false],[(0,1),(1,1),(2,1),(3,1),(4,1),(5,1)]⟩:=(by constructor<;>kernel_rfl)
theorem Hy:TIok Tryz.prog 136 ⟨8,false,0,1,8,[.nilm],[]⟩:=(by constructor<;>kernel_rfl)
theorem Hx:TIok Tryz.prog 138 ⟨3,true,0,3,40,[.nils,.nilm,.int .i64 0],[(0,1),(1,1),(2,1)]⟩:=(by constructor<;>kernel_rfl)
theorem Hw:TIok Tryz.prog 142 ⟨3,true,0,6,112,[.int .i64 0,.nils,.nils,.nils,.nils,.int .i64 0],[(0,1),(1,1),(2,1),(3,1),(4,1),(5,1)]⟩:=(by constructor<;>kernel_rfl)
theorem Hv:TIok Tryz.prog 145 ⟨6,false,0,1,8,[.nilp],[]⟩:=(by constructor<;>kernel_rfl)
theorem Hu:TIok Tryz.prog 147 ⟨3,true,0,3,24,[.nilp,.int .i64 0,.nilp],[(0,1),(1,1),(2,1)]⟩:=(by constructor<;>kernel_rfl)
theorem Ht:TIok Tryz.prog 152 ⟨3,true,0,10,144,[.int .i64 0,.int .i64 0,.int .i64 0,.int .i64 0,.nils,.int .i64 0,.nils,.nils,.int .i64 0,.nils],[(0,8),(8,1),(9,1)]⟩:=(by constructor<;>kernel_rfl)
theorem Hr:TIok Tryz.prog 160 ⟨3,true,0,3,24,[.int .i64 0,.int .i64 0,.int .i64 0],[(0,1),(1,1),(2,1)]⟩:=(by constructor<;>kernel_rfl)
theorem Hq:TIok Tryz.prog 164 ⟨3,true,0,4,80,[.nils,.int .i64 0,.nils,.nils],[(0,1),(1,1),(2,1),(3,1)]⟩:=(by constructor<;>kernel_rfl)
theorem Hp:TIok Tryz.prog 176 ⟨3,true,0,3,40,[.int .i64 0,.nils,.bool false],[(0,1),(1,1),(2,1)]⟩:=(by constructor<;>kernel_rfl)
theorem Ho:TIok Tryz.prog 183 ⟨3,true,0,5,72,[.int .i64 0,.int .i64 0,.int .i64 0,.nils,.nils],[(0,1),(1,1),(2,2),(4,1)]⟩:=(by constructor<;>kernel_rfl)
theorem Hn:TIok Tryz.prog 217 ⟨3,true,0,3,56,[.int .i64 0,.nils,.nils],[(0,2),(2,1)]⟩:=(by constructor<;>kernel_rfl)
theorem Hm:TIok Tryz.prog 222 ⟨1,false,226,1,24,[.nils],[]⟩:=(by constructor<;>kernel_rfl)
theorem Hl:TIok Tryz.prog 226 ⟨3,true,0,3,56,[.int .i64 0,.nils,.nils],[(0,1),(1,1),(2,1)]⟩:=(by constructor<;>kernel_rfl)
theorem Hk:TIok Tryz.prog 241 ⟨1,false,217,1,24,[.nils],[]⟩:=(by constructor<;>kernel_rfl)
theorem Hj:TIok Tryz.prog 244 ⟨1,false,3,1,24,[.nils],[]⟩:=(by constructor<;>kernel_rfl)
theorem Hi:TTok Tryz.prog tt:=⟨tt2,tt3,tt4,tt5,Jy,Jx,Jw,Jv,Ju,Jt,Js,Jr,Jq,Jp,Jo,Jn,Jm,Jl,Jk,Jj,Ji,Jh,Jg,Jf,Je,Jd,Jc,Jb,Ja,I9,HA,Hz,Hy,Hx,Hw,Hv,Hu,Ht,Hr,Hq,Hp,Ho,Hn,Hm,Hl,Hk,Hj,tv⟩
theorem AF:TTplain tt=true:=by kernel_rfl
theorem El:Tryz.prog.follows .mixedOrders=true:=by kernel_rfl
theorem ac{σ:Sg}{Q:Exit→St→Prop}{s:St}{id:Nat}{l:List Oper}{y:Code}(h:AOps σ l.toArray (oz (AWP σ y Q) Q) l s):AWP σ (.seq (.region id l.toArray false) y) Q s:=AWP.seq (AWP.region h)
theorem jn{σ:Sg}{Q:Exit→St→Prop}{s:St}{all:Array Oper}(h:Q .normal s):AOps σ all Q [] s:=AOps.nil h
theorem aN{σ:Sg}{Q:Exit→St→Prop}{s:St}{all:Array Oper}{id:Nat}{l:List Oper}{y:Code}(h:AOps σ l.toArray (oz (AWP σ y Q) Q) l s):AOps σ all (oz (AWP σ (.seq (.region id l.toArray false) y) Q) Q) [] s:=AOps.nil (AWP.seq (AWP.region h))
theorem bo:(∀{α β:Type} {f:α→β} {l:List α},(l.map f).length=l.length)∧(∀{α:Type} [BEq α] [LawfulBEq α] {a b:α},(a==b)=true↔a=b)∧(∀{p:Prop} [Decidable p],(decide p=true)=p)∧(∀{p:Prop} [Decidable p],(decide p=false)↔¬p)∧(∀{b:Bool},((!b)=true)=(b=false))∧(∀{b:Bool},((!b)=false)=(b=true))∧((!true)=false)∧((!false)=true)∧(∀{a b:Int},¬a<b↔b≤a)∧(∀{a b:Int},¬a≤b↔b<a):=by
 refine⟨?_,?_,?_,?_,?_,?_,?_,?_,?_,?_⟩<;>intros<;>simp
theorem am{σ:Sg}{Q:cU}{all:Array Oper}{l:List Oper}{e:List (Nat×A)}{H H':List (Nat×B)}(K:AOps σ all Q l ⟨e,H'⟩)(h:HN H H':=by repeat' (first|apply HN.cons rfl|exact HN.nil rfl|exact BN.row rfl|exact BN.map rfl|apply BN.box rfl|apply MN.cons rfl|exact MN.nil rfl|exact XN.d rfl|exact XN.rs rfl|exact pI)):AOps σ all Q l ⟨e,H⟩:=y3 h K
theorem bJ{σ:Sg}{Q:Exit→St→Prop}{c:Code}{e:List (Nat×A)}{H H':List (Nat×B)}(K:AWP σ c Q ⟨e,H'⟩)(h:HN H H':=by repeat' (first|apply HN.cons rfl|exact HN.nil rfl|exact BN.row rfl|exact BN.map rfl|apply BN.box rfl|apply MN.cons rfl|exact MN.nil rfl|exact XN.d rfl|exact XN.rs rfl|exact pI)):AWP σ c Q ⟨e,H⟩:=BH h K
def GE(e:List (Nat×A)):List Nat→Option (List (Nat×A))
  | []=>some []
  | k :: ks=>match lk e k,GE e ks with
    | some v,some r=>some ((k,v)::r)
    | _,_=>none
theorem tl{e:List (Nat×A)}: ∀{ks:List Nat} {e':List (Nat×A)},GE e ks=some e'→envSub e e'
 | [],e',h=>by cases h;trivial
 | k::ks,e',h=>by
  unfold GE at h
  split at h
  rename_i v r h1 h2
  cases h
  exact⟨h1,tl h2⟩
  cases h
theorem jf{σ:Sg}{Q:Exit→St→Prop}{all:Array Oper}{l:List Oper}{e e':List (Nat×A)}{H:List (Nat×B)}(ks:List Nat)(h:GE e ks=some e')(K:AOps σ all Q l ⟨e',H⟩):AOps σ all Q l ⟨e,H⟩:=vp e' (tl h) K
theorem jw{σ:Sg}{Q:Exit→St→Prop}{c:Code}{e e':List (Nat×A)}{H:List (Nat×B)}(ks:List Nat)(h:GE e ks=some e')(K:AWP σ c Q ⟨e',H⟩):AWP σ c Q ⟨e,H⟩:=wP e' (tl h) K


noncomputable abbrev SG(L nt:Nat):Sg:=⟨Tryz.prog,tt,L,nt,[]⟩
theorem Ce{L nt}(h1:4096≤L)(h2:L≤9223372036854775807):SgOk (SG L nt):=⟨Hi,AF,h1,h2,El⟩
theorem jB{L f:Nat}{fn:Func}{c:Code}{args:List A}{Q:A→List (Nat×B)→Prop}(nt:Nat)(h1:4096≤L)(h2:L≤1073741824)(hf:Tryz.prog.funcs[f]? = some fn)(hz:(fn.body,fn.ntmps,Nat.ble args.length nt)=(some c,nt,true))(h:SgOk (SG L nt)→As.fact L args→AWP (SG L nt) c (fun e s=>(e= .ret∨e= .normal)∧∃s2,Ent (SG L nt) s s2∧∃res,fI tt s2 fn.results.toList=some res∧Q res s2.H) ⟨dA 0 args,[]⟩)(hn:(fn.name== "runtime.NumGoroutine")=false:=by kernel_rfl):MC Tryz.prog L f args [] Q:=have hσ:=Ce (nt:=nt) h1 (Nat.le_trans h2 (by decide));have hz:=Prod.mk.inj hz;have hy:=Prod.mk.inj hz.2;MC.body hσ hf hn hz.1 hy.1 (Nat.le_of_ble_eq_true hy.2) (h hσ)
theorem jH{L f:Nat}{fn:Func}{c:Code}{args:List A}{Hin:List (Nat×B)}{Q:A→List (Nat×B)→Prop}(nt:Nat)(ks:List Nat)(h1:4096≤L)(h2:L≤1073741824)(hf:Tryz.prog.funcs[f]? = some fn)(hz:(fn.body,fn.ntmps,ks,Nat.ble args.length nt)=(some c,nt,Hin.map (·.1),true))(h:SgOk ⟨Tryz.prog,tt,L,nt,ks⟩→As.fact L args→AWP ⟨Tryz.prog,tt,L,nt,ks⟩ c (fun e s=>(e= .ret∨e= .normal)∧∃s2,Ent ⟨Tryz.prog,tt,L,nt,ks⟩ s s2∧∃res,fI tt s2 fn.results.toList=some res∧Q res s2.H) ⟨dA 0 args,Hin⟩)(hn:(fn.name== "runtime.NumGoroutine")=false:=by kernel_rfl):MC Tryz.prog L f args Hin Q:=have hσ:=tQ (js:=ks) (Ce (nt:=nt) h1 (Nat.le_trans h2 (by decide)));have hz:=Prod.mk.inj hz;have hy:=Prod.mk.inj hz.2;have hx:=Prod.mk.inj hy.2;BG hσ hf hn hz.1 hy.1 hx.1 (Nat.le_of_ble_eq_true hx.2) (h hσ)
abbrev MQ{L:Nat}(h1:4096≤L)(h2:L≤1073741824)(f:Nat)(ds:List A)(Hin:List (Nat×B))(Q:A→List (Nat×B)→Prop):Prop:=MC Tryz.prog L f ds Hin Q
abbrev eI(n:Int):A:=.c (.d (.int .i64 n))
abbrev eB(b:Bool):A:=.c (.d (.bool b))
abbrev cK(xs:List Int):D:=.slc 1 (xs.map fun n=>[.int .i64 n])
structure Tm where
  c:Int
  xs:List Int
  deriving Inhabited
abbrev Tm.cells(t:Tm):List D:=[.int .i64 t.c,cK t.xs]
abbrev ptr(cs:List D):A:=.c (.d (.ptr cs 0))
def num(x:Int):Bool:=decide (-1000000≤x)&&decide (x≤1000000)
def Tm.ok(t:Tm):Bool:=!(bif (bif !num t.c then true else decide ((10:Int)<t.xs.length))then true else bif decide ((0:Int)<t.xs.length)then decide (t.xs.getD ((t.xs.length:Int)-1).toNat default=0)else false)&&t.xs.all num
theorem jY{α:Type}{p:α→Bool}{xs:List α}(h: ∀j (hj:j<xs.length),p xs[j]=true):xs.all p=true:=by
 rw[List.all_eq_true];intro x hx
 obtain⟨j,hj,rfl⟩:=List.mem_iff_getElem.1 hx
 exact h j hj
theorem iS{α:Type}{p:α→Bool}{xs:List α}(j:Nat)(hj:j<xs.length)(h:p xs[j]=false):xs.all p=false:=by
 rw[List.all_eq_false];exact⟨xs[j],List.getElem_mem _,by simp[h]⟩
theorem aw{α:Type}[Inhabited α]{xs:List α}{j:Nat}(hj:j<xs.length):xs.getD j default=xs[j]:=by simp[hj]

variable{x lo hi:Int}
theorem Gw:MQ h1 h2 65 [eI x,eI lo,eI hi] [] (Plain (eB (decide (lo≤x)&&decide (x≤hi)))):=by
 refine aB ?_ Z
 refine jB 15 h1 h2 Tryz.func65 Z fun O hF=>?_
 refine ac (js Z (aN (jd Z (ar 3 Z Z Z (fun hx=>nz hx Z (nz hx Z (nz hx Z (AN.nil)))) Z Z (st (aq O Z Z Z Z Z) Z (js Z (jr ?_)))))))
 refine eR Z ?_
 rw[Bool.cond_false_right]
theorem zv:MQ h1 h2 93 [eI x] [] (Plain (eB (num x))):=by
 refine aB ?_ Z
 refine jB 5 h1 h2 Tryz.func93 Z fun O hF=>?_
 refine ac (js Z (aN (js Z (lo Z (Gw h1 h2) 5000 Z (js Z (jr ?_))))))
 refine eR Z ?_
 first|rfl|skip
variable{t:Tm}
theorem B8:MQ h1 h2 60 [ptr t.cells] [] (Plain (eB t.ok)):=by
 refine aB ?_ Z
 refine jB 49 h1 h2 Tryz.func60 Z fun O hF=>?_
 have hl:t.xs.length≤L:=by simpa[As.fact,A.fact,M.fact,D.fact,Ds.fact]using hF.1.2.1.1
 refine ac (js Z (aN (jd Z (cW Z (js Z (jn (ae (ac (jd Z (lo Z (zv h1 h2) 15000 Z (jb Z (ar 2 Z Z Z (fun hx=>nz hx Z (nz hx Z (AN.nil))) Z Z (st (ay O Z Z Z Z Z) Z (js Z (ar 13 Z Z Z (fun hx=>nz hx Z (nz hx Z (nz hx Z (p8 9 Z Z Z Z (fun hx'=>nz hx' Z (nz hx' Z (nz hx' Z (nz hx' Z (nz hx' Z (ny hx' (vF Z) Z (ny hx' (vD Z) Z (nz hx' Z (nz hx' Z (AN.nil)))))))))) Z Z (ny hx (aq O Z Z Z Z Z) Z (AN.nil)))))) Z Z (st (ay O Z Z Z Z Z) Z (jn (zc Z (fun z34=>?_) (fun z34=>?_)))))))))))))))))))
 try simp only[bo]at z34
 refine ac (js Z (jr ?_))
 refine eR Z ?_
 simp only[Tm.ok,z34,Bool.not_true,Bool.false_and]
 try simp only[bo]at z34
 refine af (ae (ac (js Z (jn (ak (ap (X:=Nat) (fun i=>⟨[(0,ptr t.cells),(3,eI t.xs.length),(4,eI i)],[]⟩) (fun i=>i≤t.xs.length∧∀j (h:j<t.xs.length),j<i→num t.xs[j]=true) (fun i=>t.xs.length-i) 0 (Ent.env ⟨Z,Z,Z,tv⟩) ?_ (fun i hi=>?_)))))))
 exact⟨cG _,fun j h hj=>absurd hj (Nat.not_lt_zero j)⟩
 refine ae (ac (jc Z (jn (zc Z (fun z37=>?_) (fun z37=>?_)))))
 try simp only[bo]at z37
 refine af (ae (ak (ac (jd Z (js Z (nC Z Z (js Z (lo Z (zv h1 h2) 48000 Z (js Z (jn (zc Z (fun z48=>?_) (fun z48=>?_))))))))))))
 try simp only[bo]at z48
 refine ac (js Z (jr ?_))
 refine eR Z ?_
 rw[Int.toNat_natCast,aw (by omega)]at z48
 simp only[Tm.ok,iS i (by omega) z48,Bool.and_false]
 try simp only[bo]at z48
 refine af (ag (js Z (ji Z (js Z (jn ?_)))))
 refine⟨i+1,Ent.env ⟨Z,Z,Z,tv⟩,⟨by omega,fun j h hj=>?_⟩,by omega⟩
 by_cases e:j=i
 subst e;rw[Int.toNat_natCast,aw h]at z48;exact z48
 exact hi.2 j h (by omega)
 try simp only[bo]at z37
 refine aR (ac (js Z (jr ?_)))
 refine eR Z ?_
 simp only[Tm.ok,z34,Bool.not_false,Bool.true_and]
 rw[jY (fun j hj=>hi.2 j hj (by omega))]
abbrev aE(xs:List Int):B:=.row true 1 (xs.map fun n=>[.int .i64 n])
abbrev bO(xs:List Int):A:=.c (.d (cK xs))
variable{xs:List Int}
theorem B4:MQ h1 h2 59 [bO xs] [] (Rows (.c (.rs 0 0 xs.length)) [aE xs]):=by
 refine cq (jB 6 h1 h2 Tryz.func59 Z fun O hF=>?_)
 have hl:xs.length≤L:=by simpa[As.fact,A.fact,M.fact,D.fact,Ds.fact]using hF.1.1
 refine ?_
 refine ac (js Z (aN (hp (bz O Z Z Z) Z (js Z (hp (ko (own:=true) O Z (.row Z Z) (.slc (.inr (Scal.map (fun _=>rfl)))) (by simp) Z (by first|omega|(dsimp only[bA,dW,List.length_nil];omega)|(simp only[bo]at *;omega)|(simp;omega)) (by first|omega|(dsimp only[bA,dW,List.length_nil];omega)|(simp only[bo]at *;omega)|(simp;omega)) Z Z) Z (js Z (jr ?_)))))))
 refine⟨.inl Z,_,bK,_,Z,[5],by decide,Z,?_,?_⟩
 simp[A.lab,M.lab]
 rfl
theorem vz:MQ h1 h2 88 [bO xs] [] (Rows (.c (.rs 0 0 xs.length)) [aE xs]):=by
 refine cq (jB 6 h1 h2 Tryz.func88 Z fun O hF=>?_)
 have hl:xs.length≤L:=by simpa[As.fact,A.fact,M.fact,D.fact,Ds.fact]using hF.1.1
 refine ?_
 refine ac (js Z (aN (hp (bz O Z Z Z) Z (js Z (hp (ko (own:=true) O Z (.row Z Z) (.slc (.inr (Scal.map (fun _=>rfl)))) (by simp) Z (by first|omega|(dsimp only[bA,dW,List.length_nil];omega)|(simp only[bo]at *;omega)|(simp;omega)) (by first|omega|(dsimp only[bA,dW,List.length_nil];omega)|(simp only[bo]at *;omega)|(simp;omega)) Z Z) Z (js Z (jr ?_)))))))
 refine⟨.inl Z,_,bK,_,Z,[5],by decide,Z,?_,?_⟩
 simp[A.lab,M.lab]
 rfl

deriving instance DecidableEq for Tm
abbrev fd(ts:List Tm):D:=.slc 2 (ts.map Tm.cells)
abbrev bM(ts:List Tm):A:=.c (.d (fd ts))
abbrev GM(ts:List Tm):B:=.row true 2 (ts.map Tm.cells)


structure Sm where
  kind:Int
  var:Int
  event:Int
  sum:Tm
  index:Tm
  facts:List Tm
  deriving Inhabited,DecidableEq
abbrev Sm.cells(s:Sm):List D:=[.int .i64 s.kind,.int .i64 s.var,.int .i64 s.event,.int .i64 s.sum.c,cK s.sum.xs,.int .i64 s.index.c,cK s.index.xs,fd s.facts]
abbrev aSm(s:Sm):A:=.agg (s.cells.map .d)
abbrev kv(ts:List Sm):D:=.slc 8 (ts.map Sm.cells)
structure Pm where
  pre:List Tm
  body:List Sm
  post:List Tm
  deriving Inhabited,DecidableEq
structure Sx where
  vars:List Int
  cells:List Int
  deriving Inhabited,DecidableEq
abbrev Pm.data(p:Pm):List D:=[fd p.pre,kv p.body,fd p.post]
abbrev Sx.data(s:Sx):List D:=[cK s.vars,cK s.cells]
abbrev ky(p:Pm):A:=.agg (p.data.map .d)
abbrev GJ(s:Sx):A:=.agg (s.data.map .d)

def Dp{α:Type}(f:Int→α→α)(sz:α→Nat):Int→List α→List α
  | _,[]=>[]
  | k,a::r=>f k a::Dp f sz (k+sz a) r
def IX{α:Type}(sz:α→Nat)(l:List α):Nat:=(l.map sz).sum
def mk{α:Type}(f:Int→α→α)(sz:α→Nat)(k:Int)(i:Nat)(l:List α):List α:=Dp f sz k (l.take i)++l.drop i
section
variable{α:Type}{f:Int→α→α}{sz:α→Nat}
end

def Tm.term(t:Tm):Bool:=t.ok&&decide ((t.xs.length:Int)≤4)
def terms(ts:List Tm)(n:Int):Bool:=ts.all Tm.term&&decide ((ts.length:Int)≤n)
def bl(k:Int):Int:=if k=1 then 2 else if k=7 then 2 else if k=8 then 1 else 0
def fw:List Sm→Int→Option Nat
  | [],need=>if need≤0 then some 0 else none
  | s::r,need=>if need≤0 then some 0 else(fw r (need+(bl s.kind-1))).map (· + 1)
def sL(body:List Sm)(k:Nat):Int:=match fw (body.drop k) 1 with
  | some n=>k+n
  | none=> -1
def Tm.zero(t:Tm):Bool:=decide (t.c=0)&&decide ((t.xs.length:Int)=0)

theorem Ee:MQ h1 h2 77 [ptr t.cells] [] (Plain (eB t.term)):=by
 refine aB ?_ Z
 refine jB 13 h1 h2 Tryz.func77 Z fun O hF=>?_
 refine ac (js Z (aN (js Z (lo Z (B8 h1 h2) 5000 Z (js Z (ar 6 Z Z Z (fun hx=>nz hx Z (nz hx Z (nz hx Z (nz hx Z (ny hx (bP O Z Z Z Z Z Z Z Z) Z (nz hx Z (AN.nil))))))) Z Z (st (aq O Z Z Z Z Z) Z (js Z (jr ?_)))))))))
 refine eR Z ?_
 rw[Bool.cond_false_right];rfl
variable{ts:List Tm}{n:Int}
theorem Ei:MQ h1 h2 49 [bM ts,eI n] [] (Plain (eB (terms ts n))):=by
 refine aB ?_ Z
 refine jB 21 h1 h2 Tryz.func49 Z fun O hF=>?_
 have hl:ts.length≤L:=by simpa[As.fact,A.fact,M.fact,D.fact,Ds.fact]using hF.1.1
 refine ac (js Z (jn (ae (ac (js Z (jn (ak (ap (X:=Nat) (fun i=>⟨[(0,bM ts),(1,eI n),(5,eI i)],[]⟩) (fun i=>i≤ts.length∧∀j (h:j<ts.length),j<i→Tm.term ts[j]=true) (fun i=>ts.length-i) 0 (Ent.env ⟨Z,Z,Z,tv⟩) ?_ (fun i hi=>?_)))))))))
 exact⟨cG _,fun j h hj=>absurd hj (Nat.not_lt_zero j)⟩
 refine ae (ac (jb Z (cW Z (js Z (jn (zc Z (fun z9=>?_) (fun z9=>?_)))))))
 try simp only[bo]at z9
 refine af (ae (ak (ac (jb Z (nC Z Z (lo Z (Ee h1 h2) 16000 Z (js Z (jn (zc Z (fun z16=>?_) (fun z16=>?_))))))))))
 try simp only[bo]at z16
 refine ac (js Z (jr ?_))
 refine eR Z ?_
 rw[Int.toNat_natCast,aw (by omega)]at z16
 rw[terms,iS i (by omega) z16,Bool.false_and]
 try simp only[bo]at z16
 refine af (ag (js Z (ji Z (js Z (jn ?_)))))
 refine⟨i+1,Ent.env ⟨Z,Z,Z,tv⟩,⟨by omega,fun j h hj=>?_⟩,by omega⟩
 by_cases e:j=i
 subst e;rw[Int.toNat_natCast,aw h]at z16;exact z16
 exact hi.2 j h (by omega)
 try simp only[bo]at z9
 refine aR (ac (js Z (cW Z (jc Z (jr ?_)))))
 refine eR Z ?_
 rw[terms,jY (fun j hj=>hi.2 j hj (by omega)),Bool.true_and]
theorem cN(k:Int):0≤bl k∧bl k≤2:=by unfold bl;split;decide;split;decide;split<;>decide
theorem kR{l:List Sm}{n:Int}(h:n≤0):fw l n=some 0:=by cases l<;>simp[fw,h]
theorem qw{n:Int}(h:0<n):fw [] n=none:=by simp[fw];omega
theorem uR{l:List Sm}{n:Int}(h:0<n){k:Nat}(hk:k<l.length):fw (l.drop k) n=(fw (l.drop (k+1)) (n+(bl (l.getD k default).kind-1))).map (· + 1):=by
 rw[List.drop_eq_getElem_cons hk,aw hk]
 show(if n≤0 then some 0 else _)=_
 rw[if_neg (by omega)]
theorem J0{k:Int}:MQ h1 h2 42 [eI k] [] (Plain (eI (bl k))):=by
 refine aB ?_ Z
 refine jB 9 h1 h2 Tryz.func42 Z fun O hF=>?_
 refine ac (js Z (jn (ae (ac (js Z (jn (ak (ae (ac (jb Z (jn (zc Z (fun z4=>?_) (fun z4=>?_)))))))))))))
 try simp only[bo]at z4
 refine af (zc Z (fun z4=>?_) (fun z4=>?_))
 try simp only[bo]at z4
 refine ac (js Z (jr ?_))
 refine eR Z ?_
 simp_all[bl]
 try simp only[bo]at z4
 refine ac (jb Z (jn (zc Z (fun z7=>?_) (fun z7=>?_))))
 try simp only[bo]at z7
 refine ac (js Z (jr ?_))
 refine eR Z ?_
 simp_all[bl]
 try simp only[bo]at z7
 refine af (ac (js Z (jr ?_)))
 refine eR Z ?_
 simp_all[bl]
 try simp only[bo]at z4
 refine ag (jb Z (jn (zc Z (fun z4=>?_) (fun z4=>?_))))
 try simp only[bo]at z4
 refine ac (js Z (jr ?_))
 refine eR Z ?_
 simp_all[bl]
 try simp only[bo]at z4
 refine ac (jb Z (jn (zc Z (fun z7=>?_) (fun z7=>?_))))
 try simp only[bo]at z7
 refine ac (js Z (jr ?_))
 refine eR Z ?_
 simp_all[bl]
 try simp only[bo]at z7
 refine af (ac (js Z (jr ?_)))
 refine eR Z ?_
 simp_all[bl]
theorem G6:MQ h1 h2 123 [ptr t.cells] [] (Plain (eB t.zero)):=by
 refine aB ?_ Z
 refine jB 16 h1 h2 Tryz.func123 Z fun O hF=>?_
 refine ac (js Z (aN (jd Z (jb Z (ar 6 Z Z Z (fun hx=>nz hx Z (nz hx Z (nz hx Z (nz hx Z (ny hx (bP O Z Z Z Z Z Z Z Z) Z (nz hx Z (AN.nil))))))) Z Z (st (aq O Z Z Z Z Z) Z (js Z (jr ?_))))))))
 refine eR Z ?_
 rw[Bool.cond_false_right];rfl
variable{body:List Sm}
theorem J8{k:Nat}(hk:k≤body.length):MQ h1 h2 79 [.c (.d (kv body)),eI k] [] (Plain (eI (sL body k))):=by
 refine aB ?_ Z
 refine jB 24 h1 h2 Tryz.func79 Z fun O hF=>?_
 have hl:body.length≤L:=by simpa[As.fact,A.fact,M.fact,D.fact,Ds.fact]using hF.1.1
 refine ac (js Z (aN (js Z (jn (ae (ak (ap (X:=Int×Nat) (fun x=>⟨[(0,.c (.d (kv body))),(1,eI (k+x.2)),(5,eI x.1)],[]⟩) (fun x=>k+x.2≤body.length∧(fw (body.drop k) 1=(fw (body.drop (k+x.2)) x.1).map (· + x.2))∧0≤x.1∧x.1≤x.2+1) (fun x=>body.length-(k+x.2)) (1,0) (Ent.env ⟨Z,by simp[dA,aA],Z,tv⟩) ?_ (fun x hi=>?_))))))))
 exact⟨hk,by simp,by decide,by decide⟩
 refine ae (ac (jb Z (jn (zc Z (fun z7=>?_) (fun z7=>?_)))))
 try simp only[bo]at z7
 refine af (ak (ae (ac (jb Z (cW Z (js Z (jn (zc Z (fun z11=>?_) (fun z11=>?_)))))))))
 try simp only[bo]at z11
 refine ac (js Z (jr ?_))
 refine eR Z ?_
 have e:k+x.2=body.length:=by omega
 rw[sL,hi.2.1,List.drop_of_length_le (by omega),qw z7];rfl
 try simp only[bo]at z11
 refine af (ac (jc Z (nC Z Z (jb Z (lo Z (J0 h1 h2) 19000 Z ?_)))))
 have hb:=cN (body.getD ((k:Int)+x.2).toNat default).kind
 refine st (aS O Z Z (by omega) (by omega)) Z (ji Z (js Z (jn (ag (js Z (ji Z (js Z (jn ?_))))))))
 have hk2:k+x.2<body.length:=by omega
 have e:=uR z7 hk2
 rw[e,Option.map_map]at hi
 refine⟨(x.1+(bl (body.getD (k+x.2) default).kind-1),x.2+1),Ent.env ⟨Z,?_,Z,tv⟩,⟨by show k+(x.2+1)≤_;omega,?_,?_,?_⟩,by show body.length-(k+(x.2+1))<_;omega⟩
 exact congrArg (fun z=>some (eI z)) (by show(k:Int)+x.2+1=k+(x.2+1:Nat);omega)
 rw[hi.2.1];exact congrArg (fun f=>Option.map f _) (funext fun n=>by show n+1+x.2=n+(x.2+1);omega)
 show 0≤x.1+(bl (body.getD (k+x.2) default).kind-1);have:=(cN (body.getD (k+x.2) default).kind).1;omega
 show x.1+(bl (body.getD (k+x.2) default).kind-1)≤(x.2+1:Nat)+1;have:=(cN (body.getD (k+x.2) default).kind).2;omega
 try simp only[bo]at z7
 refine aR (ac (jb Z (jr ?_)))
 refine eR Z ?_
 rw[sL,hi.2.1,kR z7];exact congrArg eI (by show(k:Int)+x.2=k+(0+x.2:Nat);omega)
def tY(s:Sm):Bool:=bif bif bif bif decide (s.kind=2)then true else decide (s.kind=4)then true else decide (s.kind=6)then true else decide (s.kind=7)then true else decide (s.kind=8)
def tZ(s:Sm):Bool:=bif decide (s.kind=3)then true else decide (s.kind=4)
def pL(s:Sm):Bool:=bif decide (s.kind=2)then true else decide (s.kind=3)
def rv(s:Sm):Bool:=bif bif bif !(decide (0≤s.kind)&&decide (s.kind≤8))then true else !s.sum.term then true else !s.index.term then true else !terms s.facts 6
def x6(s:Sm):Bool:=bif bif bif !tY s then !s.sum.zero else false then true else bif !tZ s then !s.index.zero else false then true else bif !decide (s.kind=8)then decide ((0:Int)<s.facts.length)else false
def y7(s:Sm):Bool:=bif bif pL s then !(decide (0≤s.var)&&decide (s.var≤3))else false then true else bif !pL s then !decide (s.var=0)else false
def bi(s:Sm):Bool:=bif rv s then false else bif x6 s then false else bif y7 s then false else bif decide (s.kind=5)then(decide (0≤s.event)&&decide (s.event≤3))else decide (s.event=0)
def ku(b:List Sm):Bool:=(decide ((1:Int)≤b.length)&&decide ((b.length:Int)≤30))&&(b.all bi&&decide (sL b 0=b.length))
def gQ(p:Pm):Bool:=terms p.pre 6&&(ku p.body&&terms p.post 6)
def mB(x:Int):Bool:=decide (-1000000000≤x)&&decide (x≤1000000000)
def cP(xs:List Int)(n:Int):Bool:=xs.all mB&&decide ((xs.length:Int)=n)
def zb(s:Sx):Bool:=cP s.vars 4&&cP s.cells 8
def dI:List Int→List Int→Int
  | x::xs,y::ys=>x*y+dI xs ys
  | _,_=>0
def aH(t:Tm)(vars:List Int):Int:=t.c+dI t.xs vars
theorem kU: ∀{xs ys:List Int} {i:Nat},i<xs.length→i<ys.length→dI (xs.take (i+1)) (ys.take (i+1))=dI (xs.take i) (ys.take i)+xs.getD i default*ys.getD i default
 | [],_,i,h,_=>by simp at h
 | _::_,[],i,_,h=>by simp at h
 | x::xs,y::ys,0,_,_=>by simp[dI]
 | x::xs,y::ys,i+1,h1,h2=>by
  have:=kU (xs:=xs) (ys:=ys) (i:=i) (by simpa using h1) (by simpa using h2)
  simp only[List.take_succ_cons,dI,List.getD_cons_succ]at this ⊢
  omega
theorem pF: ∀{xs ys:List Int} {i:Nat},xs.length≤i→dI (xs.take i) (ys.take i)=dI xs ys
 | [],_,i,h=>by simp[dI]
 | _::_,_,0,h=>by simp at h
 | _::_,[],i+1,h=>by simp[dI]
 | x::xs,y::ys,i+1,h=>by
  simp only[List.take_succ_cons,dI]
  rw[pF (by simpa using h)]
theorem sR{a b:Int}(h1: -1000000≤a∧a≤1000000)(h2: -1000000000≤b∧b≤1000000000): -1000000000000000≤a*b∧a*b≤1000000000000000:=by
 have h3:a.natAbs≤1000000:=by omega
 have h4:b.natAbs≤1000000000:=by omega
 have h5:=Nat.mul_le_mul h3 h4
 rw[←Int.natAbs_mul]at h5
 omega
theorem IZ{x:Int}:num x=true↔ -1000000≤x∧x≤1000000:=by simp[num]
theorem I2{x:Int}:mB x=true↔ -1000000000≤x∧x≤1000000000:=by simp[mB]
theorem sW{xs ys:List Int}(hx:xs.all num=true)(hy:ys.all mB=true): ∀{i:Nat},i≤xs.length→i≤ys.length→ -(i*1000000000000000:Int)≤dI (xs.take i) (ys.take i)∧dI (xs.take i) (ys.take i)≤i*1000000000000000
 | 0,_,_=>by simp[dI]
 | i+1,h1,h2=>by
  have ih:=sW hx hy (i:=i) (by omega) (by omega)
  rw[kU (by omega) (by omega)]
  have a1:=IZ.1 (List.all_eq_true.1 hx _ (List.getElem_mem (show i<xs.length by omega)))
  have a2:=I2.1 (List.all_eq_true.1 hy _ (List.getElem_mem (show i<ys.length by omega)))
  have:=sR a1 a2
  rw[aw (by omega),aw (by omega)]
  omega
theorem qa{t:Tm}(h:t.term=true):num t.c=true∧t.xs.all num=true∧t.xs.length≤4:=by
 simp only[Tm.term,Tm.ok,bC,decide_eq_true_eq,Bool.not_eq_true']at h
 obtain⟨⟨h1,h2⟩,h3⟩:=h
 refine⟨?_,h2,by omega⟩
 cases hn:num t.c with
 | true=>rfl
 | false=>rw[hn]at h1;simp at h1
theorem fR{xs:List Int}{n:Int}(h:cP xs n=true):xs.all mB=true∧(xs.length:Int)=n:=by simpa[cP]using h

theorem J1{s:Sm}:MQ h1 h2 78 [ptr s.cells] [] (Plain (eB (bi s))):=by
 refine aB ?_ Z
 refine jB 161 h1 h2 Tryz.func78 Z fun O hF=>?_
 refine ac (js Z (aN (jd Z (jb Z (bq [(11,_),(2,_),(0,_)] [] ⟨Z,Z,Z,tv⟩ Z (ar 5 Z Z Z (fun hx=>nz hx Z (nz hx Z (nz hx Z (nz hx Z (nz hx Z (AN.nil)))))) Z Z (st (ay O Z Z Z Z Z) Z (js Z (bq [(18,_),(2,_),(0,_)] [] ⟨Z,Z,Z,tv⟩ Z (ar 5 Z Z Z (fun hx=>nz hx Z (nz hx Z (nz hx Z (nz hx Z (nz hx Z (AN.nil)))))) Z Z (st (ay O Z Z Z Z Z) Z (js Z (bq [(25,_),(2,_),(0,_)] [] ⟨Z,Z,Z,tv⟩ Z (ar 5 Z Z Z (fun hx=>nz hx Z (nz hx Z (nz hx Z (nz hx Z (nz hx Z (AN.nil)))))) Z Z (st (ay O Z Z Z Z Z) Z (js Z (bq [(32,_),(2,_),(0,_)] [] ⟨Z,Z,Z,tv⟩ Z (ar 5 Z Z Z (fun hx=>nz hx Z (nz hx Z (nz hx Z (nz hx Z (nz hx Z (AN.nil)))))) Z Z (st (ay O Z Z Z Z Z) Z (js Z (aN (jd Z (jb Z (bq [(44,_),(3,_),(2,_),(0,_)] [] ⟨Z,Z,Z,Z,tv⟩ Z (ar 5 Z Z Z (fun hx=>nz hx Z (nz hx Z (nz hx Z (nz hx Z (nz hx Z (AN.nil)))))) Z Z (st (ay O Z Z Z Z Z) Z (js Z (aN (jd Z ?_)))))))))))))))))))))))))))))
 refine jb Z (bq [(56,_),(4,_),(3,_),(2,_),(0,_)] [] ⟨Z,Z,Z,Z,Z,tv⟩ Z (ar 5 Z Z Z (fun hx=>nz hx Z (nz hx Z (nz hx Z (nz hx Z (nz hx Z (AN.nil)))))) Z Z (st (ay O Z Z Z Z Z) Z (js Z (jn (ae (ac (jd Z (bq [(66,_),(5,_),(4,_),(3,_),(2,_),(0,_)] [] ⟨Z,Z,Z,Z,Z,Z,tv⟩ Z (lo Z (Gw h1 h2) 68000 Z (jb Z (bq [(69,_),(5,_),(4,_),(3,_),(2,_),(0,_)] [] ⟨Z,Z,Z,Z,Z,Z,tv⟩ Z (ar 5 Z Z Z (fun hx=>nz hx Z (nz hx Z (nz hx Z (bj O hx Z Z Z Z (Ee (t:=s.sum) h1 h2) (.cons (.c (.sub Z)) .nil) Z Z Z Z Z Z Z (B0:=74000) Z (nz hx Z (AN.nil)))))) Z Z (st (ay O Z Z Z Z Z) Z (js Z (bq [(76,_),(5,_),(4,_),(3,_),(2,_),(0,_)] [] ⟨Z,Z,Z,Z,Z,Z,tv⟩ Z (ar 5 Z Z Z (fun hx=>nz hx Z (nz hx Z (nz hx Z (bj O hx Z Z Z Z (Ee (t:=s.index) h1 h2) (.cons (.c (.sub Z)) .nil) Z Z Z Z Z Z Z (B0:=81000) Z (nz hx Z (AN.nil)))))) Z Z (st (ay O Z Z Z Z Z) Z (js Z (bq [(83,_),(5,_),(4,_),(3,_),(2,_),(0,_)] [] ⟨Z,Z,Z,Z,Z,Z,tv⟩ Z (ar 6 Z Z Z (fun hx=>nz hx Z (nz hx Z (nz hx Z (nz hx Z (bj O hx Z Z Z Z (Ei h1 h2) (ab Z) Z Z Z Z Z Z Z (B0:=89000) Z (nz hx Z (AN.nil))))))) Z Z (st (ay O Z Z Z Z Z) Z (jn (zc Z (fun z90=>?_) (fun z90=>?_)))))))))))))))))))))))))
 refine ac (js Z (jr ?_))
 refine eR Z ?_
 rw[bi,show rv s=true from z90];rfl
 refine af (ae (ac (jc Z (bq [(93,_),(5,_),(4,_),(2,_),(0,_)] [] ⟨Z,Z,Z,Z,Z,tv⟩ Z (ar 5 Z Z Z (fun hx=>nz hx Z (nz hx Z (nz hx Z (bj O hx Z Z Z Z (G6 (t:=s.sum) h1 h2) (.cons (.c (.sub Z)) .nil) Z Z Z Z Z Z Z (B0:=98000) Z (nz hx Z (AN.nil)))))) Z Z (st (aq O Z Z Z Z Z) Z (js Z (bq [(100,_),(5,_),(4,_),(2,_),(0,_)] [] ⟨Z,Z,Z,Z,Z,tv⟩ Z (ar 9 Z Z Z (fun hx=>nz hx Z (nz hx Z (nz hx Z (p8 5 Z Z Z Z (fun hx'=>nz hx' Z (nz hx' Z (nz hx' Z (bj O hx' Z Z Z Z (G6 (t:=s.index) h1 h2) (.cons (.c (.sub Z)) .nil) Z Z Z Z Z Z Z (B0:=108000) Z (nz hx' Z (AN.nil)))))) Z Z (ny hx (aq O Z Z Z Z Z) Z (AN.nil)))))) Z Z (st (ay O Z Z Z Z Z) Z (js Z (bq [(111,_),(5,_),(2,_),(0,_)] [] ⟨Z,Z,Z,Z,tv⟩ Z (ar 13 Z Z Z (fun hx=>nz hx Z (nz hx Z (nz hx Z (nz hx Z (nz hx Z (nz hx Z (p8 6 Z Z Z Z (fun hx'=>nz hx' Z (nz hx' Z (nz hx' Z (nz hx' Z (ny hx' (bP O Z Z Z Z Z Z Z Z) Z (nz hx' Z (AN.nil))))))) Z Z (ny hx (aq O Z Z Z Z Z) Z (AN.nil))))))))) Z Z (st (ay O Z Z Z Z Z) Z (jn (zc Z (fun z125=>?_) (fun z125=>?_)))))))))))))))))
 refine ac (js Z (jr ?_))
 refine eR Z ?_
 rw[bi,show rv s=false from z90,show x6 s=true from z125];rfl
 refine af (ae (ac (jb Z (bq [(127,_),(5,_),(2,_),(0,_)] [] ⟨Z,Z,Z,Z,tv⟩ Z (ar 6 Z Z Z (fun hx=>nz hx Z (nz hx Z (nz hx Z (nz hx Z (bj O hx Z Z Z Z (Gw h1 h2) (ab Z) Z Z Z Z Z Z Z (B0:=133000) Z (nz hx Z (AN.nil))))))) Z Z (st (aq O Z Z Z Z Z) Z (js Z (bq [(135,_),(5,_),(2,_),(0,_)] [] ⟨Z,Z,Z,Z,tv⟩ Z (ar 9 Z Z Z (fun hx=>nz hx Z (nz hx Z (nz hx Z (p8 5 Z Z Z Z (fun hx'=>nz hx' Z (nz hx' Z (nz hx' Z (nz hx' Z (nz hx' Z (AN.nil)))))) Z Z (ny hx (aq O Z Z Z Z Z) Z (AN.nil)))))) Z Z (st (ay O Z Z Z Z Z) Z (jn (zc Z (fun z145=>?_) (fun z145=>?_)))))))))))))
 refine ac (js Z (jr ?_))
 refine eR Z ?_
 rw[bi,show rv s=false from z90,show x6 s=false from z125,show y7 s=true from z145];rfl
 refine af (ae (ac (jd Z (js Z (jn (zc Z (fun z150=>?_) (fun z150=>?_)))))))
 refine ac (jd Z (bq [(154,_),(2,_),(0,_)] [] ⟨Z,Z,Z,tv⟩ Z (lo Z (Gw h1 h2) 156000 Z (js Z (jr ?_)))))
 refine eR Z ?_
 rw[bi,show rv s=false from z90,show x6 s=false from z125,show y7 s=false from z145,z150];rfl
 refine af (ac (jd Z (jb Z (jr ?_))))
 refine eR Z ?_
 rw[bi,show rv s=false from z90,show x6 s=false from z125,show y7 s=false from z145,z150];rfl
theorem J9{b:List Sm}:MQ h1 h2 50 [.c (.d (kv b))] [] (Plain (eB (ku b))):=by
 refine aB ?_ Z
 refine jB 24 h1 h2 Tryz.func50 Z fun O hF=>?_
 have hl:b.length≤L:=by simpa[As.fact,A.fact,M.fact,D.fact,Ds.fact]using hF.1.1
 refine ac (js Z (jn (ae (ac (js Z (cW Z (lo Z (Gw h1 h2) 7000 Z (js Z (jn (zc Z (fun z7=>?_) (fun z7=>?_)))))))))))
 try simp only[bo]at z7
 refine ac (js Z (jr ?_))
 refine eR Z ?_
 rw[ku,show(decide ((1:Int)≤b.length)&&decide ((b.length:Int)≤30))=false from z7,Bool.false_and]
 try simp only[bo]at z7
 refine af (ae (ac (js Z (jn (ak (ap (X:=Nat) (fun i=>⟨[(0,.c (.d (kv b))),(3,eI i)],[]⟩) (fun i=>i≤b.length∧∀j (h:j<b.length),j<i→bi b[j]=true) (fun i=>b.length-i) 0 (Ent.env ⟨Z,Z,tv⟩) ?_ (fun i hi=>?_)))))))
 exact⟨cG _,fun j h hj=>absurd hj (Nat.not_lt_zero j)⟩
 refine ae (ac (jb Z (cW Z (js Z (jn (zc Z (fun z11=>?_) (fun z11=>?_)))))))
 try simp only[bo]at z11
 refine af (ae (ak (ac (jb Z (nC Z Z (lo Z (J1 h1 h2) 18000 Z (js Z (jn (zc Z (fun z18=>?_) (fun z18=>?_))))))))))
 try simp only[bo]at z18
 refine ac (js Z (jr ?_))
 refine eR Z ?_
 rw[Int.toNat_natCast,aw (by omega)]at z18
 rw[ku,iS i (by omega) z18,Bool.false_and,Bool.and_false]
 try simp only[bo]at z18
 refine af (ag (js Z (ji Z (js Z (jn ?_)))))
 refine⟨i+1,Ent.env ⟨Z,Z,tv⟩,⟨by omega,fun j h hj=>?_⟩,by omega⟩
 by_cases e:j=i
 subst e;rw[Int.toNat_natCast,aw h]at z18;exact z18
 exact hi.2 j h (by omega)
 try simp only[bo]at z11
 refine aR (ac (js Z (lo Z (J8 (k:=0) h1 h2 (cG _)) 21000 Z (js Z (cW Z (jb Z (jr ?_)))))))
 refine eR Z ?_
 rw[ku,show(decide ((1:Int)≤b.length)&&decide ((b.length:Int)≤30))=true from z7,jY (fun j hj=>hi.2 j hj (by omega)),Bool.true_and,Bool.true_and]
variable{p:Pm}
theorem IY:MQ h1 h2 27 [ptr p.data] [] (Plain (eB (gQ p))):=by
 refine aB ?_ Z
 refine jB 22 h1 h2 Tryz.func27 Z fun O hF=>?_
 refine ac (js Z (aN (jd Z (bq [(6,_),(2,_),(0,_)] [] ⟨Z,Z,Z,tv⟩ Z (lo Z (Ei h1 h2) 8000 Z (js Z (bq [(8,_),(2,_),(0,_)] [] ⟨Z,Z,Z,tv⟩ Z (ar 5 Z Z Z (fun hx=>nz hx Z (nz hx Z (nz hx Z (nz hx Z (bj O hx Z Z Z Z (J9 h1 h2) (ab Z) Z Z Z Z Z Z Z (B0:=14000) Z (AN.nil)))))) Z Z (st (aq O Z Z Z Z Z) Z (js Z (bq [(15,_),(2,_),(0,_)] [] ⟨Z,Z,Z,tv⟩ Z (ar 5 Z Z Z (fun hx=>nz hx Z (nz hx Z (nz hx Z (nz hx Z (bj O hx Z Z Z Z (Ei h1 h2) (ab Z) Z Z Z Z Z Z Z (B0:=21000) Z (AN.nil)))))) Z Z (st (aq O Z Z Z Z Z) Z (js Z (jr ?_)))))))))))))))
 refine eR Z ?_
 rw[Bool.cond_false_right,Bool.cond_false_right,Bool.and_assoc];rfl
variable{vars:List Int}
theorem J7{cells:List Int}(h:t.term=true)(hv:cP vars 4=true):MQ h1 h2 44 [ptr t.cells,ptr [cK vars,cK cells]] [] (Plain (eI (aH t vars))):=by
 refine aB ?_ Z
 refine jB 38 h1 h2 Tryz.func44 Z fun O hF=>?_
 have ht:=qa h
 have hs:=fR hv
 have hlen:t.xs.length≤vars.length:=by omega
 refine ac (js Z (aN (jd Z (js Z (jn (ae (ac (js Z (jn (ak (ap (X:=Nat) (fun i=>⟨[(0,ptr t.cells),(1,ptr [cK vars,cK cells]),(5,eI (t.c+dI (t.xs.take i) (vars.take i))),(6,eI i)],[]⟩) (fun i=>i≤t.xs.length) (fun i=>t.xs.length-i) 0 (Ent.env ⟨Z,Z,by simp[dI,dA,aA],Z,tv⟩) ?_ (fun i hi=>?_))))))))))))
 exact cG _
 refine ae (ac (jd Z (js Z (cW Z (js Z (jn (zc Z (fun z17=>?_) (fun z17=>?_))))))))
 try simp only[bo]at z17
 refine af (ae (ak ?_))
 have hd:=sW ht.2.1 hs.1 hi (Nat.le_trans hi hlen)
 have hds:=kU (xs:=t.xs) (ys:=vars) (i:=i) (by omega) (by omega)
 have hn:=IZ.1 ht.1
 have hm:=sR (IZ.1 (List.all_eq_true.1 ht.2.1 _ (List.getElem_mem (show i<t.xs.length by omega)))) (I2.1 (List.all_eq_true.1 hs.1 _ (List.getElem_mem (show i<vars.length by omega))))
 rw[←aw (show i<t.xs.length by omega),←aw (show i<vars.length by omega)]at hm
 refine fJ [_,_,_,_,_,_,_,_,_,_,_,_,_,_,_,_,_,_] [p0,p0,pz [1],pz [1,2],pz [1,2,3],p0,pz (rg 1 5),pz (rg 1 6),p0,pz [8],pz [8,9],pz [8,9,10],p0,pz (rg 8 5),pz (rg 8 6),pz (rg 1 14),pz (rg 0 16),pz (rg 0 17)] [] [_] (k4 Z (kc Z (kc Z (ai (vD Z) (k4 Z (kc Z (kc Z (ai (vD Z) (kc Z (ai (aS O Z Z (Int.le_trans (by decide) hm.1) (Int.le_trans hm.2 (by decide))) (ai (aS O Z Z (show(-9223372036854775808:Int)≤t.c+dI (t.xs.take i) (vars.take i)+t.xs.getD i default*vars.getD i default by omega) (show t.c+dI (t.xs.take i) (vars.take i)+t.xs.getD i default*vars.getD i default≤9223372036854775807 by omega)) (kc Z trivial)))))))))))) ?_
 refine iU (Ent.to (e':=[(5,_),(17,_),(0,_),(1,_),(6,_)]) (H':=[]) ⟨Z,Z,Z,Z,Z,tv⟩ Z) (ag (js Z (ji Z (js Z (jn ?_)))))
 refine⟨i+1,Ent.to ⟨Z,Z,?_,Z,tv⟩ Z,by omega,by omega⟩
 exact congrArg (fun z=>some (eI z)) (by rw[hds];show t.c+dI (t.xs.take i) (vars.take i)+t.xs.getD i default*vars.getD i default=_;omega)
 try simp only[bo]at z17
 refine aR (ac (jb Z (jr ?_)))
 refine eR Z ?_
 obtain rfl:i=t.xs.length:=by omega
 rw[pF (cQ _)];rfl
theorem kE(h:t.term=true)(hv:cP vars 4=true):MQ h1 h2 90 [.agg (t.cells.map .d),bO vars] [] (Plain (eI (aH t vars))):=by
 refine aB ?_ Z
 refine jB 28 h1 h2 Tryz.func90 Z fun O hF=>?_
 have ht:=qa h
 have hs:=fR hv
 have hlen:t.xs.length≤vars.length:=by omega
 refine ac (jx Z (js Z (aN (jc Z (jn (ae (ac (jb Z (cW Z (js Z (jn (ak (ap (X:=Nat) (fun i=>⟨[(1,bO vars),(5,eI (t.c+dI (t.xs.take i) (vars.take i))),(11,.c (.d (cK t.xs))),(12,eI t.xs.length),(13,eI i)],[]⟩) (fun i=>i≤t.xs.length) (fun i=>t.xs.length-i) 0 (ah [] Z Z ⟨Z,by simp[dI,dA,aA],Z,by simp[aA],Z,tv⟩ Z) ?_ (fun i hi=>?_))))))))))))))
 exact cG _
 refine ac (js Z (jn (ae (zc Z (fun z14=>?_) (fun z14=>?_)))))
 try simp only[bo]at z14
 refine af (ae (ak (ac (js Z (nC Z Z (jc Z (jn (ag (jd Z (nC Z Z (js Z ?_)))))))))))
 have hd:=sW ht.2.1 hs.1 hi (Nat.le_trans hi hlen)
 have hds:=kU (xs:=t.xs) (ys:=vars) (i:=i) (by omega) (by omega)
 have hn:=IZ.1 ht.1
 have hm:=sR (IZ.1 (List.all_eq_true.1 ht.2.1 _ (List.getElem_mem (show i<t.xs.length by omega)))) (I2.1 (List.all_eq_true.1 hs.1 _ (List.getElem_mem (show i<vars.length by omega))))
 rw[←aw (show i<t.xs.length by omega),←aw (show i<vars.length by omega)]at hm
 refine st (aS O Z Z (Int.le_trans (by decide) hm.1) (Int.le_trans hm.2 (by decide))) Z (st (aS O Z Z (show(-9223372036854775808:Int)≤t.c+dI (t.xs.take i) (vars.take i)+t.xs.getD i default*vars.getD i default by omega) (show t.c+dI (t.xs.take i) (vars.take i)+t.xs.getD i default*vars.getD i default≤9223372036854775807 by omega)) Z (js Z (jn (ag (ji Z (js Z (jn ?_)))))))
 refine⟨i+1,Ent.to ⟨Z,?_,Z,Z,Z,tv⟩ Z,by omega,by omega⟩
 exact congrArg (fun z=>some (eI z)) (by rw[hds];show t.c+dI (t.xs.take i) (vars.take i)+t.xs.getD i default*vars.getD i default=_;omega)
 try simp only[bo]at z14
 refine aR (ac (jb Z (jr ?_)))
 refine eR Z ?_
 obtain rfl:i=t.xs.length:=by omega
 rw[pF (cQ _)];rfl
abbrev cR(t:Tm):A:=.agg (t.cells.map .d)
def eW(lo hi x:Int):Bool:=decide (lo≤x)&&decide (x≤hi)

theorem pQ:MQ h1 h2 55 [eI x,eI lo,eI hi] [] (Plain (eB (eW lo hi x))):=by
 refine aB ?_ Z
 refine jB 15 h1 h2 Tryz.func55 Z fun O hF=>?_
 refine ac (js Z (aN (jd Z (ar 3 Z Z Z (fun hx=>nz hx Z (nz hx Z (nz hx Z (AN.nil)))) Z Z (st (aq O Z Z Z Z Z) Z (js Z (jr ?_)))))))
 refine eR Z ?_
 rw[Bool.cond_false_right];rfl
theorem vA:MQ h1 h2 86 [bO xs,eI lo,eI hi] [] (Plain (eB (xs.all (eW lo hi)))):=by
 refine aB ?_ Z
 refine jB 21 h1 h2 Tryz.func86 Z fun O hF=>?_
 have hl:xs.length≤L:=by simpa[As.fact,A.fact,M.fact,D.fact,Ds.fact]using hF.1.1
 refine ac (js Z (jn (ae (ac (js Z (cW Z (js Z (jn (ak (ap (X:=Nat) (fun i=>⟨[(1,eI lo),(2,eI hi),(9,bO xs),(10,eI xs.length),(11,eI i)],[]⟩) (fun i=>i≤xs.length∧∀j (h:j<xs.length),j<i→eW lo hi xs[j]=true) (fun i=>xs.length-i) 0 (Ent.env ⟨Z,Z,Z,Z,Z,tv⟩) ?_ (fun i hi=>?_)))))))))))
 exact⟨cG _,fun j h hj=>absurd hj (Nat.not_lt_zero j)⟩
 refine ac (js Z (jn (ae (zc Z (fun z12=>?_) (fun z12=>?_)))))
 try simp only[bo]at z12
 refine af (ae (ak (ac (nC Z Z (jb Z (aN (jc Z (lo Z (pQ h1 h2) 19000 Z (js Z (jn (zc Z (fun z19=>?_) (fun z19=>?_))))))))))))
 try simp only[bo]at z19
 refine ac (js Z (jr ?_))
 refine eR Z ?_
 rw[Int.toNat_natCast,aw (by omega)]at z19
 rw[iS i (by omega) z19]
 try simp only[bo]at z19
 refine af (ag (ji Z (js Z (jn ?_))))
 refine⟨i+1,Ent.env ⟨Z,Z,Z,Z,Z,tv⟩,⟨by omega,fun j h hj=>?_⟩,by omega⟩
 by_cases e:j=i
 subst e;rw[Int.toNat_natCast,aw h]at z19;exact z19
 exact hi.2 j h (by omega)
 try simp only[bo]at z12
 refine aR (ac (js Z (jr ?_)))
 refine eR Z ?_
 rw[jY (fun j hj=>hi.2 j hj (by omega))]
theorem JW:MQ h1 h2 136 [eI x] [] (Plain (eB (num x))):=by
 refine aB ?_ Z
 refine jB 5 h1 h2 Tryz.func136 Z fun O hF=>?_
 refine ac (js Z (aN (js Z (lo Z (pQ h1 h2) 5000 Z (js Z (jr ?_))))))
 refine eR Z ?_
 first|rfl|skip
theorem Cl(t:Tm):(bif bif bif decide ((t.xs.length:Int)≤10)then num t.c else false then t.xs.all num else false then bif decide ((t.xs.length:Int)=0)then true else !decide (t.xs.getD ((t.xs.length:Int)-1).toNat default=0)else false)=t.ok:=by
 unfold Tm.ok
 cases num t.c<;>cases t.xs.all num<;>simp
 by_cases h0:t.xs=[]
 simp[h0]
 have h1:0<t.xs.length:=List.length_pos_iff.2 h0
 by_cases h2:(t.xs.length:Int)≤10
 have h3: ¬(10:Int)<t.xs.length:=by omega
 simp[h0,h1,h2,h3]
 have h3:(10:Int)<t.xs.length:=by omega
 simp[h2,h3]
theorem mF:MQ h1 h2 95 [cR t] [] (Plain (eB t.ok)):=by
 refine aB ?_ Z
 refine jB 32 h1 h2 Tryz.func95 Z fun O hF=>?_
 have hl:t.xs.length≤L:=by simpa[As.fact,A.fact,M.fact,Ms.fact,D.fact,Ds.fact]using hF.1.2.1.1
 refine ac (jx Z (js Z (aN (jb Z (cW Z (js Z (jf [3,2,1,0] Z (aN (jc Z (jf [9,3,2,1,0] Z (ar 3 Z Z Z (fun hx=>nz hx Z (nz hx Z (bj O hx Z Z Z Z (JW h1 h2) (ab Z) Z Z Z Z Z Z Z (B0:=13000) Z (AN.nil)))) Z Z (st (aq O Z Z Z Z Z) Z (js Z (jf [14,3,2,1,0] Z (ar 3 Z Z Z (fun hx=>nz hx Z (nz hx Z (bj O hx Z Z Z Z (vA h1 h2) (ab Z) Z Z Z Z Z Z Z (B0:=18000) Z (AN.nil)))) Z Z (st (aq O Z Z Z Z Z) Z (js Z (jf [19,3,2,1,0] Z (ar 11 Z Z Z (fun hx=>nz hx Z (nz hx Z (nz hx Z (p8 7 Z Z Z Z (fun hx'=>nz hx' Z (nz hx' Z (nz hx' Z (ny hx' (aS O Z Z (by first|omega|(simp only[bo]at *;omega)) (by first|omega|(simp only[bo]at *;omega))) Z (ny hx' (bw O Z Z Z Z Z Z Z Z (by first|omega|(simp only[bo]at *;omega)) (mP (by first|omega|(simp only[bo]at *;omega)) (by first|omega|(simp only[bo]at *;omega)))) Z (nz hx' Z (nz hx' Z (AN.nil)))))))) Z Z (ny hx (ay O Z Z Z Z Z) Z (AN.nil)))))) Z Z (st (aq O Z Z Z Z Z) Z (js Z (jf [2,1,0] Z (jr ?_)))))))))))))))))))))))
 refine eR Z ?_
 exact congrArg eB (Cl t)
theorem t3:MQ h1 h2 134 [cR t] [] (Plain (eB t.term)):=by
 refine aB ?_ Z
 refine jB 11 h1 h2 Tryz.func134 Z fun O hF=>?_
 refine ac (jx Z (js Z (aN (js Z (lo Z (mF h1 h2) 5000 Z (js Z (ar 4 Z Z Z (fun hx=>nz hx Z (nz hx Z (ny hx (bP O Z Z Z Z Z Z Z Z) Z (nz hx Z (AN.nil))))) Z Z (st (aq O Z Z Z Z Z) Z (js Z (jr ?_))))))))))
 refine eR Z ?_
 rw[Bool.cond_false_right];rfl
theorem Eb:MQ h1 h2 163 [cR t] [] (Plain (eB t.zero)):=by
 refine aB ?_ Z
 refine jB 12 h1 h2 Tryz.func163 Z fun O hF=>?_
 refine ac (jx Z (js Z (aN (jd Z (ar 4 Z Z Z (fun hx=>nz hx Z (nz hx Z (ny hx (bP O Z Z Z Z Z Z Z Z) Z (nz hx Z (AN.nil))))) Z Z (st (aq O Z Z Z Z Z) Z (js Z (jr ?_))))))))
 refine eR Z ?_
 rw[Bool.cond_false_right];rfl
theorem JX:MQ h1 h2 133 [cR t] [] (Plain (eB !t.term)):=by
 refine aB ?_ Z
 refine jB 6 h1 h2 Tryz.func133 Z fun O hF=>?_
 refine ac (jx Z (js Z (aN (js Z (lo Z (t3 h1 h2) 5000 Z (jb Z (jr ?_)))))))
 refine eR Z ?_
 first|rfl|skip
def vy(ts:List Tm):Int:=if ts.all Tm.term=true then -1 else(ts.findIdx fun t=>!t.term:Nat)
theorem Br{ts:List Tm}(h: ∀j (hj:j<ts.length),Tm.term ts[j]=true):vy ts= -1:=by rw[vy,if_pos (jY h)]
theorem CN{ts:List Tm}{i:Nat}(hi:i<ts.length)(h: ∀j (hj:j<ts.length),j<i→Tm.term ts[j]=true)(hn:Tm.term ts[i]=false):vy ts=i:=by
 rw[vy,if_neg (by rw[iS i hi hn];decide)]
 exact congrArg Nat.cast ((List.findIdx_eq hi).2 ⟨by simp[hn],fun j hj=>by simp[h j (by omega) hj]⟩)
theorem Bq{ts:List Tm}:decide (vy ts≥0)= !ts.all Tm.term:=by
 unfold vy
 cases h:ts.all Tm.term<;>simp
theorem JR:MQ h1 h2 162 [bM ts,.c (.fn 133 [])] [] (Plain (eI (vy ts))):=by
 refine aB ?_ Z
 refine jB 19 h1 h2 Tryz.func162 Z fun O hF=>?_
 have hl:ts.length≤L:=by simpa[As.fact,A.fact,M.fact,D.fact,Ds.fact]using hF.1.1
 refine ac (js Z (jn (ae (ac (js Z (cW Z (js Z (jn (ak (ap (X:=Nat) (fun i=>⟨[(0,bM ts),(1,.c (.fn 133 [])),(7,eI ts.length),(8,eI i)],[]⟩) (fun i=>i≤ts.length∧∀j (h:j<ts.length),j<i→Tm.term ts[j]=true) (fun i=>ts.length-i) 0 (Ent.env ⟨Z,Z,Z,Z,tv⟩) ?_ (fun i hi=>?_)))))))))))
 exact⟨cG _,fun j h hj=>absurd hj (Nat.not_lt_zero j)⟩
 refine ac (js Z (jn (ae (zc Z (fun z9=>?_) (fun z9=>?_)))))
 try simp only[bo]at z9
 refine af (ae (ak (ac (jb Z (aN (jc Z (nC Z Z (js Z (lo Z (JX h1 h2) 17000 Z (jn (zc Z (fun z16=>?_) (fun z16=>?_))))))))))))
 try simp only[bo]at z16
 refine ac (jb Z (jr ?_))
 refine eR Z ?_
 rw[Int.toNat_natCast,aw (by omega)]at z16
 rw[CN (by omega) hi.2 z16]
 try simp only[bo]at z16
 refine af (ag (ji Z (js Z (jn ?_))))
 refine⟨i+1,Ent.env ⟨Z,Z,Z,Z,tv⟩,⟨by omega,fun j h hj=>?_⟩,by omega⟩
 by_cases e:j=i
 subst e;rw[Int.toNat_natCast,aw h]at z16;exact z16
 exact hi.2 j h (by omega)
 try simp only[bo]at z9
 refine aR (ac (js Z (jr ?_)))
 refine eR Z ?_
 rw[Br (fun j hj=>hi.2 j hj (by omega))]
theorem JY:MQ h1 h2 132 [bM ts,.c (.fn 133 [])] [] (Plain (eB !ts.all Tm.term)):=by
 refine aB ?_ Z
 refine jB 9 h1 h2 Tryz.func132 Z fun O hF=>?_
 refine ac (js Z (aN (jb Z (da O Z Z Z Z (JR h1 h2) (.cons (.c .d) (.cons (.c (.fn .nil)) .nil)) Z Z Z Z Z (B0:=8000) Z (jb Z (jr ?_))))))
 refine eR Z ?_
 exact congrArg eB Bq
theorem Eg:MQ h1 h2 85 [bM ts,eI n] [] (Plain (eB (terms ts n))):=by
 refine aB ?_ Z
 refine jB 14 h1 h2 Tryz.func85 Z fun O hF=>?_
 refine ac (js Z (aN (js Z (cW Z (jc Z (ar 3 Z Z Z (fun hx=>nz hx Z (bj O hx Z Z Z Z (JY h1 h2) (.cons (.c .d) (.cons (.c (.fn .nil)) .nil)) Z Z Z Z Z Z Z (B0:=12000) Z (nz hx Z (AN.nil)))) Z Z (st (aq O Z Z Z Z Z) Z (js Z (jr ?_)))))))))
 refine eR Z ?_
 rw[Bool.cond_false_right,Bool.not_not,Bool.and_comm];rfl
theorem G0:MQ h1 h2 164 [eI x] [] (Plain (eB (eW 0 3 x))):=by
 refine aB ?_ Z
 refine jB 5 h1 h2 Tryz.func164 Z fun O hF=>?_
 refine ac (js Z (aN (js Z (lo Z (pQ h1 h2) 5000 Z (js Z (jr ?_))))))
 refine eR Z ?_
 first|rfl|skip
theorem JS:MQ h1 h2 165 [eI x] [] (Plain (eB (eW 0 3 x))):=by
 refine aB ?_ Z
 refine jB 5 h1 h2 Tryz.func165 Z fun O hF=>?_
 refine ac (js Z (aN (js Z (lo Z (pQ h1 h2) 5000 Z (js Z (jr ?_))))))
 refine eR Z ?_
 first|rfl|skip
theorem G7:MQ h1 h2 92 [eI x] [] (Plain (eB (mB x))):=by
 refine aB ?_ Z
 refine jB 5 h1 h2 Tryz.func92 Z fun O hF=>?_
 refine ac (js Z (aN (js Z (lo Z (pQ h1 h2) 5000 Z (js Z (jr ?_))))))
 refine eR Z ?_
 first|rfl|skip
def ch(s:Sm):Int:=if bi s=true then bl s.kind else -1

theorem cg{t:Tm}(h:t.zero=true):t.term=true:=by
 simp only[Tm.zero,bC,decide_eq_true_eq]at h
 obtain⟨h1,h2⟩:=h
 have h3:t.xs=[]:=List.eq_nil_of_length_eq_zero (by omega)
 simp[Tm.term,Tm.ok,num,h1,h3]
theorem jW{ts:List Tm}(h:decide ((ts.length:Int)=0)=true):terms ts 6=true:=by
 have h3:ts=[]:=List.eq_nil_of_length_eq_zero (by have:=bt h;omega)
 subst h3;rfl
theorem jV{ts:List Tm}:decide ((0:Int)<ts.length)= !decide ((ts.length:Int)=0):=by
 by_cases h:(ts.length:Int)=0
 simp[h]
 have:(0:Int)<ts.length:=by omega
 simp only[h,this,decide_true,decide_false,Bool.not_false]
def sH(n8 st it tf su sz ix iz k8 fp na v3 v0 k5 e3 e0:Bool):Bool:=
  bif (bif (bif (bif !n8 then true else !st)then true else !it)then true else !tf)then false
  else bif (bif (bif (bif !su then !sz else false)then true else(bif !ix then !iz else false))then true else(bif !k8 then fp else false))then false
  else bif (bif (bif na then !v3 else false)then true else(bif !na then !v0 else false))then false
  else bif k5 then e3 else e0
theorem kb0: ∀st it tf sz iz f0 v3 v0 e3 e0:Bool,(sz=true→st=true)→(iz=true→it=true)→(f0=true→tf=true)→sH true st it tf false sz false iz false (!f0) false v3 v0 false e3 e0=(bif (bif (bif (bif v0 then e0 else false)then sz else false)then iz else false)then f0 else false):=by decide
theorem GV(s:Sm)(hk:decide (s.kind=0)=true):bi s=(bif (bif (bif (bif decide (s.var=0)then decide (s.event=0)else false)then s.sum.zero else false)then s.index.zero else false)then decide ((s.facts.length:Int)=0)else false):=by
 rw[←kb0 s.sum.term s.index.term (terms s.facts 6) s.sum.zero s.index.zero (decide ((s.facts.length:Int)=0)) (eW 0 3 s.var) (decide (s.var=0)) (eW 0 3 s.event) (decide (s.event=0)) cg cg jW,←jV]
 cases s with
 | mk kind var event sum index facts=>
  have hk:=bt hk
  simp only at hk
  subst hk
  rfl
theorem kb1: ∀st it tf sz iz f0 v3 v0 e3 e0:Bool,(sz=true→st=true)→(iz=true→it=true)→(f0=true→tf=true)→sH true st it tf false sz false iz false (!f0) false v3 v0 false e3 e0=(bif (bif (bif (bif v0 then e0 else false)then sz else false)then iz else false)then f0 else false):=by decide
theorem GU(s:Sm)(hk:decide (s.kind=1)=true):bi s=(bif (bif (bif (bif decide (s.var=0)then decide (s.event=0)else false)then s.sum.zero else false)then s.index.zero else false)then decide ((s.facts.length:Int)=0)else false):=by
 rw[←kb1 s.sum.term s.index.term (terms s.facts 6) s.sum.zero s.index.zero (decide ((s.facts.length:Int)=0)) (eW 0 3 s.var) (decide (s.var=0)) (eW 0 3 s.event) (decide (s.event=0)) cg cg jW,←jV]
 cases s with
 | mk kind var event sum index facts=>
  have hk:=bt hk
  simp only at hk
  subst hk
  rfl
theorem kb2: ∀st it tf sz iz f0 v3 v0 e3 e0:Bool,(sz=true→st=true)→(iz=true→it=true)→(f0=true→tf=true)→sH true st it tf true sz false iz false (!f0) true v3 v0 false e3 e0=(bif (bif (bif (bif v3 then e0 else false)then st else false)then iz else false)then f0 else false):=by decide
theorem GT(s:Sm)(hk:decide (s.kind=2)=true):bi s=(bif (bif (bif (bif eW 0 3 s.var then decide (s.event=0)else false)then s.sum.term else false)then s.index.zero else false)then decide ((s.facts.length:Int)=0)else false):=by
 rw[←kb2 s.sum.term s.index.term (terms s.facts 6) s.sum.zero s.index.zero (decide ((s.facts.length:Int)=0)) (eW 0 3 s.var) (decide (s.var=0)) (eW 0 3 s.event) (decide (s.event=0)) cg cg jW,←jV]
 cases s with
 | mk kind var event sum index facts=>
  have hk:=bt hk
  simp only at hk
  subst hk
  rfl
theorem kb3: ∀st it tf sz iz f0 v3 v0 e3 e0:Bool,(sz=true→st=true)→(iz=true→it=true)→(f0=true→tf=true)→sH true st it tf false sz true iz false (!f0) true v3 v0 false e3 e0=(bif (bif (bif (bif v3 then e0 else false)then sz else false)then it else false)then f0 else false):=by decide
theorem GS(s:Sm)(hk:decide (s.kind=3)=true):bi s=(bif (bif (bif (bif eW 0 3 s.var then decide (s.event=0)else false)then s.sum.zero else false)then s.index.term else false)then decide ((s.facts.length:Int)=0)else false):=by
 rw[←kb3 s.sum.term s.index.term (terms s.facts 6) s.sum.zero s.index.zero (decide ((s.facts.length:Int)=0)) (eW 0 3 s.var) (decide (s.var=0)) (eW 0 3 s.event) (decide (s.event=0)) cg cg jW,←jV]
 cases s with
 | mk kind var event sum index facts=>
  have hk:=bt hk
  simp only at hk
  subst hk
  rfl
theorem kb4: ∀st it tf sz iz f0 v3 v0 e3 e0:Bool,(sz=true→st=true)→(iz=true→it=true)→(f0=true→tf=true)→sH true st it tf true sz true iz false (!f0) false v3 v0 false e3 e0=(bif (bif (bif (bif v0 then e0 else false)then st else false)then it else false)then f0 else false):=by decide
theorem GR(s:Sm)(hk:decide (s.kind=4)=true):bi s=(bif (bif (bif (bif decide (s.var=0)then decide (s.event=0)else false)then s.sum.term else false)then s.index.term else false)then decide ((s.facts.length:Int)=0)else false):=by
 rw[←kb4 s.sum.term s.index.term (terms s.facts 6) s.sum.zero s.index.zero (decide ((s.facts.length:Int)=0)) (eW 0 3 s.var) (decide (s.var=0)) (eW 0 3 s.event) (decide (s.event=0)) cg cg jW,←jV]
 cases s with
 | mk kind var event sum index facts=>
  have hk:=bt hk
  simp only at hk
  subst hk
  rfl
theorem kb5: ∀st it tf sz iz f0 v3 v0 e3 e0:Bool,(sz=true→st=true)→(iz=true→it=true)→(f0=true→tf=true)→sH true st it tf false sz false iz false (!f0) false v3 v0 true e3 e0=(bif (bif (bif (bif v0 then e3 else false)then sz else false)then iz else false)then f0 else false):=by decide
theorem GQ(s:Sm)(hk:decide (s.kind=5)=true):bi s=(bif (bif (bif (bif decide (s.var=0)then eW 0 3 s.event else false)then s.sum.zero else false)then s.index.zero else false)then decide ((s.facts.length:Int)=0)else false):=by
 rw[←kb5 s.sum.term s.index.term (terms s.facts 6) s.sum.zero s.index.zero (decide ((s.facts.length:Int)=0)) (eW 0 3 s.var) (decide (s.var=0)) (eW 0 3 s.event) (decide (s.event=0)) cg cg jW,←jV]
 cases s with
 | mk kind var event sum index facts=>
  have hk:=bt hk
  simp only at hk
  subst hk
  rfl
theorem kb6: ∀st it tf sz iz f0 v3 v0 e3 e0:Bool,(sz=true→st=true)→(iz=true→it=true)→(f0=true→tf=true)→sH true st it tf true sz false iz false (!f0) false v3 v0 false e3 e0=(bif (bif (bif (bif v0 then e0 else false)then st else false)then iz else false)then f0 else false):=by decide
theorem GP(s:Sm)(hk:decide (s.kind=6)=true):bi s=(bif (bif (bif (bif decide (s.var=0)then decide (s.event=0)else false)then s.sum.term else false)then s.index.zero else false)then decide ((s.facts.length:Int)=0)else false):=by
 rw[←kb6 s.sum.term s.index.term (terms s.facts 6) s.sum.zero s.index.zero (decide ((s.facts.length:Int)=0)) (eW 0 3 s.var) (decide (s.var=0)) (eW 0 3 s.event) (decide (s.event=0)) cg cg jW,←jV]
 cases s with
 | mk kind var event sum index facts=>
  have hk:=bt hk
  simp only at hk
  subst hk
  rfl
theorem kb7: ∀st it tf sz iz f0 v3 v0 e3 e0:Bool,(sz=true→st=true)→(iz=true→it=true)→(f0=true→tf=true)→sH true st it tf true sz false iz false (!f0) false v3 v0 false e3 e0=(bif (bif (bif (bif v0 then e0 else false)then st else false)then iz else false)then f0 else false):=by decide
theorem GO(s:Sm)(hk:decide (s.kind=7)=true):bi s=(bif (bif (bif (bif decide (s.var=0)then decide (s.event=0)else false)then s.sum.term else false)then s.index.zero else false)then decide ((s.facts.length:Int)=0)else false):=by
 rw[←kb7 s.sum.term s.index.term (terms s.facts 6) s.sum.zero s.index.zero (decide ((s.facts.length:Int)=0)) (eW 0 3 s.var) (decide (s.var=0)) (eW 0 3 s.event) (decide (s.event=0)) cg cg jW,←jV]
 cases s with
 | mk kind var event sum index facts=>
  have hk:=bt hk
  simp only at hk
  subst hk
  rfl
theorem kb8: ∀st it tf sz iz f0 v3 v0 e3 e0:Bool,(sz=true→st=true)→(iz=true→it=true)→(f0=true→tf=true)→sH true st it tf true sz false iz true (!f0) false v3 v0 false e3 e0=(bif (bif (bif (bif v0 then e0 else false)then st else false)then iz else false)then tf else false):=by decide
theorem GN(s:Sm)(hk:decide (s.kind=8)=true):bi s=(bif (bif (bif (bif decide (s.var=0)then decide (s.event=0)else false)then s.sum.term else false)then s.index.zero else false)then terms s.facts 6 else false):=by
 rw[←kb8 s.sum.term s.index.term (terms s.facts 6) s.sum.zero s.index.zero (decide ((s.facts.length:Int)=0)) (eW 0 3 s.var) (decide (s.var=0)) (eW 0 3 s.event) (decide (s.event=0)) cg cg jW,←jV]
 cases s with
 | mk kind var event sum index facts=>
  have hk:=bt hk
  simp only at hk
  subst hk
  rfl
theorem JT{s:Sm}:MQ h1 h2 135 [aSm s] [] (Plain (eI (ch s))):=by
 refine aB ?_ Z
 refine jB 185 h1 h2 Tryz.func135 Z fun O hF=>?_
 refine ac (jx Z (js Z (jn (ae (fJ [_,_,_,_,_,_,_,_,_,_,_,_,_,_,_,_,_,_,_,_,_] [pn [] 0 2,pn [0] 0 2,pn [0,1] 0 2,pn [] 0 2,pn [3] 0 2,pn [3,4] 0 2,p0,pz [6],pe [6,7] 0,pn [] 0 1,pn [9] 0 1,pe (rg 6 5) 1,pn [] 0 2,pn [12] 0 2,pn [12,13] 0 2,pn [12,13,14] 0 2,pn ([0,1,2]++rg 6 6) 2 2,pn (rg 0 12++[16]) 2 2,pn (rg 0 12++[16,17]) 2 2,pn (rg 0 12++[16,17,18]) 2 2,pn (rg 0 20) 2 2] [8,11] [_,_,_] (ai (kc Z (kc Z (V Z))) (ai (kc Z (kc Z (V Z))) (ai (kc Z (kc Z (V Z))) (ai (kc Z (kc Z (V Z))) (ai (kc Z (kc Z (V Z))) (ai (kc Z (kc Z (V Z))) (kc Z (kc Z (ai (bg O (B0:=18000) Z Z Z Z (Eb h1 h2) (ab Z) Z Z Z Z Z) (ai (kc Z (V Z)) (ai (kc Z (V Z)) (ai (bg O (B0:=21000) Z Z Z Z (Eb h1 h2) (ab Z) Z Z Z Z Z) (ai (kc Z (kc Z (V Z))) (ai (kc Z (kc Z (V Z))) (ai (ai (bP O Z Z Z Z Z Z Z Z) (ai (bP O Z Z Z Z Z Z Z Z) (bP O Z Z Z Z Z Z Z Z))) (ai (kc Z (kc Z (V Z))) (k4 Z (kc Z trivial)))))))))))))))))) ?_)))))
 refine jw [7,6,5,4,3,2,1,0] Z (bJ ?_)
 refine ac (js Z (jn (ae (ac (jb Z (jn (ak (ac (jb Z (jn (zc Z (fun z27=>?_) (fun z27=>?_))))))))))))
 refine ac (jb Z (jf [30,28,26,25,8,7,6,5,4,3,2,1,0] Z (ar 1 Z Z Z (fun hx=>nz hx Z (AN.nil)) Z Z (st (aq O Z Z Z Z Z) Z (js Z (jf [33,28,26,25,8,7,6,5,4,3,2,1,0] Z (ar 1 Z Z Z (fun hx=>nz hx Z (AN.nil)) Z Z (st (aq O Z Z Z Z Z) Z (js Z (jf [36,28,26,25,8,7,6,5,4,3,2,1,0] Z (ar 1 Z Z Z (fun hx=>nz hx Z (AN.nil)) Z Z (st (aq O Z Z Z Z Z) Z (js Z (jf [39,28,26,25,8,7,6,5,4,3,2,1,0] Z (ar 1 Z Z Z (fun hx=>nz hx Z (AN.nil)) Z Z (st (aq O Z Z Z Z Z) Z (jf [41,28,26,25,8,7,6,5,4,3,2,1,0] Z (jn (zc Z (fun z41=>?_) (fun z41=>?_))))))))))))))))))))
 refine ag (js Z (jn (ac (jb Z (jf [2,28,26,25,7,6,5,4,3,1,0] Z (jr ?_))))))
 refine eR Z ?_
 rw[ch,GV s z27,z41]
 simp[bl,bt z27]
 refine af (ac (jb Z (jf [2,28,26,25,7,6,5,4,3,1,0] Z (jr ?_))))
 refine eR Z ?_
 rw[ch,GV s z27,z41]
 simp
 refine ac (jb Z (jf [42,28,26,25,8,7,6,5,4,3,2,1,0] Z (jn (zc Z (fun z42=>?_) (fun z42=>?_)))))
 refine ac (jb Z (jf [45,28,26,25,8,7,6,5,4,3,2,1,0] Z (ar 1 Z Z Z (fun hx=>nz hx Z (AN.nil)) Z Z (st (aq O Z Z Z Z Z) Z (js Z (jf [48,28,26,25,8,7,6,5,4,3,2,1,0] Z (ar 1 Z Z Z (fun hx=>nz hx Z (AN.nil)) Z Z (st (aq O Z Z Z Z Z) Z (js Z (jf [51,28,26,25,8,7,6,5,4,3,2,1,0] Z (ar 1 Z Z Z (fun hx=>nz hx Z (AN.nil)) Z Z (st (aq O Z Z Z Z Z) Z (js Z (jf [54,28,26,25,8,7,6,5,4,3,2,1,0] Z (ar 1 Z Z Z (fun hx=>nz hx Z (AN.nil)) Z Z (st (aq O Z Z Z Z Z) Z (jf [56,28,26,25,8,7,6,5,4,3,2,1,0] Z (jn (zc Z (fun z56=>?_) (fun z56=>?_))))))))))))))))))))
 refine ag (js Z (jn (ac (jb Z (jf [2,28,26,25,7,6,5,4,3,1,0] Z (jr ?_))))))
 refine eR Z ?_
 rw[ch,GU s z42,z56]
 simp[bl,bt z42]
 refine af (ac (jb Z (jf [2,28,26,25,7,6,5,4,3,1,0] Z (jr ?_))))
 refine eR Z ?_
 rw[ch,GU s z42,z56]
 simp
 refine ac (jb Z (jf [57,28,26,25,8,7,6,5,4,3,2,1,0] Z (jn (zc Z (fun z57=>?_) (fun z57=>?_)))))
 refine ac (jb Z (jf [60,28,26,25,8,7,6,5,4,3,2,1,0] Z (lo Z (G0 h1 h2) 62000 Z (js Z (jf [62,28,26,25,8,7,6,5,4,3,2,1,0] Z (ar 1 Z Z Z (fun hx=>nz hx Z (AN.nil)) Z Z (st (aq O Z Z Z Z Z) Z (js Z (jf [65,28,26,25,8,7,6,5,4,3,2,1,0] Z (ar 3 Z Z Z (fun hx=>nz hx Z (nz hx Z (bj O hx Z Z Z Z (t3 h1 h2) (ab Z) Z Z Z Z Z Z Z (B0:=69000) Z (AN.nil)))) Z Z (st (aq O Z Z Z Z Z) Z (js Z (jf [70,28,26,25,8,7,6,5,4,3,2,1,0] Z (ar 1 Z Z Z (fun hx=>nz hx Z (AN.nil)) Z Z (st (aq O Z Z Z Z Z) Z (js Z (jf [73,28,26,25,8,7,6,5,4,3,2,1,0] Z (ar 1 Z Z Z (fun hx=>nz hx Z (AN.nil)) Z Z (st (aq O Z Z Z Z Z) Z (jf [75,28,26,25,8,7,6,5,4,3,2,1,0] Z (jn (zc Z (fun z75=>?_) (fun z75=>?_)))))))))))))))))))))))
 refine ag (js Z (jn (ac (jb Z (jf [2,28,26,25,7,6,5,4,3,1,0] Z (jr ?_))))))
 refine eR Z ?_
 rw[ch,GT s z57,z75]
 simp[bl,bt z57]
 refine af (ac (jb Z (jf [2,28,26,25,7,6,5,4,3,1,0] Z (jr ?_))))
 refine eR Z ?_
 rw[ch,GT s z57,z75]
 simp
 refine ac (jb Z (jf [76,28,26,25,8,7,6,5,4,3,2,1,0] Z (jn (zc Z (fun z76=>?_) (fun z76=>?_)))))
 refine ac (jb Z (jf [79,28,26,25,8,7,6,5,4,3,2,1,0] Z (lo Z (G0 h1 h2) 81000 Z (js Z (jf [81,28,26,25,8,7,6,5,4,3,2,1,0] Z (ar 1 Z Z Z (fun hx=>nz hx Z (AN.nil)) Z Z (st (aq O Z Z Z Z Z) Z (js Z (jf [84,28,26,25,8,7,6,5,4,3,2,1,0] Z (ar 1 Z Z Z (fun hx=>nz hx Z (AN.nil)) Z Z (st (aq O Z Z Z Z Z) Z (js Z (jf [87,28,26,25,8,7,6,5,4,3,2,1,0] Z (ar 3 Z Z Z (fun hx=>nz hx Z (nz hx Z (bj O hx Z Z Z Z (t3 h1 h2) (ab Z) Z Z Z Z Z Z Z (B0:=91000) Z (AN.nil)))) Z Z (st (aq O Z Z Z Z Z) Z (js Z (jf [92,28,26,25,8,7,6,5,4,3,2,1,0] Z (ar 1 Z Z Z (fun hx=>nz hx Z (AN.nil)) Z Z (st (aq O Z Z Z Z Z) Z (jf [94,28,26,25,8,7,6,5,4,3,2,1,0] Z (jn (zc Z (fun z94=>?_) (fun z94=>?_)))))))))))))))))))))))
 refine ag (js Z (jn (ac (jb Z (jf [2,28,26,25,7,6,5,4,3,1,0] Z (jr ?_))))))
 refine eR Z ?_
 rw[ch,GS s z76,z94]
 simp[bl,bt z76]
 refine af (ac (jb Z (jf [2,28,26,25,7,6,5,4,3,1,0] Z (jr ?_))))
 refine eR Z ?_
 rw[ch,GS s z76,z94]
 simp
 refine ac (jb Z (jf [95,28,26,25,8,7,6,5,4,3,2,1,0] Z (jn (zc Z (fun z95=>?_) (fun z95=>?_)))))
 refine ac (jb Z (jf [98,28,26,25,8,7,6,5,4,3,2,1,0] Z (ar 1 Z Z Z (fun hx=>nz hx Z (AN.nil)) Z Z (st (aq O Z Z Z Z Z) Z (js Z (jf [101,28,26,25,8,7,6,5,4,3,2,1,0] Z (ar 3 Z Z Z (fun hx=>nz hx Z (nz hx Z (bj O hx Z Z Z Z (t3 h1 h2) (ab Z) Z Z Z Z Z Z Z (B0:=105000) Z (AN.nil)))) Z Z (st (aq O Z Z Z Z Z) Z (js Z (jf [106,28,26,25,8,7,6,5,4,3,2,1,0] Z (ar 3 Z Z Z (fun hx=>nz hx Z (nz hx Z (bj O hx Z Z Z Z (t3 h1 h2) (ab Z) Z Z Z Z Z Z Z (B0:=110000) Z (AN.nil)))) Z Z (st (aq O Z Z Z Z Z) Z (js Z (jf [111,28,26,25,8,7,6,5,4,3,2,1,0] Z (ar 1 Z Z Z (fun hx=>nz hx Z (AN.nil)) Z Z (st (aq O Z Z Z Z Z) Z (jf [113,28,26,25,8,7,6,5,4,3,2,1,0] Z (jn (zc Z (fun z113=>?_) (fun z113=>?_))))))))))))))))))))
 refine ag (js Z (jn (ac (jb Z (jf [2,28,26,25,7,6,5,4,3,1,0] Z (jr ?_))))))
 refine eR Z ?_
 rw[ch,GR s z95,z113]
 simp[bl,bt z95]
 refine af (ac (jb Z (jf [2,28,26,25,7,6,5,4,3,1,0] Z (jr ?_))))
 refine eR Z ?_
 rw[ch,GR s z95,z113]
 simp
 refine ac (jb Z (jf [114,28,26,25,8,7,6,5,4,3,2,1,0] Z (jn (zc Z (fun z114=>?_) (fun z114=>?_)))))
 refine ac (jb Z (jf [117,28,26,25,8,7,6,5,4,3,2,1,0] Z (ar 3 Z Z Z (fun hx=>nz hx Z (nz hx Z (bj O hx Z Z Z Z (JS h1 h2) (ab Z) Z Z Z Z Z Z Z (B0:=121000) Z (AN.nil)))) Z Z (st (aq O Z Z Z Z Z) Z (js Z (jf [122,28,26,25,8,7,6,5,4,3,2,1,0] Z (ar 1 Z Z Z (fun hx=>nz hx Z (AN.nil)) Z Z (st (aq O Z Z Z Z Z) Z (js Z (jf [125,28,26,25,8,7,6,5,4,3,2,1,0] Z (ar 1 Z Z Z (fun hx=>nz hx Z (AN.nil)) Z Z (st (aq O Z Z Z Z Z) Z (js Z (jf [128,28,26,25,8,7,6,5,4,3,2,1,0] Z (ar 1 Z Z Z (fun hx=>nz hx Z (AN.nil)) Z Z (st (aq O Z Z Z Z Z) Z (jf [130,28,26,25,8,7,6,5,4,3,2,1,0] Z (jn (zc Z (fun z130=>?_) (fun z130=>?_))))))))))))))))))))
 refine ag (js Z (jn (ac (jb Z (jf [2,28,26,25,7,6,5,4,3,1,0] Z (jr ?_))))))
 refine eR Z ?_
 rw[ch,GQ s z114,z130]
 simp[bl,bt z114]
 refine af (ac (jb Z (jf [2,28,26,25,7,6,5,4,3,1,0] Z (jr ?_))))
 refine eR Z ?_
 rw[ch,GQ s z114,z130]
 simp
 refine ac (jb Z (jf [131,28,26,25,8,7,6,5,4,3,2,1,0] Z (jn (zc Z (fun z131=>?_) (fun z131=>?_)))))
 refine ac (jb Z (jf [134,28,26,25,8,7,6,5,4,3,2,1,0] Z (ar 1 Z Z Z (fun hx=>nz hx Z (AN.nil)) Z Z (st (aq O Z Z Z Z Z) Z (js Z (jf [137,28,26,25,8,7,6,5,4,3,2,1,0] Z (ar 3 Z Z Z (fun hx=>nz hx Z (nz hx Z (bj O hx Z Z Z Z (t3 h1 h2) (ab Z) Z Z Z Z Z Z Z (B0:=141000) Z (AN.nil)))) Z Z (st (aq O Z Z Z Z Z) Z (js Z (jf [142,28,26,25,8,7,6,5,4,3,2,1,0] Z (ar 1 Z Z Z (fun hx=>nz hx Z (AN.nil)) Z Z (st (aq O Z Z Z Z Z) Z (js Z (jf [145,28,26,25,8,7,6,5,4,3,2,1,0] Z (ar 1 Z Z Z (fun hx=>nz hx Z (AN.nil)) Z Z (st (aq O Z Z Z Z Z) Z (jf [147,28,26,25,8,7,6,5,4,3,2,1,0] Z (jn (zc Z (fun z147=>?_) (fun z147=>?_))))))))))))))))))))
 refine ag (js Z (jn (ac (jb Z (jf [2,28,26,25,7,6,5,4,3,1,0] Z (jr ?_))))))
 refine eR Z ?_
 rw[ch,GP s z131,z147]
 simp[bl,bt z131]
 refine af (ac (jb Z (jf [2,28,26,25,7,6,5,4,3,1,0] Z (jr ?_))))
 refine eR Z ?_
 rw[ch,GP s z131,z147]
 simp
 refine ac (jb Z (jf [148,28,26,25,8,7,6,5,4,3,2,1,0] Z (jn (zc Z (fun z148=>?_) (fun z148=>?_)))))
 refine ac (jb Z (jf [151,28,26,25,8,7,6,5,4,3,2,1,0] Z (ar 1 Z Z Z (fun hx=>nz hx Z (AN.nil)) Z Z (st (aq O Z Z Z Z Z) Z (js Z (jf [154,28,26,25,8,7,6,5,4,3,2,1,0] Z (ar 3 Z Z Z (fun hx=>nz hx Z (nz hx Z (bj O hx Z Z Z Z (t3 h1 h2) (ab Z) Z Z Z Z Z Z Z (B0:=158000) Z (AN.nil)))) Z Z (st (aq O Z Z Z Z Z) Z (js Z (jf [159,28,26,25,8,7,6,5,4,3,2,1,0] Z (ar 1 Z Z Z (fun hx=>nz hx Z (AN.nil)) Z Z (st (aq O Z Z Z Z Z) Z (js Z (jf [162,28,26,25,8,7,6,5,4,3,2,1,0] Z (ar 1 Z Z Z (fun hx=>nz hx Z (AN.nil)) Z Z (st (aq O Z Z Z Z Z) Z (jf [164,28,26,25,8,7,6,5,4,3,2,1,0] Z (jn (zc Z (fun z164=>?_) (fun z164=>?_))))))))))))))))))))
 refine ag (js Z (jn (ac (jb Z (jf [2,28,26,25,7,6,5,4,3,1,0] Z (jr ?_))))))
 refine eR Z ?_
 rw[ch,GO s z148,z164]
 simp[bl,bt z148]
 refine af (ac (jb Z (jf [2,28,26,25,7,6,5,4,3,1,0] Z (jr ?_))))
 refine eR Z ?_
 rw[ch,GO s z148,z164]
 simp
 refine ac (jb Z (jf [165,28,26,25,8,7,6,5,4,3,2,1,0] Z (jn (zc Z (fun z165=>?_) (fun z165=>?_)))))
 refine ac (jb Z (jf [168,28,26,25,8,7,6,5,4,3,2,1,0] Z (ar 1 Z Z Z (fun hx=>nz hx Z (AN.nil)) Z Z (st (aq O Z Z Z Z Z) Z (js Z (jf [171,28,26,25,8,7,6,5,4,3,2,1,0] Z (ar 3 Z Z Z (fun hx=>nz hx Z (nz hx Z (bj O hx Z Z Z Z (t3 h1 h2) (ab Z) Z Z Z Z Z Z Z (B0:=175000) Z (AN.nil)))) Z Z (st (aq O Z Z Z Z Z) Z (js Z (jf [176,28,26,25,8,7,6,5,4,3,2,1,0] Z (ar 1 Z Z Z (fun hx=>nz hx Z (AN.nil)) Z Z (st (aq O Z Z Z Z Z) Z (js Z (jf [179,28,26,25,8,7,6,5,4,3,2,1,0] Z (ar 3 Z Z Z (fun hx=>nz hx Z (nz hx Z (bj O hx Z Z Z Z (Eg h1 h2) (ab Z) Z Z Z Z Z Z Z (B0:=183000) Z (AN.nil)))) Z Z (st (aq O Z Z Z Z Z) Z (jf [183,28,26,25,8,7,6,5,4,3,2,1,0] Z (jn (zc Z (fun z183=>?_) (fun z183=>?_))))))))))))))))))))
 refine ag (js Z (jn (ac (jb Z (jf [2,28,26,25,7,6,5,4,3,1,0] Z (jr ?_))))))
 refine eR Z ?_
 rw[ch,GN s z165,z183]
 simp[bl,bt z165]
 refine af (ac (jb Z (jf [2,28,26,25,7,6,5,4,3,1,0] Z (jr ?_))))
 refine eR Z ?_
 rw[ch,GN s z165,z183]
 simp
 refine af (ac (jb Z (jf [2,28,26,25,7,6,5,4,3,1,0] Z (jr ?_))))
 refine eR Z ?_
 have hn:(decide (0≤s.kind)&&decide (s.kind≤8))=false:=by
  have:=b9 z27
  have:=b9 z42
  have:=b9 z57
  have:=b9 z76
  have:=b9 z95
  have:=b9 z114
  have:=b9 z131
  have:=b9 z148
  have:=b9 z165
  rw[←Bool.not_eq_true];intro h;simp only[bC,decide_eq_true_eq]at h;omega
 rw[ch,bi,show rv s=true by unfold rv;rw[hn];rfl];rfl
inductive Tr where
  | node (s:Sm) (at_:Int) (kids:List Tr)
mutual
def Tr.d:Tr→D
  | .node s a ks=>.ptr [.int .i64 s.kind,.int .i64 s.var,.int .i64 s.event,.int .i64 s.sum.c,cK s.sum.xs,.int .i64 s.index.c,cK s.index.xs,fd s.facts,.int .i64 a,.slc 1 (Trs.d ks)] 0
def Trs.d:List Tr→List (List D)
  | []=>[]
  | t::r=>[t.d]::Trs.d r
end
theorem gF: ∀{ts:List Tr},(Trs.d ts).length=ts.length
 | []=>rfl
 | t::r=>by simp[Trs.d,gF]
theorem ra: ∀{ts:List Tr} {t:Tr},Trs.d (ts++[t])=Trs.d ts++[[t.d]]
 | [],t=>rfl
 | u::r,t=>by simp[Trs.d,ra]
def cM(f:Nat→Option (Tr×Nat)):Nat→Nat→Option (List Tr×Nat)
  | 0,k=>some ([],k)
  | q + 1,k=>match f k with
    | none=>none
    | some (t,k')=>(cM f q k').map fun r=>(t::r.1,r.2)
def cH : Nat→List Sm→Nat→Option (Tr×Nat)
  | 0,_,_=>none
  | n + 1,body,k=>if body.length≤k then none else if ch (body.getD k default)<0 then none else
      (cM (cH n body) (ch (body.getD k default)).toNat (k+1)).map fun r=>(.node (body.getD k default) k r.1,r.2)
theorem dw{f:Nat→Option (Tr×Nat)}{q k k':Nat}{t:Tr}(h:f k=some (t,k')):cM f (q+1) k=(cM f q k').map fun r=>(t::r.1,r.2):=by rw[cM,h]
theorem dX{f:Nat→Option (Tr×Nat)}{q k:Nat}(h:f k=none):cM f (q+1) k=none:=by rw[cM,h]
theorem uF{f:Nat→Option (Tr×Nat)}{N:Nat}(hf: ∀k t k',f k=some (t,k')→k<k'∧k'≤N): ∀{q k ts k'},cM f q k=some (ts,k')→k≤N→k≤k'∧k'≤N
 | 0,k,ts,k',h,hk=>by simp[cM]at h;omega
 | q + 1,k,ts,k',h,hk=>by
  unfold cM at h
  cases hx:f k with
  | none=>rw[hx]at h;cases h
  | some x=>
   obtain⟨t,k1⟩:=x
   rw[hx]at h
   simp only[Option.map_eq_some_iff]at h
   obtain⟨⟨ts1,k2⟩,h1,h2⟩:=h
   simp only[Prod.mk.injEq]at h2
   have h3:=hf k t k1 hx
   have h4:=uF hf h1 h3.2
   omega
theorem hZ: ∀{n body k t k'},cH n body k=some (t,k')→k<k'∧k'≤body.length
 | 0,_,_,_,_,h=>by cases h
 | n+1,body,k,t,k',h=>by
  unfold cH at h
  split at h
  cases h
  split at h
  cases h
  simp only[Option.map_eq_some_iff]at h
  obtain⟨⟨ts1,k2⟩,h1,h2⟩:=h
  simp only[Prod.mk.injEq]at h2
  have:=uF (N:=body.length) (fun k t k' h=>hZ h) h1 (by omega)
  omega
abbrev tP(r:Option (Tr×Nat)):D:=match r with|some (t,_)=>t.d|none=>.nilp
abbrev tN(r:Option (Tr×Nat)):Int:=match r with|some (_,k)=>k|none=>0
abbrev tB(r:Option (Tr×Nat)):Bool:=match r with|some _=>true|none=>false
abbrev D5(r:Option (Tr×Nat)):A:=.tup [.c (.d (tP r)),eI (tN r),eB (tB r)]
theorem xq{r:Option (Tr×Nat)}(h:tB r=true): ∃t k,r=some (t,k):=by
 cases r with
 | none=>cases h
 | some x=>exact⟨x.1,x.2,Z⟩
theorem AL{r:Option (Tr×Nat)}(h:tB r=false):r=none:=by
 cases r with
 | none=>rfl
 | some x=>cases h
theorem Bh(s:Sm):ch s≤2:=by
 unfold ch;split
 exact(cN _).2
 decide
theorem Ia{n k:Nat}(hk:k≤body.length)(hn:body.length<n+1+k)(ih: ∀k',k'≤body.length→body.length<n+k'→MQ h1 h2 87 [.c (.d (kv body)),eI k'] [] (Plain (D5 (cH n body k')))):MQ h1 h2 87 [.c (.d (kv body)),eI k] [] (Plain (D5 (cH (n+1) body k))):=by
 refine jB 58 h1 h2 Tryz.func87 Z fun O hF=>?_
 have hl:body.length≤L:=by simpa[As.fact,A.fact,M.fact,D.fact,Ds.fact]using hF.1.1
 refine ac (jc Z (jn (ae (ac (jb Z (cW Z (js Z (jn (zc Z (fun z15=>?_) (fun z15=>?_))))))))))
 try simp only[bo]at z15
 refine ac (jc Z (jr ?_))
 refine⟨.inl Z,_,ah [] Z Z (e':=[(4,.c (.d .nilp)),(5,eI 0),(6,eB false)]) ⟨Z,Z,Z,tv⟩ Z,_,Z,?_,Z⟩
 rw[show cH (n+1) body k=none from if_pos (by omega)]
 try simp only[bo]at z15
 refine af (ac (jb Z (nC Z Z (js Z (lo Z (JT h1 h2) 21000 Z (js Z (jn (ae (ac (jb Z (jn (zc Z (fun z22=>?_) (fun z22=>?_)))))))))))))
 try simp only[bo]at z22
 refine ac (jc Z (jr ?_))
 refine⟨.inl Z,_,ah [] Z Z (e':=[(4,.c (.d .nilp)),(5,eI 0),(6,eB false)]) ⟨Z,Z,Z,tv⟩ Z,_,Z,?_,Z⟩
 rw[show cH (n+1) body k=none by unfold cH;rw[if_neg (by omega)];exact if_pos z22]
 try simp only[bo]at z22
 refine af (ac (jb Z (nC Z Z (jc Z (jx Z (am ?_))))))
 refine js Z (aN (js Z (ji Z (js Z (jn (ae (ak (ap (X:=Nat×Nat×List Tr) (fun x=>⟨[(0,.c (.d (kv body))),(1,eI x.2.1),(7,eI x.1),(8,.c (.pt 29 0 0))],[(29,.box [.d (.int .i64 (body.getD k default).kind),.d (.int .i64 (body.getD k default).var),.d (.int .i64 (body.getD k default).event),.d (.int .i64 (body.getD k default).sum.c),.d (cK (body.getD k default).sum.xs),.d (.int .i64 (body.getD k default).index.c),.d (cK (body.getD k default).index.xs),.d (fd (body.getD k default).facts),.d (.int .i64 k),.rs 700 0 x.2.2.length]),(700,.row false 1 (Trs.d x.2.2))]⟩) (fun x=>x.2.1≤body.length∧k<x.2.1∧cM (cH n body) (ch (body.getD k default)).toNat (k+1)=(cM (cH n body) x.1 x.2.1).map (fun r=>(x.2.2++r.1,r.2))∧x.2.2.length+x.1≤2) (fun x=>x.1) ((ch (body.getD k default)).toNat,k+1,[]) ((cf 29 700 1 false 9 Z Z Z).trans (Ent.to ⟨Z,Z,congrArg (fun z=>some (eI z)) (Int.toNat_of_nonneg z22).symm,Z,tv⟩ Z)) ?_ (fun x hi=>?_)))))))))
 exact⟨(show k+1≤body.length by omega),Nat.lt_succ_self k,by simp,by have:=Bh (body.getD k default);show 0+(ch (body.getD k default)).toNat≤2;omega⟩
 refine ae (ac (jb Z (jn (zc Z (fun z33=>?_) (fun z33=>?_)))))
 try simp only[bo]at z33
 refine af (ae (ak (ac (jb Z (aj O Z Z Z Z (ih x.2.1 hi.1 (by omega)) (ab Z) Z Z Z Z (B0:=40000) Z Z (jd Z (jc Z (jn (ae (ac (jb Z (jn (zc Z (fun z44=>?_) (fun z44=>?_))))))))))))))
 try simp only[bo]at z44
 refine ac (jc Z (jr ?_))
 refine⟨.inl Z,_,ah [] Z Z (e':=[(4,.c (.d .nilp)),(5,eI 0),(6,eB false)]) ⟨Z,Z,Z,tv⟩ Z,_,Z,?_,Z⟩
 have e0:=AL z44
 rw[Int.toNat_natCast]at z22
 rw [show cH (n+1) body k=none by
  unfold cH
  rw[if_neg (by omega),if_neg (by omega),hi.2.2.1]
  obtain⟨q,hq⟩: ∃q,x.1=q+1:=⟨x.1-1,by omega⟩
  rw[hq,dX e0];rfl]
 try simp only[bo]at z44
 refine af (ac ?_)
 obtain⟨t1,k1,hr⟩:=xq z44
 obtain⟨s1,a1,ks1⟩:=t1
 rw[hr]
 refine jd Z (jb Z (hp (bz O Z Z Z) Z (am ?_)))
 refine hp (ko (own:=false) O Z (.row Z gF.symm) (.whole Z Z (.inr ⟨Z,Z⟩)) (by simp) Z (by rw[gF];show x.2.2.length+1≤L;omega) (by rw[gF];show(x.2.2.length+1)*8≤_;omega) Z (by rw[cp,gF])) Z (am ?_)
 refine jb Z (jo Z (am ?_))
 refine jn (ag (jb Z (jn (ag (js Z (ji Z (js Z (jn ?_))))))))
 refine⟨(x.1-1,k1,x.2.2++[.node s1 a1 ks1]),((ah [29,52] (e':=[(0,_),(1,_),(7,_),(8,_)]) Z Z ⟨Z,Z,Z,Z,tv⟩ Z).trans (Ent.sub 52 700 Z Z Z)).trans (Ent.to ⟨Z,Z,?_,Z,tv⟩ ?_),⟨(hZ hr).2,by have:=(hZ hr).1;show k<k1;omega,?_,?_⟩,?_⟩
 exact congrArg (fun z=>some (eI z)) (by show(x.1:Int)-1=(x.1-1:Nat);omega)
 rw[ra,cp];rfl
 rw[hi.2.2.1]
 obtain⟨q,hq⟩: ∃q,x.1=q+1:=⟨x.1-1,by omega⟩
 rw[hq,dw hr]
 simp[Option.map_map,Function.comp_def]
 show(x.2.2++[_]).length+(x.1-1)≤2;simp;omega
 show x.1-1<x.1;omega
 try simp only[bo]at z33
 refine aR (ac (jd Z (js Z (jr ?_))))
 refine⟨.inl Z,_,((Ent.to (e':=[(4,_),(5,_),(6,_)]) ⟨Z,Z,Z,tv⟩ Z).trans (Ent.freeze (e':=[(4,_),(5,_),(6,_)]) 700 Z (.cons Z (.keep Z) (.cons Z (.keep Z) (.cons Z (.keep Z) .nil))) (.cons Z (.box (ck Z (ck Z (ck Z (ck Z (ck Z (ck Z (ck Z (ck Z (ck Z (.cons (.row Z gF.symm) .nil))))))))))) (.skip .nil)))).trans (Ent.freeze (e':=[(4,_),(5,_),(6,_)]) 29 Z (.cons Z (.c (.box (cs:=[.int .i64 (body.getD k default).kind,.int .i64 (body.getD k default).var,.int .i64 (body.getD k default).event,.int .i64 (body.getD k default).sum.c,cK (body.getD k default).sum.xs,.int .i64 (body.getD k default).index.c,cK (body.getD k default).index.xs,fd (body.getD k default).facts,.int .i64 k,.slc 1 (Trs.d x.2.2)]) Z (ax Z))) (.cons Z (.keep Z) (.cons Z (.keep Z) .nil))) (.skip .nil)),_,Z,?_,Z⟩
 have hx:x.1=0:=by omega
 rw[Int.toNat_natCast]at z22
 rw [show cH (n+1) body k=some (.node (body.getD k default) k x.2.2,x.2.1) by
  unfold cH
  rw[if_neg (by omega),if_neg (by omega),hi.2.2.1,hx];simp[cM]]
 rfl
theorem G8{L:Nat}(h1:4096≤L)(h2:L≤1073741824){body:List Sm}: ∀{n k:Nat},k≤body.length→body.length<n+k→MC Tryz.prog L 87 [.c (.d (kv body)),eI k] [] (Plain (D5 (cH n body k)))
 | 0,k,hk,hn=>by omega
 | n+1,k,hk,hn=>Ia h1 h2 hk hn (fun k' hk' hn'=>G8 h1 h2 hk' hn')
def DY(body:List Sm):Option (Tr×Nat):=cH (body.length+1) body 0
def BI(body:List Sm):D:=if(30:Int)<body.length then .nilp else tP (DY body)
def vv(body:List Sm):Bool:=if(30:Int)<body.length then false else(tB (DY body)&&decide (tN (DY body)=body.length))
def gt(p:Pm):Bool:=vv p.body&&(terms p.pre 6&&terms p.post 6)

theorem Eh:MQ h1 h2 56 [.c (.d (kv body))] [] (Plain (.tup [.c (.d (BI body)),eB (vv body)])):=by
 refine jB 24 h1 h2 Tryz.func56 Z fun O hF=>?_
 have hl:body.length≤L:=by simpa[As.fact,A.fact,M.fact,D.fact,Ds.fact]using hF.1.1
 refine ac (jb Z (jn (ae (ac (js Z (cW Z (js Z (jn (zc Z (fun z9=>?_) (fun z9=>?_))))))))))
 try simp only[bo]at z9
 refine ac (jb Z (jr ?_))
 refine⟨.inl Z,_,bK,_,Z,?_,Z⟩
 rw[BI,vv,if_pos z9,if_pos z9]
 try simp only[bo]at z9
 refine af (ac (js Z (bq [(11,_),(3,_),(2,_),(0,_)] [] ⟨Z,Z,Z,Z,tv⟩ Z (aj O Z Z Z Z (G8 (n:=body.length+1) (k:=0) h1 h2 (cG _) (by omega)) (ab Z) Z Z Z Z (B0:=13000) Z Z (jd Z (jc Z (aN (jc Z (bq [(18,_),(16,_),(5,_),(3,_),(2,_),(0,_)] [] ⟨Z,Z,Z,Z,Z,Z,tv⟩ Z (ar 4 Z Z Z (fun hx=>nz hx Z (nz hx Z (ny hx (bP O Z Z Z Z Z Z Z Z) Z (nz hx Z (AN.nil))))) Z Z (st (aq O Z Z Z Z Z) Z (jb Z (jr ?_)))))))))))))
 refine⟨.inl Z,_,bK,_,Z,?_,Z⟩
 rw[BI,vv,if_neg (by omega),if_neg (by omega),←Bool.cond_false_right];rfl
theorem JZ:MQ h1 h2 84 [.c (.d (kv body))] [] (Plain (eB (vv body))):=by
 refine aB ?_ Z
 refine jB 11 h1 h2 Tryz.func84 Z fun O hF=>?_
 refine ac (js Z (aN (js Z (bq [(6,_),(2,_)] [] ⟨Z,Z,tv⟩ Z (aj O Z Z Z Z (Eh h1 h2) (ab Z) Z Z Z Z (B0:=8000) Z Z (jd Z (js Z (aN (jb Z (jr ?_))))))))))
 refine eR Z ?_
 first|rfl|skip
theorem Ha:MQ h1 h2 53 [ky p] [] (Plain (eB (gt p))):=by
 refine aB ?_ Z
 refine jB 16 h1 h2 Tryz.func53 Z fun O hF=>?_
 refine ac (jx Z (js Z (aN (jb Z (jf [4,2,1,0] Z (lo Z (JZ h1 h2) 6000 Z (js Z (jf [6,2,1,0] Z (ar 3 Z Z Z (fun hx=>nz hx Z (nz hx Z (bj O hx Z Z Z Z (Eg h1 h2) (ab Z) Z Z Z Z Z Z Z (B0:=10000) Z (AN.nil)))) Z Z (st (aq O Z Z Z Z Z) Z (js Z (jf [11,2,1,0] Z (ar 3 Z Z Z (fun hx=>nz hx Z (nz hx Z (bj O hx Z Z Z Z (Eg h1 h2) (ab Z) Z Z Z Z Z Z Z (B0:=15000) Z (AN.nil)))) Z Z (st (aq O Z Z Z Z Z) Z (js Z (jf [2,0] Z (jr ?_)))))))))))))))))
 refine eR Z ?_
 rw[Bool.cond_false_right,Bool.cond_false_right,Bool.and_assoc];rfl
variable{s:Sx}
theorem J6:MQ h1 h2 54 [GJ s] [] (Plain (eB (zb s))):=by
 refine aB ?_ Z
 refine jB 23 h1 h2 Tryz.func54 Z fun O hF=>?_
 refine ac (jx Z (js Z (aN (jb Z (cW Z (jb Z (jf [7,2,1,0] Z (ar 4 Z Z Z (fun hx=>nz hx Z (nz hx Z (ny hx (bP O Z Z Z Z Z Z Z Z) Z (nz hx Z (AN.nil))))) Z Z (st (aq O Z Z Z Z Z) Z (js Z (jf [13,2,1,0] Z (ar 3 Z Z Z (fun hx=>nz hx Z (nz hx Z (bj O hx Z Z Z Z (vA h1 h2) (ab Z) Z Z Z Z Z Z Z (B0:=17000) Z (AN.nil)))) Z Z (st (aq O Z Z Z Z Z) Z (js Z (jf [18,2,1,0] Z (ar 3 Z Z Z (fun hx=>nz hx Z (nz hx Z (bj O hx Z Z Z Z (vA h1 h2) (ab Z) Z Z Z Z Z Z Z (B0:=22000) Z (AN.nil)))) Z Z (st (aq O Z Z Z Z Z) Z (js Z (jf [2,0] Z (jr ?_))))))))))))))))))))
 refine eR Z ?_
 exact congrArg eB (show(bif bif bif decide ((s.vars.length:Int)=4)then decide ((s.cells.length:Int)=8)else false then s.vars.all mB else false then s.cells.all mB else false)=zb s by unfold zb cP;cases s.vars.all mB<;>cases s.cells.all mB<;>simp)
theorem J5{v c:List Int}:MQ h1 h2 57 [.agg [.d (cK v),.d (cK c)]] [] (Rows (.agg [.rs 0 0 v.length,.rs 1 0 c.length]) [aE v,aE c]):=by
 refine cq (jB 10 h1 h2 Tryz.func57 Z fun O hF=>?_)
 refine ac (jx Z (jl Z (jn (ae (fJ [_,_,_,_,_,_,_,_] [p0,pz [0],pe [0,1] 0,pn [] 0 1,pn [3] 0 1,pe (rg 0 5) 1,pn (rg 0 6) 2 2,pe (rg 0 7) 2] [2,5,7] [_,_,_,_] (kc Z (kc Z (ai (dg O (B0:=6000) Z Z Z Z (vz h1 h2) (ab Z) Z Z Z Z Z) (ai (kc Z (V Z)) (ai (kc Z (V Z)) (ai (dg O (B0:=9000) Z Z Z Z (vz h1 h2) (ab Z) Z Z Z Z Z) (kc Z (ai (eS Z Z Z) trivial)))))))) ?_)))))
 refine dJ ?_
 refine⟨.inl Z,_,bK,_,Z,[6000,9000],by decide,Z,Z,Z⟩
structure RS where
  vars:List Int
  cells:List Int
  events:List Int
  fuel:Int
  steps:Int
  out:Int
abbrev jk(e:Nat)(r:RS):B:=.box [.rs 1 0 4,.rs 2 0 8,.rs e 0 r.events.length,.d (.int .i64 r.fuel),.d (.int .i64 r.steps),.d (.int .i64 r.out)]
abbrev rH(e:Nat)(r:RS):List (Nat×B):=[(0,jk e r),(1,aE r.vars),(2,aE r.cells),(e,aE r.events)]
def aP(r:RS):Bool×RS:=if r.steps=r.fuel then(false,{r with out:=1})else(true,{r with steps:=r.steps+1})

theorem t4{r:RS}(hs:0≤r.steps)(hs2:r.steps≤1073741824):MQ h1 h2 89 [.c (.pt 0 0 0)] (rH 3 r) (aO (eB (aP r).1) (rH 3 (aP r).2)):=by
 refine MC.shift 500 Z (jH 22 [500,501,502,503] h1 h2 Tryz.func89 Z fun O hF=>?_)
 refine bJ ?_
 refine ac (js Z (jn (ae (ae (fJ [_,_,_,_,_,_,_,_,_] [p0,pz [0],pz [0,1],pz [0,1,2],p0,pz [4],pz [4,5],pz [4,5,6],pz (rg 0 8)] [] [_] (k4 Z (k4 Z (kc Z trivial))) ?_)))))
 refine jw [11,2,0] Z (bJ ?_)
 refine zc Z (fun z11=>?_) (fun z11=>?_)
 try simp only[bo]at z11
 refine ac (jc Z (jo Z (am ?_)))
 refine aN (js Z (jr ?_))
 refine⟨.inl Z,_,ah [500,501,502,503] Z Z (e':=[(2,_)]) ⟨Z,tv⟩ Z,_,Z,?_,?_⟩
 rw[aP,if_pos z11];rfl
 rw[aP,if_pos z11];rfl
 try simp only[bo]at z11
 refine af (ac (jd Z (ji Z (jb Z (jo Z (am ?_))))))
 refine aN (js Z (jr ?_))
 refine⟨.inl Z,_,ah [500,501,502,503] Z Z (e':=[(2,_)]) ⟨Z,tv⟩ Z,_,Z,?_,?_⟩
 rw[aP,if_neg z11];rfl
 rw[aP,if_neg z11];rfl
theorem zw{r:RS}:MQ h1 h2 91 [.c (.pt 0 0 0),eI x] (rH 3 r) (aO (eB false) (rH 3 {r with out:=x})):=by
 refine MC.shift 500 Z (jH 9 [500,501,502,503] h1 h2 Tryz.func91 Z fun O hF=>?_)
 refine bJ ?_
 refine ac (js Z (aN (jd Z (jo Z (am ?_)))))
 refine aN (js Z (jr ?_))
 refine⟨.inl Z,_,ah [500,501,502,503] Z Z (e':=[(4,_)]) ⟨Z,tv⟩ Z,_,Z,?_,?_⟩
 rfl
 rfl
def dQ (s:Sm)(f:RS→Bool×RS):Nat→RS→Bool×RS
  | 0,r=>(false,{r with out:=1})
  | m + 1,r=>if r.steps=r.fuel then(false,{r with out:=1})else
    if aH s.sum r.vars<0 then(true,{r with steps:=r.steps+1})else
      if(f {r with steps:=r.steps+1}).1=true then dQ s f m (f {r with steps:=r.steps+1}).2 else(false,(f {r with steps:=r.steps+1}).2)
def leaf(s:Sm)(r:RS):Bool×RS:=
  if s.kind=2 then(if mB (aH s.sum r.vars)=true then(true,{r with vars:=r.vars.set s.var.toNat (aH s.sum r.vars)})else(false,{r with out:=4}))
  else if s.kind=3 then(if eW 0 7 (aH s.index r.vars)=true then(true,{r with vars:=r.vars.set s.var.toNat (r.cells.getD (aH s.index r.vars).toNat default)})else(false,{r with out:=2}))
  else if s.kind=4 then(if eW 0 7 (aH s.index r.vars)=true then(if mB (aH s.sum r.vars)=true then(true,{r with cells:=r.cells.set (aH s.index r.vars).toNat (aH s.sum r.vars)})else(false,{r with out:=4}))else(false,{r with out:=2}))
  else if s.kind=5 then(true,{r with events:=r.events++[s.event]})
  else if s.kind=6 then(if aH s.sum r.vars<0 then(false,{r with out:=3})else(true,r))
  else(true,r)
def aW : Tr→RS→Bool×RS
  | .node s a [x,y],r=>
    if s.kind=1 then(if(aW x r).1=true then aW y (aW x r).2 else(false,(aW x r).2))else
      if(aP r).1=true then(if 0≤aH s.sum (aP r).2.vars then aW x (aP r).2 else aW y (aP r).2)else(false,(aP r).2)
  | .node s a [x],r=>dQ s (aW x) ((r.fuel-r.steps).toNat+1) r
  | .node s a _,r=>if(aP r).1=true then leaf s (aP r).2 else(false,(aP r).2)
theorem cB{s:Sm}{a:Int}{r:RS}:aW (.node s a []) r=if(aP r).1=true then leaf s (aP r).2 else(false,(aP r).2):=by rw[aW]<;>simp
theorem ur{s:Sm}{a:Int}{x:Tr}{r:RS}:aW (.node s a [x]) r=dQ s (aW x) ((r.fuel-r.steps).toNat+1) r:=by rw[aW]
theorem gc{s:Sm}{a:Int}{x y:Tr}{r:RS}:aW (.node s a [x,y]) r=if s.kind=1 then(if(aW x r).1=true then aW y (aW x r).2 else(false,(aW x r).2))else
      if(aP r).1=true then(if 0≤aH s.sum (aP r).2.vars then aW x (aP r).2 else aW y (aP r).2)else(false,(aP r).2):=by rw[aW]
structure RSok(r:RS):Prop where
  vars:cP r.vars 4=true
  cells:cP r.cells 8=true
  lo:0≤r.steps
  hi:r.steps≤r.fuel
  fuel:r.fuel≤2000
  events:(r.events.length:Int)≤r.steps
theorem RSok.nv{r:RS}(h:RSok r):r.vars.length=4:=by have:=(fR h.vars).2;omega
theorem RSok.nc{r:RS}(h:RSok r):r.cells.length=8:=by have:=(fR h.cells).2;omega
structure RSle(r r':RS):Prop where
  ok:RSok r'
  fuel:r'.fuel=r.fuel
  steps:r.steps≤r'.steps
theorem RSok.step{r:RS}(h:RSok r):RSle r (aP r).2:=by
 unfold aP
 split
 exact⟨⟨h.vars,h.cells,h.lo,h.hi,h.fuel,h.events⟩,Z,Int.le_refl _⟩
 rename_i hne
 have:=h.hi;have:=h.lo;have:=h.events
 exact⟨⟨h.vars,h.cells,by show 0≤r.steps+1;omega,by show r.steps+1≤r.fuel;omega,h.fuel,by show(r.events.length:Int)≤r.steps+1;omega⟩,Z,by show r.steps≤r.steps+1;omega⟩
theorem cV{s:Sm}(h:bi s=true):s.sum.term=true∧s.index.term=true:=by
 unfold bi rv at h
 cases h1:s.sum.term<;>cases h2:s.index.term<;>simp[h1,h2]at h ⊢
theorem qc{s:Sm}(h:bi s=true)(hk:pL s=true):0≤s.var∧s.var≤3:=by
 unfold bi y7 at h
 rw[hk]at h
 cases h1:(decide (0≤s.var)&&decide (s.var≤3))with
 | true=>simpa using h1
 | false=>rw[h1]at h;cases rv s<;>cases x6 s<;>simp at h
theorem tc{xs:List Int}{n:Int}(h:cP xs n=true){i:Nat}{v:Int}(hv:mB v=true):cP (xs.set i v) n=true:=by
 have h1:=fR h
 unfold cP
 rw[List.length_set,bC,List.all_eq_true]
 refine⟨fun x hx=>?_,by simpa using h1.2⟩
 rcases List.mem_or_eq_of_mem_set hx with h2|h2
 exact List.all_eq_true.1 h1.1 x h2
 rw[h2];exact hv
variable{vr ev a:Int}{su ix:Tm}{fa:List Tm}
theorem FS{r:RS}(hst:bi ⟨0,vr,ev,su,ix,fa⟩=true)(hr:RSok r):MQ h1 h2 58 [.c (.pt 0 0 0),.c (.d (Tr.d (.node ⟨0,vr,ev,su,ix,fa⟩ a [])))] (rH 3 r) (aO (eB (aW (.node ⟨0,vr,ev,su,ix,fa⟩ a []) r).1) (rH 4 (aW (.node ⟨0,vr,ev,su,ix,fa⟩ a []) r).2)):=by
 refine MC.shift 500 Z (jH 219 [500,501,502,503] h1 h2 Tryz.func58 Z fun O hF=>?_)
 refine bJ ?_
 have hsf:=cV hst
 refine ac (js Z (aN (jd Z (jb Z (jn (ae (ac (jd Z (jc Z (ba Z (js Z (ba Z (js Z (ba Z (js Z (ba Z (js Z (ba Z (js Z (ba Z (js Z (st (aV O Z Z Z Z Z) Z (js Z (ba Z (js Z (ba Z (ao O [500,501,502,503] (bin:=[jk 3 r,aE (r).vars,aE (r).cells,aE (r).events]) Z Z Z Z (t4 (r:=r) h1 h2 hr.lo (Int.le_trans hr.hi (Int.le_trans hr.fuel (by decide)))) Z Z Z Z Z Z (B0:=30000) Z Z (am ?_))))))))))))))))))))))))))))
 refine ba Z (js Z (st (aV O Z Z Z Z Z) Z (jn (zc Z (fun z31=>?_) (fun z31=>?_)))))
 refine ac (js Z (jr ?_))
 have hs0:(aP r).1=false:=by cases h:(aP r).1 with|false=>rfl|true=>rw[h]at z31;cases z31
 have hrun:aW (.node ⟨0,vr,ev,su,ix,fa⟩ a []) r=(false,(aP r).2):=by rw[cB,if_neg (by rw[hs0];decide)]
 refine⟨.inl Z,_,(ah [500,501,502,503] Z Z (e':=[(4,_)]) ⟨Z,tv⟩ Z).trans (aa 503 504 Z Z),_,Z,?_,?_⟩
 rw[hrun];rfl
 rw[hrun];rfl
 refine af (ac ?_)
 have hs1:(aP r).1=true:=by cases h:(aP r).1 with|true=>rfl|false=>rw[h]at z31;cases z31
 have hr1:=hr.step.ok
 obtain⟨q,hq⟩: ∃q,q=(aP r).2:=⟨_,rfl⟩
 rw[←hq]at hr1 ⊢
 have hnv:=hr1.nv
 have hnc:=hr1.nc
 refine jb Z (jn (ae (ac (jd Z (jb Z (jn (zc Z (fun z37=>?_) (fun z37=>?_))))))))
 refine jw [5,4,0,1] Z (fJ [_,_,_,_,_,_,_,_,_,_,_,_,_,_,_,_] [p0,pz [0],pz [0,1],pz [0,1,2],pz (rg 0 4),p0,pe (rg 0 6) 0,pn [] 0 1,pn [7] 0 1,pn [7,8] 0 1,pn [7,8,9] 0 1,pn (rg 7 4) 0 1,pn [] 0 1,pe (rg 0 13) 1,pn (rg 0 14) 2 2,pn (rg 0 15) 2 2] [6,13] [_,_,_] (k4 Z (kc Z (kc Z (ai (bg O (B0:=45000) Z Z Z Z (kE (t:=su) (vars:=q.vars) h1 h2 hsf.1 hr1.vars) (.cons (.agg (ax Z)) (.cons (.c (.whole Z (by rw[bA];exact hnv.symm))) .nil)) Z Z Z Z Z) (ai (kc Z (V Z)) (ai (kc Z (V Z)) (ai (kc Z (V Z)) (ai (kc Z (V Z)) (ai (kc Z (V Z)) (ai (kc Z (V Z)) (ai (bg O (B0:=52000) Z Z Z Z (kE (t:=ix) (vars:=q.vars) h1 h2 hsf.2 hr1.vars) (.cons (.agg (ax Z)) (.cons (.c (.whole Z (by rw[bA];exact hnv.symm))) .nil)) Z Z Z Z Z) (kc Z (kc Z trivial))))))))))))) ?_)
 refine jw [7,6,5,4,0,1] Z (bJ ?_)
 refine ae (ac (jd Z (jc Z (ba Z (js Z (ba Z (js Z (ba Z (js Z (ba Z (js Z (ba Z (js Z (ba Z (js Z (st (aI O Z Z Z Z Z) Z (js Z (sk Z (sk Z (sk Z (st (aI O Z Z Z Z Z) Z (jn (zc Z (fun z70=>?_) (fun z70=>?_))))))))))))))))))))))))
 exact nf z70
 refine af (ae (ac (jd Z (jc Z (ba Z (js Z (ba Z (js Z (ba Z (js Z (ba Z (js Z (ba Z (js Z (ba Z (js Z (st (aI O Z Z Z Z Z) Z (js Z (sk Z (sk Z (sk Z (st (aI O Z Z Z Z Z) Z (jn (zc Z (fun z91=>?_) (fun z91=>?_)))))))))))))))))))))))))
 exact nf z91
 refine af (ae (ac (jd Z (js Z (jn (ak (ac (jb Z (jn (zc Z (fun z99=>?_) (fun z99=>?_)))))))))))
 exact nf z99
 refine ac (jb Z (jn (zc Z (fun z119=>?_) (fun z119=>?_))))
 exact nf z119
 refine ac (jb Z (jn (zc Z (fun z129=>?_) (fun z129=>?_))))
 exact nf z129
 refine ac (jb Z (jn (zc Z (fun z146=>?_) (fun z146=>?_))))
 exact nf z146
 refine ac (jb Z (jn (zc Z (fun z156=>?_) (fun z156=>?_))))
 exact nf z156
 refine ac (jb Z (jn (zc Z (fun z172=>?_) (fun z172=>?_))))
 exact nf z172
 refine ac (jb Z (jn (zc Z (fun z178=>?_) (fun z178=>?_))))
 exact nf z178
 refine ac (jb Z (jn (zc Z (fun z198=>?_) (fun z198=>?_))))
 exact nf z198
 refine af (ac (js Z (jr ?_)))
 have hrun:aW (.node ⟨0,vr,ev,su,ix,fa⟩ a []) r=(true,q):=by rw[cB,if_pos hs1,←hq];unfold leaf;rfl
 refine⟨.inl Z,_,(ah [500,501,502,503] Z Z (e':=[(4,_)]) ⟨Z,tv⟩ Z).trans (aa 503 504 Z Z),_,Z,?_,?_⟩
 rw[hrun];rfl
 rw[hrun];rfl
 exact nt z37
theorem FQ{r:RS}(hst:bi ⟨2,vr,ev,su,ix,fa⟩=true)(hr:RSok r):MQ h1 h2 58 [.c (.pt 0 0 0),.c (.d (Tr.d (.node ⟨2,vr,ev,su,ix,fa⟩ a [])))] (rH 3 r) (aO (eB (aW (.node ⟨2,vr,ev,su,ix,fa⟩ a []) r).1) (rH 4 (aW (.node ⟨2,vr,ev,su,ix,fa⟩ a []) r).2)):=by
 refine MC.shift 500 Z (jH 219 [500,501,502,503] h1 h2 Tryz.func58 Z fun O hF=>?_)
 refine bJ ?_
 have hsf:=cV hst
 refine ac (js Z (jn (ac (jd Z (jb Z (jn (ae (ac (jd Z (jc Z (ba Z (js Z (ba Z (js Z (ba Z (js Z (ba Z (js Z (ba Z (js Z (ba Z (js Z (st (aV O Z Z Z Z Z) Z (js Z (ba Z (js Z (ba Z (ao O [500,501,502,503] (bin:=[jk 3 r,aE (r).vars,aE (r).cells,aE (r).events]) Z Z Z Z (t4 (r:=r) h1 h2 hr.lo (Int.le_trans hr.hi (Int.le_trans hr.fuel (by decide)))) Z Z Z Z Z Z (B0:=30000) Z Z (am ?_)))))))))))))))))))))))))))))
 refine ba Z (js Z (st (aV O Z Z Z Z Z) Z (jn (zc Z (fun z31=>?_) (fun z31=>?_)))))
 refine ac (js Z (jr ?_))
 have hs0:(aP r).1=false:=by cases h:(aP r).1 with|false=>rfl|true=>rw[h]at z31;cases z31
 have hrun:aW (.node ⟨2,vr,ev,su,ix,fa⟩ a []) r=(false,(aP r).2):=by rw[cB,if_neg (by rw[hs0];decide)]
 refine⟨.inl Z,_,(ah [500,501,502,503] Z Z (e':=[(4,_)]) ⟨Z,tv⟩ Z).trans (aa 503 504 Z Z),_,Z,?_,?_⟩
 rw[hrun];rfl
 rw[hrun];rfl
 refine af (ac ?_)
 have hs1:(aP r).1=true:=by cases h:(aP r).1 with|true=>rfl|false=>rw[h]at z31;cases z31
 have hr1:=hr.step.ok
 obtain⟨q,hq⟩: ∃q,q=(aP r).2:=⟨_,rfl⟩
 rw[←hq]at hr1 ⊢
 have hnv:=hr1.nv
 have hnc:=hr1.nc
 refine jb Z (jn (ae (ac (jd Z (jb Z (jn (zc Z (fun z37=>?_) (fun z37=>?_))))))))
 refine jw [5,4,0,1] Z (fJ [_,_,_,_,_,_,_,_,_,_,_,_,_,_,_,_] [p0,pz [0],pz [0,1],pz [0,1,2],pz (rg 0 4),p0,pe (rg 0 6) 0,pn [] 0 1,pn [7] 0 1,pn [7,8] 0 1,pn [7,8,9] 0 1,pn (rg 7 4) 0 1,pn [] 0 1,pe (rg 0 13) 1,pn (rg 0 14) 2 2,pn (rg 0 15) 2 2] [6,13] [_,_,_] (k4 Z (kc Z (kc Z (ai (bg O (B0:=45000) Z Z Z Z (kE (t:=su) (vars:=q.vars) h1 h2 hsf.1 hr1.vars) (.cons (.agg (ax Z)) (.cons (.c (.whole Z (by rw[bA];exact hnv.symm))) .nil)) Z Z Z Z Z) (ai (kc Z (V Z)) (ai (kc Z (V Z)) (ai (kc Z (V Z)) (ai (kc Z (V Z)) (ai (kc Z (V Z)) (ai (kc Z (V Z)) (ai (bg O (B0:=52000) Z Z Z Z (kE (t:=ix) (vars:=q.vars) h1 h2 hsf.2 hr1.vars) (.cons (.agg (ax Z)) (.cons (.c (.whole Z (by rw[bA];exact hnv.symm))) .nil)) Z Z Z Z Z) (kc Z (kc Z trivial))))))))))))) ?_)
 refine jw [7,6,5,4,0,1] Z (bJ ?_)
 refine ae (ac (jd Z (jc Z (ba Z (js Z (ba Z (js Z (ba Z (js Z (ba Z (js Z (ba Z (js Z (ba Z (js Z (st (aI O Z Z Z Z Z) Z (js Z (sk Z (sk Z (sk Z (st (aI O Z Z Z Z Z) Z (jn (zc Z (fun z70=>?_) (fun z70=>?_))))))))))))))))))))))))
 exact nf z70
 refine af (ae (ac (jd Z (jc Z (sk Z (sk Z (sk Z (sk Z (sk Z (sk Z (st (aV O Z Z Z Z Z) Z (js Z (ba Z (js Z (ba Z (lo Z (G7 h1 h2) 90000 Z (ba Z (js Z (st (aV O Z Z Z Z Z) Z (jn (zc Z (fun z91=>?_) (fun z91=>?_))))))))))))))))))))))
 refine ac (js Z ?_)
 have hb91:mB (aH su q.vars)=false:=by cases h:mB (aH su q.vars)with|false=>rfl|true=>exact absurd (show false=true from(by have h9:=z91;rw[h]at h9;exact h9)) (by decide)
 refine ao O [500,501,502,503] (bin:=[jk 3 q,aE (q).vars,aE (q).cells,aE (q).events]) Z Z Z Z (zw (r:=q) (x:=4) h1 h2) Z Z Z Z Z Z (B0:=94000) Z Z (am ?_)
 refine js Z (jr ?_)
 have hrun:aW (.node ⟨2,vr,ev,su,ix,fa⟩ a []) r=(false,{q with out:=4}):=by rw[cB,if_pos hs1,←hq];unfold leaf;rw[if_pos Z,if_neg (show¬mB (aH su q.vars)=true by rw[hb91];decide)]
 refine⟨.inl Z,_,(ah [500,501,502,503] Z Z (e':=[(4,_)]) ⟨Z,tv⟩ Z).trans (aa 503 504 Z Z),_,Z,?_,?_⟩
 rw[hrun];rfl
 rw[hrun];rfl
 refine af (ae (ac (jd Z (js Z (jn (ak (ac (jb Z (jn (zc Z (fun z99=>?_) (fun z99=>?_)))))))))))
 exact nf z99
 refine ac (jb Z (jn (zc Z (fun z119=>?_) (fun z119=>?_))))
 refine ag (jd Z (js Z ?_))
 have hb91:mB (aH su q.vars)=true:=by cases h:mB (aH su q.vars)with|true=>rfl|false=>exact absurd (show true=false from(by have h9:=z91;rw[h]at h9;exact h9)) (by decide)
 have hv:=qc hst Z
 have hv1:0≤vr:=hv.1
 have hv2:vr≤3:=hv.2
 refine jb Z (db Z Z (hp (bL (ex:=[.int .i64 (q.vars.getD vr.toNat default)]) (xs':=(q.vars.set vr.toNat (aH su q.vars)).map fun n=>[.int .i64 n]) O Z Z Z Z Z Z Z Z Z Z Z Z Z Z (by simp[show vr.toNat<q.vars.length by omega]) (by simp[List.map_set])) Z (am ?_)))
 refine jn (ac (js Z (jr ?_)))
 have hrun:aW (.node ⟨2,vr,ev,su,ix,fa⟩ a []) r=(true,{q with vars:=q.vars.set vr.toNat (aH su q.vars)}):=by rw[cB,if_pos hs1,←hq];unfold leaf;rw[if_pos Z,if_pos (show mB (aH su q.vars)=true from hb91)]
 refine⟨.inl Z,_,(ah [500,501,502,503] Z Z (e':=[(4,_)]) ⟨Z,tv⟩ Z).trans (aa 503 504 Z Z),_,Z,?_,?_⟩
 rw[hrun];rfl
 rw[hrun];rfl
 exact nt z119
 exact nt z37
theorem FP{r:RS}(hst:bi ⟨3,vr,ev,su,ix,fa⟩=true)(hr:RSok r):MQ h1 h2 58 [.c (.pt 0 0 0),.c (.d (Tr.d (.node ⟨3,vr,ev,su,ix,fa⟩ a [])))] (rH 3 r) (aO (eB (aW (.node ⟨3,vr,ev,su,ix,fa⟩ a []) r).1) (rH 4 (aW (.node ⟨3,vr,ev,su,ix,fa⟩ a []) r).2)):=by
 refine MC.shift 500 Z (jH 219 [500,501,502,503] h1 h2 Tryz.func58 Z fun O hF=>?_)
 refine bJ ?_
 have hsf:=cV hst
 refine ac (js Z (aN (jd Z (jb Z (jn (ae (ac (jd Z (jc Z (ba Z (js Z (ba Z (js Z (ba Z (js Z (ba Z (js Z (ba Z (js Z (ba Z (js Z (st (aV O Z Z Z Z Z) Z (js Z (ba Z (js Z (ba Z (ao O [500,501,502,503] (bin:=[jk 3 r,aE (r).vars,aE (r).cells,aE (r).events]) Z Z Z Z (t4 (r:=r) h1 h2 hr.lo (Int.le_trans hr.hi (Int.le_trans hr.fuel (by decide)))) Z Z Z Z Z Z (B0:=30000) Z Z (am ?_))))))))))))))))))))))))))))
 refine ba Z (js Z (st (aV O Z Z Z Z Z) Z (jn (zc Z (fun z31=>?_) (fun z31=>?_)))))
 refine ac (js Z (jr ?_))
 have hs0:(aP r).1=false:=by cases h:(aP r).1 with|false=>rfl|true=>rw[h]at z31;cases z31
 have hrun:aW (.node ⟨3,vr,ev,su,ix,fa⟩ a []) r=(false,(aP r).2):=by rw[cB,if_neg (by rw[hs0];decide)]
 refine⟨.inl Z,_,(ah [500,501,502,503] Z Z (e':=[(4,_)]) ⟨Z,tv⟩ Z).trans (aa 503 504 Z Z),_,Z,?_,?_⟩
 rw[hrun];rfl
 rw[hrun];rfl
 refine af (ac ?_)
 have hs1:(aP r).1=true:=by cases h:(aP r).1 with|true=>rfl|false=>rw[h]at z31;cases z31
 have hr1:=hr.step.ok
 obtain⟨q,hq⟩: ∃q,q=(aP r).2:=⟨_,rfl⟩
 rw[←hq]at hr1 ⊢
 have hnv:=hr1.nv
 have hnc:=hr1.nc
 refine jb Z (jn (ae (ac (jd Z (jb Z (jn (zc Z (fun z37=>?_) (fun z37=>?_))))))))
 refine jw [5,4,0,1] Z (fJ [_,_,_,_,_,_,_,_,_,_,_,_,_,_,_,_] [p0,pz [0],pz [0,1],pz [0,1,2],pz (rg 0 4),p0,pe (rg 0 6) 0,pn [] 0 1,pn [7] 0 1,pn [7,8] 0 1,pn [7,8,9] 0 1,pn (rg 7 4) 0 1,pn [] 0 1,pe (rg 0 13) 1,pn (rg 0 14) 2 2,pn (rg 0 15) 2 2] [6,13] [_,_,_] (k4 Z (kc Z (kc Z (ai (bg O (B0:=45000) Z Z Z Z (kE (t:=su) (vars:=q.vars) h1 h2 hsf.1 hr1.vars) (.cons (.agg (ax Z)) (.cons (.c (.whole Z (by rw[bA];exact hnv.symm))) .nil)) Z Z Z Z Z) (ai (kc Z (V Z)) (ai (kc Z (V Z)) (ai (kc Z (V Z)) (ai (kc Z (V Z)) (ai (kc Z (V Z)) (ai (kc Z (V Z)) (ai (bg O (B0:=52000) Z Z Z Z (kE (t:=ix) (vars:=q.vars) h1 h2 hsf.2 hr1.vars) (.cons (.agg (ax Z)) (.cons (.c (.whole Z (by rw[bA];exact hnv.symm))) .nil)) Z Z Z Z Z) (kc Z (kc Z trivial))))))))))))) ?_)
 refine jw [7,6,5,4,0,1] Z (bJ ?_)
 refine ae (ac (jd Z (jc Z (sk Z (sk Z (sk Z (sk Z (sk Z (sk Z (st (aV O Z Z Z Z Z) Z (js Z (ba Z (js Z (ba Z (lo Z (pQ h1 h2) 69000 Z (ba Z (js Z (st (aV O Z Z Z Z Z) Z (jn (zc Z (fun z70=>?_) (fun z70=>?_)))))))))))))))))))))
 refine ac (js Z ?_)
 have hb70:eW 0 7 (aH ix q.vars)=false:=by cases h:eW 0 7 (aH ix q.vars)with|false=>rfl|true=>exact absurd (show false=true from(by have h9:=z70;rw[h]at h9;exact h9)) (by decide)
 refine ao O [500,501,502,503] (bin:=[jk 3 q,aE (q).vars,aE (q).cells,aE (q).events]) Z Z Z Z (zw (r:=q) (x:=2) h1 h2) Z Z Z Z Z Z (B0:=73000) Z Z (am ?_)
 refine js Z (jr ?_)
 have hrun:aW (.node ⟨3,vr,ev,su,ix,fa⟩ a []) r=(false,{q with out:=2}):=by rw[cB,if_pos hs1,←hq];unfold leaf;rw[if_neg (by decide: ¬(3:Int)=2),if_pos Z,if_neg (show¬eW 0 7 (aH ix q.vars)=true by rw[hb70];decide)]
 refine⟨.inl Z,_,(ah [500,501,502,503] Z Z (e':=[(4,_)]) ⟨Z,tv⟩ Z).trans (aa 503 504 Z Z),_,Z,?_,?_⟩
 rw[hrun];rfl
 rw[hrun];rfl
 refine af (ae (ac ?_))
 have hb70:eW 0 7 (aH ix q.vars)=true:=by cases h:eW 0 7 (aH ix q.vars)with|true=>rfl|false=>exact absurd (show true=false from(by have h9:=z70;rw[h]at h9;exact h9)) (by decide)
 have hin0:0≤aH ix q.vars∧aH ix q.vars≤7:=by simpa[eW]using hb70
 have hin1:=hin0.1
 have hin2:=hin0.2
 have hv:=qc hst Z
 have hv1:0≤vr:=hv.1
 have hv2:vr≤3:=hv.2
 refine jd Z (jc Z (ba Z (js Z (ba Z (js Z (ba Z (js Z (ba Z (js Z (ba Z (js Z (ba Z (js Z (st (aI O Z Z Z Z Z) Z (js Z (sk Z (sk Z (sk Z (st (aI O Z Z Z Z Z) Z (jn (zc Z (fun z91=>?_) (fun z91=>?_))))))))))))))))))))))
 exact nf z91
 refine af (ae (ac (jd Z (js Z (jn (ak (ac (jb Z (jn (zc Z (fun z99=>?_) (fun z99=>?_)))))))))))
 exact nf z99
 refine ac (jb Z (jn (zc Z (fun z119=>?_) (fun z119=>?_))))
 exact nf z119
 refine ac (jb Z (jn (zc Z (fun z129=>?_) (fun z129=>?_))))
 refine jw [100,98,7,6,5,4,0,1] Z (fJ [_,_,_,_,_,_,_,_,_,_,_,_,_,_,_,_] [p0,p0,pz [1],pz [1,2],pz [1,2,3],pz (rg 1 4),p0,pz [6],pz [6,7],pz [6,7,8],pz (rg 6 4),p0,pz (rg 6 6),pz (rg 6 7),pz (rg 0 14),pe (rg 0 15) 0] [15] [_,_] (k4 Z (k4 Z (k4 Z (ai (vI Z Z) (ai (bc O (ex:=[.int .i64 (q.cells.getD (aH ix q.vars).toNat default)]) Z Z Z Z (by simp[show(aH ix q.vars).toNat<q.cells.length by omega]) Z) (ai (vI Z Z) (ai (cE (ex:=[.int .i64 (q.vars.getD vr.toNat default)]) (xs':=(q.vars.set vr.toNat (q.cells.getD (aH ix q.vars).toNat default)).map fun n=>[.int .i64 n]) O Z Z Z Z Z Z Z Z Z Z Z Z Z Z Z (by simp[show vr.toNat<q.vars.length by omega]) (by simp[List.map_set]) Z) trivial))))))) ?_)
 refine jw [100,98,7,6,5,4,0,1] Z (bJ ?_)
 refine ac (js Z (jr ?_))
 have hrun:aW (.node ⟨3,vr,ev,su,ix,fa⟩ a []) r=(true,{q with vars:=q.vars.set vr.toNat (q.cells.getD (aH ix q.vars).toNat default)}):=by rw[cB,if_pos hs1,←hq];unfold leaf;rw[if_neg (by decide: ¬(3:Int)=2),if_pos Z,if_pos (show eW 0 7 (aH ix q.vars)=true from hb70)]
 refine⟨.inl Z,_,(ah [500,501,502,503] Z Z (e':=[(4,_)]) ⟨Z,tv⟩ Z).trans (aa 503 504 Z Z),_,Z,?_,?_⟩
 rw[hrun];rfl
 rw[hrun];rfl
 exact nt z129
 exact nt z37
theorem FO{r:RS}(hst:bi ⟨4,vr,ev,su,ix,fa⟩=true)(hr:RSok r):MQ h1 h2 58 [.c (.pt 0 0 0),.c (.d (Tr.d (.node ⟨4,vr,ev,su,ix,fa⟩ a [])))] (rH 3 r) (aO (eB (aW (.node ⟨4,vr,ev,su,ix,fa⟩ a []) r).1) (rH 4 (aW (.node ⟨4,vr,ev,su,ix,fa⟩ a []) r).2)):=by
 refine MC.shift 500 Z (jH 219 [500,501,502,503] h1 h2 Tryz.func58 Z fun O hF=>?_)
 refine bJ ?_
 have hsf:=cV hst
 refine ac (js Z (jn (ac (jd Z (jb Z (jn (ae (ac (jd Z (jc Z (ba Z (js Z (ba Z (js Z (ba Z (js Z (ba Z (js Z (ba Z (js Z (ba Z (js Z (st (aV O Z Z Z Z Z) Z (js Z (ba Z (js Z (ba Z (ao O [500,501,502,503] (bin:=[jk 3 r,aE (r).vars,aE (r).cells,aE (r).events]) Z Z Z Z (t4 (r:=r) h1 h2 hr.lo (Int.le_trans hr.hi (Int.le_trans hr.fuel (by decide)))) Z Z Z Z Z Z (B0:=30000) Z Z (am ?_)))))))))))))))))))))))))))))
 refine ba Z (js Z (st (aV O Z Z Z Z Z) Z (jn (zc Z (fun z31=>?_) (fun z31=>?_)))))
 refine ac (js Z (jr ?_))
 have hs0:(aP r).1=false:=by cases h:(aP r).1 with|false=>rfl|true=>rw[h]at z31;cases z31
 have hrun:aW (.node ⟨4,vr,ev,su,ix,fa⟩ a []) r=(false,(aP r).2):=by rw[cB,if_neg (by rw[hs0];decide)]
 refine⟨.inl Z,_,(ah [500,501,502,503] Z Z (e':=[(4,_)]) ⟨Z,tv⟩ Z).trans (aa 503 504 Z Z),_,Z,?_,?_⟩
 rw[hrun];rfl
 rw[hrun];rfl
 refine af (ac ?_)
 have hs1:(aP r).1=true:=by cases h:(aP r).1 with|true=>rfl|false=>rw[h]at z31;cases z31
 have hr1:=hr.step.ok
 obtain⟨q,hq⟩: ∃q,q=(aP r).2:=⟨_,rfl⟩
 rw[←hq]at hr1 ⊢
 have hnv:=hr1.nv
 have hnc:=hr1.nc
 refine jb Z (jn (ae (ac (jd Z (jb Z (jn (zc Z (fun z37=>?_) (fun z37=>?_))))))))
 refine jw [5,4,0,1] Z (fJ [_,_,_,_,_,_,_,_,_,_,_,_,_,_,_,_] [p0,pz [0],pz [0,1],pz [0,1,2],pz (rg 0 4),p0,pe (rg 0 6) 0,pn [] 0 1,pn [7] 0 1,pn [7,8] 0 1,pn [7,8,9] 0 1,pn (rg 7 4) 0 1,pn [] 0 1,pe (rg 0 13) 1,pn (rg 0 14) 2 2,pn (rg 0 15) 2 2] [6,13] [_,_,_] (k4 Z (kc Z (kc Z (ai (bg O (B0:=45000) Z Z Z Z (kE (t:=su) (vars:=q.vars) h1 h2 hsf.1 hr1.vars) (.cons (.agg (ax Z)) (.cons (.c (.whole Z (by rw[bA];exact hnv.symm))) .nil)) Z Z Z Z Z) (ai (kc Z (V Z)) (ai (kc Z (V Z)) (ai (kc Z (V Z)) (ai (kc Z (V Z)) (ai (kc Z (V Z)) (ai (kc Z (V Z)) (ai (bg O (B0:=52000) Z Z Z Z (kE (t:=ix) (vars:=q.vars) h1 h2 hsf.2 hr1.vars) (.cons (.agg (ax Z)) (.cons (.c (.whole Z (by rw[bA];exact hnv.symm))) .nil)) Z Z Z Z Z) (kc Z (kc Z trivial))))))))))))) ?_)
 refine jw [7,6,5,4,0,1] Z (bJ ?_)
 refine ae (ac (jd Z (jc Z (ba Z (js Z (ba Z (js Z (ba Z (js Z (ba Z (js Z (ba Z (js Z (ba Z (js Z (st (aI O Z Z Z Z Z) Z (js Z (ba Z (js Z (ba Z (lo Z (pQ h1 h2) 69000 Z (ba Z (js Z (st (aV O Z Z Z Z Z) Z (jn (zc Z (fun z70=>?_) (fun z70=>?_)))))))))))))))))))))))))))
 refine ac (js Z ?_)
 have hb70:eW 0 7 (aH ix q.vars)=false:=by cases h:eW 0 7 (aH ix q.vars)with|false=>rfl|true=>exact absurd (show false=true from(by have h9:=z70;rw[h]at h9;exact h9)) (by decide)
 refine ao O [500,501,502,503] (bin:=[jk 3 q,aE (q).vars,aE (q).cells,aE (q).events]) Z Z Z Z (zw (r:=q) (x:=2) h1 h2) Z Z Z Z Z Z (B0:=73000) Z Z (am ?_)
 refine js Z (jr ?_)
 have hrun:aW (.node ⟨4,vr,ev,su,ix,fa⟩ a []) r=(false,{q with out:=2}):=by rw[cB,if_pos hs1,←hq];unfold leaf;rw[if_neg (by decide: ¬(4:Int)=2),if_neg (by decide: ¬(4:Int)=3),if_pos Z,if_neg (show¬eW 0 7 (aH ix q.vars)=true by rw[hb70];decide)]
 refine⟨.inl Z,_,(ah [500,501,502,503] Z Z (e':=[(4,_)]) ⟨Z,tv⟩ Z).trans (aa 503 504 Z Z),_,Z,?_,?_⟩
 rw[hrun];rfl
 rw[hrun];rfl
 refine af (ae (ac ?_))
 have hb70:eW 0 7 (aH ix q.vars)=true:=by cases h:eW 0 7 (aH ix q.vars)with|true=>rfl|false=>exact absurd (show true=false from(by have h9:=z70;rw[h]at h9;exact h9)) (by decide)
 have hin0:0≤aH ix q.vars∧aH ix q.vars≤7:=by simpa[eW]using hb70
 have hin1:=hin0.1
 have hin2:=hin0.2
 refine jd Z (jc Z (ba Z (js Z (ba Z (js Z (ba Z (js Z (ba Z (js Z (ba Z (js Z (ba Z (js Z (st (aI O Z Z Z Z Z) Z (js Z (ba Z (js Z (ba Z (lo Z (G7 h1 h2) 90000 Z (ba Z (js Z (st (aV O Z Z Z Z Z) Z (jn (zc Z (fun z91=>?_) (fun z91=>?_)))))))))))))))))))))))))
 refine ac (js Z ?_)
 have hb91:mB (aH su q.vars)=false:=by cases h:mB (aH su q.vars)with|false=>rfl|true=>exact absurd (show false=true from(by have h9:=z91;rw[h]at h9;exact h9)) (by decide)
 refine ao O [500,501,502,503] (bin:=[jk 3 q,aE (q).vars,aE (q).cells,aE (q).events]) Z Z Z Z (zw (r:=q) (x:=4) h1 h2) Z Z Z Z Z Z (B0:=94000) Z Z (am ?_)
 refine js Z (jr ?_)
 have hrun:aW (.node ⟨4,vr,ev,su,ix,fa⟩ a []) r=(false,{q with out:=4}):=by rw[cB,if_pos hs1,←hq];unfold leaf;rw[if_neg (by decide: ¬(4:Int)=2),if_neg (by decide: ¬(4:Int)=3),if_pos Z,if_pos (show eW 0 7 (aH ix q.vars)=true from hb70),if_neg (show¬mB (aH su q.vars)=true by rw[hb91];decide)]
 refine⟨.inl Z,_,(ah [500,501,502,503] Z Z (e':=[(4,_)]) ⟨Z,tv⟩ Z).trans (aa 503 504 Z Z),_,Z,?_,?_⟩
 rw[hrun];rfl
 rw[hrun];rfl
 refine af (ae (ac ?_))
 have hb91:mB (aH su q.vars)=true:=by cases h:mB (aH su q.vars)with|true=>rfl|false=>exact absurd (show true=false from(by have h9:=z91;rw[h]at h9;exact h9)) (by decide)
 refine jd Z (js Z (jn (ak (ac (jb Z (jn (zc Z (fun z99=>?_) (fun z99=>?_))))))))
 exact nf z99
 refine ac (jb Z (jn (zc Z (fun z119=>?_) (fun z119=>?_))))
 exact nf z119
 refine ac (jb Z (jn (zc Z (fun z129=>?_) (fun z129=>?_))))
 exact nf z129
 refine ac (jb Z (jn (zc Z (fun z146=>?_) (fun z146=>?_))))
 refine ag (jd Z (jc Z (db Z Z (hp (bL (ex:=[.int .i64 (q.cells.getD (aH ix q.vars).toNat default)]) (xs':=(q.cells.set (aH ix q.vars).toNat (aH su q.vars)).map fun n=>[.int .i64 n]) O Z Z Z Z Z Z Z Z Z Z Z Z Z Z (by simp[show(aH ix q.vars).toNat<q.cells.length by omega]) (by simp[List.map_set])) Z (am ?_)))))
 refine jn (ac (js Z (jr ?_)))
 have hrun:aW (.node ⟨4,vr,ev,su,ix,fa⟩ a []) r=(true,{q with cells:=q.cells.set (aH ix q.vars).toNat (aH su q.vars)}):=by rw[cB,if_pos hs1,←hq];unfold leaf;rw[if_neg (by decide: ¬(4:Int)=2),if_neg (by decide: ¬(4:Int)=3),if_pos Z,if_pos (show eW 0 7 (aH ix q.vars)=true from hb70),if_pos (show mB (aH su q.vars)=true from hb91)]
 refine⟨.inl Z,_,(ah [500,501,502,503] Z Z (e':=[(4,_)]) ⟨Z,tv⟩ Z).trans (aa 503 504 Z Z),_,Z,?_,?_⟩
 rw[hrun];rfl
 rw[hrun];rfl
 exact nt z146
 exact nt z37
theorem FN{r:RS}(hst:bi ⟨5,vr,ev,su,ix,fa⟩=true)(hr:RSok r):MQ h1 h2 58 [.c (.pt 0 0 0),.c (.d (Tr.d (.node ⟨5,vr,ev,su,ix,fa⟩ a [])))] (rH 3 r) (aO (eB (aW (.node ⟨5,vr,ev,su,ix,fa⟩ a []) r).1) (rH 4 (aW (.node ⟨5,vr,ev,su,ix,fa⟩ a []) r).2)):=by
 refine MC.shift 500 Z (jH 219 [500,501,502,503] h1 h2 Tryz.func58 Z fun O hF=>?_)
 refine bJ ?_
 have hsf:=cV hst
 refine ac (js Z (aN (jd Z (jb Z (jn (ae (ac (jd Z (jc Z (ba Z (js Z (ba Z (js Z (ba Z (js Z (ba Z (js Z (ba Z (js Z (ba Z (js Z (st (aV O Z Z Z Z Z) Z (js Z (ba Z (js Z (ba Z (ao O [500,501,502,503] (bin:=[jk 3 r,aE (r).vars,aE (r).cells,aE (r).events]) Z Z Z Z (t4 (r:=r) h1 h2 hr.lo (Int.le_trans hr.hi (Int.le_trans hr.fuel (by decide)))) Z Z Z Z Z Z (B0:=30000) Z Z (am ?_))))))))))))))))))))))))))))
 refine ba Z (js Z (st (aV O Z Z Z Z Z) Z (jn (zc Z (fun z31=>?_) (fun z31=>?_)))))
 refine ac (js Z (jr ?_))
 have hs0:(aP r).1=false:=by cases h:(aP r).1 with|false=>rfl|true=>rw[h]at z31;cases z31
 have hrun:aW (.node ⟨5,vr,ev,su,ix,fa⟩ a []) r=(false,(aP r).2):=by rw[cB,if_neg (by rw[hs0];decide)]
 refine⟨.inl Z,_,(ah [500,501,502,503] Z Z (e':=[(4,_)]) ⟨Z,tv⟩ Z).trans (aa 503 504 Z Z),_,Z,?_,?_⟩
 rw[hrun];rfl
 rw[hrun];rfl
 refine af (ac ?_)
 have hs1:(aP r).1=true:=by cases h:(aP r).1 with|true=>rfl|false=>rw[h]at z31;cases z31
 have hr1:=hr.step.ok
 obtain⟨q,hq⟩: ∃q,q=(aP r).2:=⟨_,rfl⟩
 rw[←hq]at hr1 ⊢
 have hnv:=hr1.nv
 have hnc:=hr1.nc
 refine jb Z (jn (ae (ac (jd Z (jb Z (jn (zc Z (fun z37=>?_) (fun z37=>?_))))))))
 refine jw [5,4,0,1] Z (fJ [_,_,_,_,_,_,_,_,_,_,_,_,_,_,_,_] [p0,pz [0],pz [0,1],pz [0,1,2],pz (rg 0 4),p0,pe (rg 0 6) 0,pn [] 0 1,pn [7] 0 1,pn [7,8] 0 1,pn [7,8,9] 0 1,pn (rg 7 4) 0 1,pn [] 0 1,pe (rg 0 13) 1,pn (rg 0 14) 2 2,pn (rg 0 15) 2 2] [6,13] [_,_,_] (k4 Z (kc Z (kc Z (ai (bg O (B0:=45000) Z Z Z Z (kE (t:=su) (vars:=q.vars) h1 h2 hsf.1 hr1.vars) (.cons (.agg (ax Z)) (.cons (.c (.whole Z (by rw[bA];exact hnv.symm))) .nil)) Z Z Z Z Z) (ai (kc Z (V Z)) (ai (kc Z (V Z)) (ai (kc Z (V Z)) (ai (kc Z (V Z)) (ai (kc Z (V Z)) (ai (kc Z (V Z)) (ai (bg O (B0:=52000) Z Z Z Z (kE (t:=ix) (vars:=q.vars) h1 h2 hsf.2 hr1.vars) (.cons (.agg (ax Z)) (.cons (.c (.whole Z (by rw[bA];exact hnv.symm))) .nil)) Z Z Z Z Z) (kc Z (kc Z trivial))))))))))))) ?_)
 refine jw [7,6,5,4,0,1] Z (bJ ?_)
 refine ae (ac (jd Z (jc Z (ba Z (js Z (ba Z (js Z (ba Z (js Z (ba Z (js Z (ba Z (js Z (ba Z (js Z (st (aI O Z Z Z Z Z) Z (js Z (sk Z (sk Z (sk Z (st (aI O Z Z Z Z Z) Z (jn (zc Z (fun z70=>?_) (fun z70=>?_))))))))))))))))))))))))
 exact nf z70
 refine af (ae (ac (jd Z (jc Z (ba Z (js Z (ba Z (js Z (ba Z (js Z (ba Z (js Z (ba Z (js Z (ba Z (js Z (st (aI O Z Z Z Z Z) Z (js Z (sk Z (sk Z (sk Z (st (aI O Z Z Z Z Z) Z (jn (zc Z (fun z91=>?_) (fun z91=>?_)))))))))))))))))))))))))
 exact nf z91
 refine af (ae (ac (jd Z (js Z (jn (ak (ac (jb Z (jn (zc Z (fun z99=>?_) (fun z99=>?_)))))))))))
 exact nf z99
 refine ac (jb Z (jn (zc Z (fun z119=>?_) (fun z119=>?_))))
 exact nf z119
 refine ac (jb Z (jn (zc Z (fun z129=>?_) (fun z129=>?_))))
 exact nf z129
 refine ac (jb Z (jn (zc Z (fun z146=>?_) (fun z146=>?_))))
 exact nf z146
 refine ac (jb Z (jn (zc Z (fun z156=>?_) (fun z156=>?_))))
 refine jw [100,98,7,6,5,4,0,1] Z ?_
 have hev:=hr1.events
 have hhi:=hr1.hi
 have hfu:=hr1.fuel
 refine kx [_,_,_,_,_,_,_,_,_,_,_,_,_,_,_] [pn [] 0 2,pn [] 0 1,pn [1] 0 1,pn [1,2] 0 1,pn [1,2,3] 0 1,p0,pz [5],pz [5,6],pz [5,6,7],pz (rg 5 4),pe (rg 5 5) 0,pe (rg 1 10) 1,pn (rg 0 12) 2 2,pn (rg 0 13) 2 2,pe (rg 0 14) 2] [10,11,14] [_,_,_,_] [[],[503,168],[]] (ai (ka Z Z (ka Z Z (kw Z Z))) (ai (ka Z Z (kw Z Z)) (ai (ka Z Z (kw Z Z)) (ai (ka Z Z (kw Z Z)) (ai (ka Z Z (kw Z Z)) (ka Z Z (ka Z Z (ka Z Z (ka Z Z (ka Z Z (ai (ai (az (jG O Z Z Z Z Z Z Z Z Z Z Z Z Z)) Z) (ai (ai (dq (zs:=(q.events++[ev]).map fun n=>[.int .i64 n]) (n:=(q.events++[ev]).length) O Z Z Z Z Z Z Z Z Z Z Z Z Z Z Z Z (.row Z (bA _).symm) Z Z (by decide) Z (by rw[bA];show q.events.length+1≤L;omega) (by rw[bA];show(q.events.length+1)*8≤_;omega) (by simp) (bA _) Z) Z) (ka Z Z (ka Z Z (ai (ai (az (eS Z Z Z)) Z) trivial))))))))))))))) ?_
 refine jw [100,98,7,6,5,4,0,1] Z (bJ ?_)
 refine ac (js Z (jr ?_))
 have hrun:aW (.node ⟨5,vr,ev,su,ix,fa⟩ a []) r=(true,{q with events:=q.events++[ev]}):=by rw[cB,if_pos hs1,←hq];unfold leaf;rfl
 refine⟨.inl Z,_,(ah [500,501,502,169] Z Z (e':=[(4,_)]) ⟨Z,tv⟩ Z).trans (aa 169 504 Z Z),_,Z,?_,?_⟩
 rw[hrun];rfl
 rw[hrun];rfl
 exact nt z156
 exact nt z37
theorem FL{r:RS}(hst:bi ⟨6,vr,ev,su,ix,fa⟩=true)(hr:RSok r):MQ h1 h2 58 [.c (.pt 0 0 0),.c (.d (Tr.d (.node ⟨6,vr,ev,su,ix,fa⟩ a [])))] (rH 3 r) (aO (eB (aW (.node ⟨6,vr,ev,su,ix,fa⟩ a []) r).1) (rH 4 (aW (.node ⟨6,vr,ev,su,ix,fa⟩ a []) r).2)):=by
 refine MC.shift 500 Z (jH 219 [500,501,502,503] h1 h2 Tryz.func58 Z fun O hF=>?_)
 refine bJ ?_
 have hsf:=cV hst
 refine ac (js Z (aN (jd Z (jb Z (jn (ae (ac (jd Z (jc Z (ba Z (js Z (ba Z (js Z (ba Z (js Z (ba Z (js Z (ba Z (js Z (ba Z (js Z (st (aV O Z Z Z Z Z) Z (js Z (ba Z (js Z (ba Z (ao O [500,501,502,503] (bin:=[jk 3 r,aE (r).vars,aE (r).cells,aE (r).events]) Z Z Z Z (t4 (r:=r) h1 h2 hr.lo (Int.le_trans hr.hi (Int.le_trans hr.fuel (by decide)))) Z Z Z Z Z Z (B0:=30000) Z Z (am ?_))))))))))))))))))))))))))))
 refine ba Z (js Z (st (aV O Z Z Z Z Z) Z (jn (zc Z (fun z31=>?_) (fun z31=>?_)))))
 refine ac (js Z (jr ?_))
 have hs0:(aP r).1=false:=by cases h:(aP r).1 with|false=>rfl|true=>rw[h]at z31;cases z31
 have hrun:aW (.node ⟨6,vr,ev,su,ix,fa⟩ a []) r=(false,(aP r).2):=by rw[cB,if_neg (by rw[hs0];decide)]
 refine⟨.inl Z,_,(ah [500,501,502,503] Z Z (e':=[(4,_)]) ⟨Z,tv⟩ Z).trans (aa 503 504 Z Z),_,Z,?_,?_⟩
 rw[hrun];rfl
 rw[hrun];rfl
 refine af (ac ?_)
 have hs1:(aP r).1=true:=by cases h:(aP r).1 with|true=>rfl|false=>rw[h]at z31;cases z31
 have hr1:=hr.step.ok
 obtain⟨q,hq⟩: ∃q,q=(aP r).2:=⟨_,rfl⟩
 rw[←hq]at hr1 ⊢
 have hnv:=hr1.nv
 have hnc:=hr1.nc
 refine jb Z (jn (ae (ac (jd Z (jb Z (jn (zc Z (fun z37=>?_) (fun z37=>?_))))))))
 refine jw [5,4,0,1] Z (fJ [_,_,_,_,_,_,_,_,_,_,_,_,_,_,_,_] [p0,pz [0],pz [0,1],pz [0,1,2],pz (rg 0 4),p0,pe (rg 0 6) 0,pn [] 0 1,pn [7] 0 1,pn [7,8] 0 1,pn [7,8,9] 0 1,pn (rg 7 4) 0 1,pn [] 0 1,pe (rg 0 13) 1,pn (rg 0 14) 2 2,pn (rg 0 15) 2 2] [6,13] [_,_,_] (k4 Z (kc Z (kc Z (ai (bg O (B0:=45000) Z Z Z Z (kE (t:=su) (vars:=q.vars) h1 h2 hsf.1 hr1.vars) (.cons (.agg (ax Z)) (.cons (.c (.whole Z (by rw[bA];exact hnv.symm))) .nil)) Z Z Z Z Z) (ai (kc Z (V Z)) (ai (kc Z (V Z)) (ai (kc Z (V Z)) (ai (kc Z (V Z)) (ai (kc Z (V Z)) (ai (kc Z (V Z)) (ai (bg O (B0:=52000) Z Z Z Z (kE (t:=ix) (vars:=q.vars) h1 h2 hsf.2 hr1.vars) (.cons (.agg (ax Z)) (.cons (.c (.whole Z (by rw[bA];exact hnv.symm))) .nil)) Z Z Z Z Z) (kc Z (kc Z trivial))))))))))))) ?_)
 refine jw [7,6,5,4,0,1] Z (bJ ?_)
 refine ae (ac (jd Z (jc Z (ba Z (js Z (ba Z (js Z (ba Z (js Z (ba Z (js Z (ba Z (js Z (ba Z (js Z (st (aI O Z Z Z Z Z) Z (js Z (sk Z (sk Z (sk Z (st (aI O Z Z Z Z Z) Z (jn (zc Z (fun z70=>?_) (fun z70=>?_))))))))))))))))))))))))
 exact nf z70
 refine af (ae (ac (jd Z (jc Z (ba Z (js Z (ba Z (js Z (ba Z (js Z (ba Z (js Z (ba Z (js Z (ba Z (js Z (st (aI O Z Z Z Z Z) Z (js Z (sk Z (sk Z (sk Z (st (aI O Z Z Z Z Z) Z (jn (zc Z (fun z91=>?_) (fun z91=>?_)))))))))))))))))))))))))
 exact nf z91
 refine af (ae (ac (jd Z (js Z (jn (ak (ac (jb Z (jn (zc Z (fun z99=>?_) (fun z99=>?_)))))))))))
 exact nf z99
 refine ac (jb Z (jn (zc Z (fun z119=>?_) (fun z119=>?_))))
 exact nf z119
 refine ac (jb Z (jn (zc Z (fun z129=>?_) (fun z129=>?_))))
 exact nf z129
 refine ac (jb Z (jn (zc Z (fun z146=>?_) (fun z146=>?_))))
 exact nf z146
 refine ac (jb Z (jn (zc Z (fun z156=>?_) (fun z156=>?_))))
 exact nf z156
 refine ac (jb Z (jn (zc Z (fun z172=>?_) (fun z172=>?_))))
 refine ac (jb Z (jn (zc Z (fun z175=>?_) (fun z175=>?_))))
 refine ac (js Z (ao O [500,501,502,503] (bin:=[jk 3 q,aE (q).vars,aE (q).cells,aE (q).events]) Z Z Z Z (zw (r:=q) (x:=3) h1 h2) Z Z Z Z Z Z (B0:=178000) Z Z (am ?_)))
 refine js Z (jr ?_)
 have hrun:aW (.node ⟨6,vr,ev,su,ix,fa⟩ a []) r=(false,{q with out:=3}):=by rw[cB,if_pos hs1,←hq];unfold leaf;rw[if_neg (by decide: ¬(6:Int)=2),if_neg (by decide: ¬(6:Int)=3),if_neg (by decide: ¬(6:Int)=4),if_neg (by decide: ¬(6:Int)=5),if_pos Z,if_pos (bt z175)]
 refine⟨.inl Z,_,(ah [500,501,502,503] Z Z (e':=[(4,_)]) ⟨Z,tv⟩ Z).trans (aa 503 504 Z Z),_,Z,?_,?_⟩
 rw[hrun];rfl
 rw[hrun];rfl
 refine af (ac (js Z (jr ?_)))
 have hrun:aW (.node ⟨6,vr,ev,su,ix,fa⟩ a []) r=(true,q):=by rw[cB,if_pos hs1,←hq];unfold leaf;rw[if_neg (by decide: ¬(6:Int)=2),if_neg (by decide: ¬(6:Int)=3),if_neg (by decide: ¬(6:Int)=4),if_neg (by decide: ¬(6:Int)=5),if_pos Z,if_neg (b9 z175)]
 refine⟨.inl Z,_,(ah [500,501,502,503] Z Z (e':=[(4,_)]) ⟨Z,tv⟩ Z).trans (aa 503 504 Z Z),_,Z,?_,?_⟩
 rw[hrun];rfl
 rw[hrun];rfl
 exact nt z172
 exact nt z37
theorem FK{x y:Tr}{r:RS}(hst:bi ⟨7,vr,ev,su,ix,fa⟩=true)(hr:RSok r)(ihx: ∀r,RSok r→MQ h1 h2 58 [.c (.pt 0 0 0),.c (.d x.d)] (rH 3 r) (aO (eB (aW x r).1) (rH 4 (aW x r).2)))(ihy: ∀r,RSok r→MQ h1 h2 58 [.c (.pt 0 0 0),.c (.d y.d)] (rH 3 r) (aO (eB (aW y r).1) (rH 4 (aW y r).2))):MQ h1 h2 58 [.c (.pt 0 0 0),.c (.d (Tr.d (.node ⟨7,vr,ev,su,ix,fa⟩ a [x,y])))] (rH 3 r) (aO (eB (aW (.node ⟨7,vr,ev,su,ix,fa⟩ a [x,y]) r).1) (rH 4 (aW (.node ⟨7,vr,ev,su,ix,fa⟩ a [x,y]) r).2)):=by
 refine MC.shift 500 Z (jH 219 [500,501,502,503] h1 h2 Tryz.func58 Z fun O hF=>?_)
 refine bJ ?_
 have hsf:=cV hst
 refine ac (js Z (aN (jd Z (jb Z (jn (ae (ac (jd Z (jc Z (ba Z (js Z (ba Z (js Z (ba Z (js Z (ba Z (js Z (ba Z (js Z (ba Z (js Z (st (aV O Z Z Z Z Z) Z (js Z (ba Z (js Z (ba Z (ao O [500,501,502,503] (bin:=[jk 3 r,aE (r).vars,aE (r).cells,aE (r).events]) Z Z Z Z (t4 (r:=r) h1 h2 hr.lo (Int.le_trans hr.hi (Int.le_trans hr.fuel (by decide)))) Z Z Z Z Z Z (B0:=30000) Z Z (am ?_))))))))))))))))))))))))))))
 refine ba Z (js Z (st (aV O Z Z Z Z Z) Z (jn (zc Z (fun z31=>?_) (fun z31=>?_)))))
 refine ac (js Z (jr ?_))
 have hs0:(aP r).1=false:=by cases h:(aP r).1 with|false=>rfl|true=>rw[h]at z31;cases z31
 have hrun:aW (.node ⟨7,vr,ev,su,ix,fa⟩ a [x,y]) r=(false,(aP r).2):=by rw[gc,if_neg (by decide: ¬(7:Int)=1),if_neg (by rw[hs0];decide)]
 refine⟨.inl Z,_,(ah [500,501,502,503] Z Z (e':=[(4,_)]) ⟨Z,tv⟩ Z).trans (aa 503 504 Z Z),_,Z,?_,?_⟩
 rw[hrun];rfl
 rw[hrun];rfl
 refine af (ac ?_)
 have hs1:(aP r).1=true:=by cases h:(aP r).1 with|true=>rfl|false=>rw[h]at z31;cases z31
 have hr1:=hr.step.ok
 obtain⟨q,hq⟩: ∃q,q=(aP r).2:=⟨_,rfl⟩
 rw[←hq]at hr1 ⊢
 have hnv:=hr1.nv
 have hnc:=hr1.nc
 refine jb Z (jn (ae (ac (jd Z (jb Z (jn (zc Z (fun z37=>?_) (fun z37=>?_))))))))
 refine jw [5,4,0,1] Z (fJ [_,_,_,_,_,_,_,_,_,_,_,_,_,_,_,_] [p0,pz [0],pz [0,1],pz [0,1,2],pz (rg 0 4),p0,pe (rg 0 6) 0,pn [] 0 1,pn [7] 0 1,pn [7,8] 0 1,pn [7,8,9] 0 1,pn (rg 7 4) 0 1,pn [] 0 1,pe (rg 0 13) 1,pn (rg 0 14) 2 2,pn (rg 0 15) 2 2] [6,13] [_,_,_] (k4 Z (kc Z (kc Z (ai (bg O (B0:=45000) Z Z Z Z (kE (t:=su) (vars:=q.vars) h1 h2 hsf.1 hr1.vars) (.cons (.agg (ax Z)) (.cons (.c (.whole Z (by rw[bA];exact hnv.symm))) .nil)) Z Z Z Z Z) (ai (kc Z (V Z)) (ai (kc Z (V Z)) (ai (kc Z (V Z)) (ai (kc Z (V Z)) (ai (kc Z (V Z)) (ai (kc Z (V Z)) (ai (bg O (B0:=52000) Z Z Z Z (kE (t:=ix) (vars:=q.vars) h1 h2 hsf.2 hr1.vars) (.cons (.agg (ax Z)) (.cons (.c (.whole Z (by rw[bA];exact hnv.symm))) .nil)) Z Z Z Z Z) (kc Z (kc Z trivial))))))))))))) ?_)
 refine jw [7,6,5,4,0,1] Z (bJ ?_)
 refine ae (ac (jd Z (jc Z (ba Z (js Z (ba Z (js Z (ba Z (js Z (ba Z (js Z (ba Z (js Z (ba Z (js Z (st (aI O Z Z Z Z Z) Z (js Z (sk Z (sk Z (sk Z (st (aI O Z Z Z Z Z) Z (jn (zc Z (fun z70=>?_) (fun z70=>?_))))))))))))))))))))))))
 exact nf z70
 refine af (ae (ac (jd Z (jc Z (ba Z (js Z (ba Z (js Z (ba Z (js Z (ba Z (js Z (ba Z (js Z (ba Z (js Z (st (aI O Z Z Z Z Z) Z (js Z (sk Z (sk Z (sk Z (st (aI O Z Z Z Z Z) Z (jn (zc Z (fun z91=>?_) (fun z91=>?_)))))))))))))))))))))))))
 exact nf z91
 refine af (ae (ac (jd Z (js Z (jn (ak (ac (jb Z (jn (zc Z (fun z99=>?_) (fun z99=>?_)))))))))))
 exact nf z99
 refine ac (jb Z (jn (zc Z (fun z119=>?_) (fun z119=>?_))))
 exact nf z119
 refine ac (jb Z (jn (zc Z (fun z129=>?_) (fun z129=>?_))))
 exact nf z129
 refine ac (jb Z (jn (zc Z (fun z146=>?_) (fun z146=>?_))))
 exact nf z146
 refine ac (jb Z (jn (zc Z (fun z156=>?_) (fun z156=>?_))))
 exact nf z156
 refine ac (jb Z (jn (zc Z (fun z172=>?_) (fun z172=>?_))))
 exact nf z172
 refine ac (jb Z (jn (zc Z (fun z178=>?_) (fun z178=>?_))))
 refine ae (ac (jb Z (jn (zc Z (fun z181=>?_) (fun z181=>?_)))))
 refine ac (jd Z (js Z (st (bw O Z Z Z Z Z Z Z Z (by simp[Trs.d]) Z) Z (js Z (ao O [500,501,502,503] (bin:=[jk 3 q,aE (q).vars,aE (q).cells,aE (q).events]) Z Z Z Z (ihx q hr1) Z Z Z Z Z Z (B0:=190000) Z Z (am ?_))))))
 refine js Z (jr ?_)
 have hrun:aW (.node ⟨7,vr,ev,su,ix,fa⟩ a [x,y]) r=aW x q:=by rw[gc,if_neg (by decide: ¬(7:Int)=1),if_pos hs1,←hq,if_pos (bt z181)]
 refine⟨.inl Z,_,(ah [500,501,502,190004] Z Z (e':=[(4,_)]) ⟨Z,tv⟩ Z).trans (aa 190004 504 Z Z),_,Z,?_,?_⟩
 rw[hrun];rfl
 rw[hrun];rfl
 refine af (ac (jd Z (js Z (st (bw O Z Z Z Z Z Z Z Z (by simp[Trs.d]) Z) Z (js Z (ao O [500,501,502,503] (bin:=[jk 3 q,aE (q).vars,aE (q).cells,aE (q).events]) Z Z Z Z (ihy q hr1) Z Z Z Z Z Z (B0:=198000) Z Z (am ?_)))))))
 refine js Z (jr ?_)
 have hrun:aW (.node ⟨7,vr,ev,su,ix,fa⟩ a [x,y]) r=aW y q:=by rw[gc,if_neg (by decide: ¬(7:Int)=1),if_pos hs1,←hq,if_neg (b9 z181)]
 refine⟨.inl Z,_,(ah [500,501,502,198004] Z Z (e':=[(4,_)]) ⟨Z,tv⟩ Z).trans (aa 198004 504 Z Z),_,Z,?_,?_⟩
 rw[hrun];rfl
 rw[hrun];rfl
 exact nt z178
 exact nt z37
theorem FR{x y:Tr}{r:RS}(hst:bi ⟨1,vr,ev,su,ix,fa⟩=true)(hr:RSok r)(ihx: ∀r,RSok r→MQ h1 h2 58 [.c (.pt 0 0 0),.c (.d x.d)] (rH 3 r) (aO (eB (aW x r).1) (rH 4 (aW x r).2)))(ihy: ∀r,RSok r→MQ h1 h2 58 [.c (.pt 0 0 0),.c (.d y.d)] (rH 3 r) (aO (eB (aW y r).1) (rH 4 (aW y r).2)))(hxo: ∀r,RSok r→RSle r (aW x r).2):MQ h1 h2 58 [.c (.pt 0 0 0),.c (.d (Tr.d (.node ⟨1,vr,ev,su,ix,fa⟩ a [x,y])))] (rH 3 r) (aO (eB (aW (.node ⟨1,vr,ev,su,ix,fa⟩ a [x,y]) r).1) (rH 4 (aW (.node ⟨1,vr,ev,su,ix,fa⟩ a [x,y]) r).2)):=by
 refine MC.shift 500 Z (jH 219 [500,501,502,503] h1 h2 Tryz.func58 Z fun O hF=>?_)
 refine bJ ?_
 have hsf:=cV hst
 refine ac (js Z (aN (jd Z (jb Z (jn (ae (ac (jd Z (jc Z (sk Z (sk Z (sk Z (sk Z (sk Z (sk Z (st (aI O Z Z Z Z Z) Z (js Z (sk Z (sk Z (sk Z (st (aI O Z Z Z Z Z) Z (jn (zc Z (fun z31=>?_) (fun z31=>?_))))))))))))))))))))))))
 exact nf z31
 refine af (ac (jb Z (jn (ae (ac (jd Z (jb Z (jn (zc Z (fun z37=>?_) (fun z37=>?_))))))))))
 exact nf z37
 refine af (ae (ac (jd Z (jc Z (ba Z (js Z (ba Z (js Z (ba Z (js Z (ba Z (js Z (ba Z (js Z (ba Z (js Z (st (aI O Z Z Z Z Z) Z (js Z (sk Z (sk Z (sk Z (st (aI O Z Z Z Z Z) Z (jn (zc Z (fun z70=>?_) (fun z70=>?_)))))))))))))))))))))))))
 exact nf z70
 refine af (ae (ac (jd Z (jc Z (ba Z (js Z (ba Z (js Z (ba Z (js Z (ba Z (js Z (ba Z (js Z (ba Z (js Z (st (aI O Z Z Z Z Z) Z (js Z (sk Z (sk Z (sk Z (st (aI O Z Z Z Z Z) Z (jn (zc Z (fun z91=>?_) (fun z91=>?_)))))))))))))))))))))))))
 exact nf z91
 refine af (ae (ac (jd Z (js Z (jn (ak (ac (jb Z (jn (zc Z (fun z99=>?_) (fun z99=>?_)))))))))))
 refine ac (jd Z (js Z (st (bw O Z Z Z Z Z Z Z Z (by simp[Trs.d]) Z) Z (js Z (ao O [500,501,502,503] (bin:=[jk 3 r,aE (r).vars,aE (r).cells,aE (r).events]) Z Z Z Z (ihx r hr) Z Z Z Z Z Z (B0:=109000) Z Z (am ?_))))))
 refine js Z ?_
 cases hb110:(aW x r).1 with
 | true=>
  refine ba Z (js Z (ba Z (js Z (ba Z (js Z (ba Z (js Z (ba Z (js Z (ba Z (st (bw O Z Z Z Z Z Z Z Z (by simp[Trs.d]) Z) Z (ba Z (js Z (ba Z (ao O [500,501,502,109004] (bin:=[jk 3 (aW x r).2,aE ((aW x r).2).vars,aE ((aW x r).2).cells,aE ((aW x r).2).events]) Z Z Z Z (ihy (aW x r).2 (hxo r hr).ok) Z Z Z Z Z Z (B0:=118000) Z Z (am ?_))))))))))))))))
  refine st (aV O Z Z Z Z Z) Z (js Z (jr ?_))
  have hrun:aW (.node ⟨1,vr,ev,su,ix,fa⟩ a [x,y]) r=aW y (aW x r).2:=by rw[gc,if_pos Z,if_pos hb110]
  refine⟨.inl Z,_,(ah [500,501,502,118004] Z Z (e':=[(4,_)]) ⟨Z,tv⟩ Z).trans (aa 118004 504 Z Z),_,Z,?_,?_⟩
  rw[hrun];rfl
  rw[hrun];rfl
 | false=>
  refine sk Z (sk Z (sk Z (sk Z (sk Z (sk Z (sk Z (sk Z (st (aI O Z Z Z Z Z) Z (js Z (jr ?_))))))))))
  have hrun:aW (.node ⟨1,vr,ev,su,ix,fa⟩ a [x,y]) r=(false,(aW x r).2):=by rw[gc,if_pos Z,if_neg (by rw[hb110];decide)]
  refine⟨.inl Z,_,(ah [500,501,502,109004] Z Z (e':=[(4,_)]) ⟨Z,tv⟩ Z).trans (aa 109004 504 Z Z),_,Z,?_,?_⟩
  rw[hrun];rfl
  rw[hrun];rfl
 exact nt z99

theorem FJ{x:Tr}{r:RS}(hst:bi ⟨8,vr,ev,su,ix,fa⟩=true)(hr:RSok r)(ihx: ∀r,RSok r→MQ h1 h2 58 [.c (.pt 0 0 0),.c (.d x.d)] (rH 3 r) (aO (eB (aW x r).1) (rH 4 (aW x r).2)))(hxo: ∀r,RSok r→RSle r (aW x r).2):MQ h1 h2 58 [.c (.pt 0 0 0),.c (.d (Tr.d (.node ⟨8,vr,ev,su,ix,fa⟩ a [x])))] (rH 3 r) (aO (eB (aW (.node ⟨8,vr,ev,su,ix,fa⟩ a [x]) r).1) (rH 4 (aW (.node ⟨8,vr,ev,su,ix,fa⟩ a [x]) r).2)):=by
 refine MC.shift 500 Z (jH 219 [500,501,502,503] h1 h2 Tryz.func58 Z fun O hF=>?_)
 refine bJ ?_
 have hsf:=cV hst
 have hnv:=hr.nv
 refine ac (js Z (aN (jd Z (jb Z (jn (ae (ac (jd Z (jc Z (ba Z (js Z (ba Z (js Z (ba Z (js Z (ba Z (js Z (ba Z (js Z (ba Z (js Z (st (aV O Z Z Z Z Z) Z (js Z (sk Z (sk Z (sk Z (st (aI O Z Z Z Z Z) Z (jn (zc Z (fun z31=>?_) (fun z31=>?_))))))))))))))))))))))))))))))
 exact nf z31
 refine af (ac (jb Z (jn (ae (ac (jd Z (jb Z (jn (zc Z (fun z37=>?_) (fun z37=>?_))))))))))
 refine jw [5,4,0,1] Z (fJ [_,_,_,_,_,_,_,_,_,_,_,_,_,_,_,_] [p0,pz [0],pz [0,1],pz [0,1,2],pz (rg 0 4),p0,pe (rg 0 6) 0,pn [] 0 1,pn [7] 0 1,pn [7,8] 0 1,pn [7,8,9] 0 1,pn (rg 7 4) 0 1,pn [] 0 1,pe (rg 0 13) 1,pn (rg 0 14) 2 2,pn (rg 0 15) 2 2] [6,13] [_,_,_] (k4 Z (kc Z (kc Z (ai (bg O (B0:=45000) Z Z Z Z (kE (t:=su) (vars:=r.vars) h1 h2 hsf.1 hr.vars) (.cons (.agg (ax Z)) (.cons (.c (.whole Z (by rw[bA];exact hnv.symm))) .nil)) Z Z Z Z Z) (ai (kc Z (V Z)) (ai (kc Z (V Z)) (ai (kc Z (V Z)) (ai (kc Z (V Z)) (ai (kc Z (V Z)) (ai (kc Z (V Z)) (ai (bg O (B0:=52000) Z Z Z Z (kE (t:=ix) (vars:=r.vars) h1 h2 hsf.2 hr.vars) (.cons (.agg (ax Z)) (.cons (.c (.whole Z (by rw[bA];exact hnv.symm))) .nil)) Z Z Z Z Z) (kc Z (kc Z trivial))))))))))))) ?_)
 refine jw [7,6,5,4,0,1] Z (bJ ?_)
 refine ae (ac (jd Z (jc Z (ba Z (js Z (ba Z (js Z (ba Z (js Z (ba Z (js Z (ba Z (js Z (ba Z (js Z (st (aI O Z Z Z Z Z) Z (js Z (sk Z (sk Z (sk Z (st (aI O Z Z Z Z Z) Z (jn (zc Z (fun z70=>?_) (fun z70=>?_))))))))))))))))))))))))
 exact nf z70
 refine af (ae (ac (jd Z (jc Z (ba Z (js Z (ba Z (js Z (ba Z (js Z (ba Z (js Z (ba Z (js Z (ba Z (js Z (st (aI O Z Z Z Z Z) Z (js Z (sk Z (sk Z (sk Z (st (aI O Z Z Z Z Z) Z (jn (zc Z (fun z91=>?_) (fun z91=>?_)))))))))))))))))))))))))
 exact nf z91
 refine af (ae (ac (jd Z (js Z (jn (ak (ac (jb Z (jn (zc Z (fun z99=>?_) (fun z99=>?_)))))))))))
 exact nf z99
 refine ac (jb Z (jn (zc Z (fun z119=>?_) (fun z119=>?_))))
 exact nf z119
 refine ac (jb Z (jn (zc Z (fun z129=>?_) (fun z129=>?_))))
 exact nf z129
 refine ac (jb Z (jn (zc Z (fun z146=>?_) (fun z146=>?_))))
 exact nf z146
 refine ac (jb Z (jn (zc Z (fun z156=>?_) (fun z156=>?_))))
 exact nf z156
 refine ac (jb Z (jn (zc Z (fun z172=>?_) (fun z172=>?_))))
 exact nf z172
 refine ac (jb Z (jn (zc Z (fun z178=>?_) (fun z178=>?_))))
 exact nf z178
 refine ac (jb Z (jn (zc Z (fun z198=>?_) (fun z198=>?_))))
 refine ae (ak (ap (X:=Nat×RS) (fun z=>⟨[(0,.c (.pt 500 0 0)),(1,.c (.d (Tr.d (.node ⟨8,vr,ev,su,ix,fa⟩ a [x])))),(5,.c (.rs 501 0 4))],[(500,.box [.rs 501 0 4,.rs 502 0 8,.rs 600 0 z.2.events.length,.d (.int .i64 z.2.fuel),.d (.int .i64 z.2.steps),.d (.int .i64 z.2.out)]),(501,aE z.2.vars),(502,aE z.2.cells),(600,aE z.2.events)]⟩) (fun z=>RSok z.2∧(z.2.fuel-z.2.steps).toNat<z.1∧dQ ⟨8,vr,ev,su,ix,fa⟩ (aW x) z.1 z.2=aW (.node ⟨8,vr,ev,su,ix,fa⟩ a [x]) r) (fun z=>z.1) ((r.fuel-r.steps).toNat+1,r) ((ah [500,501,502,503] (e':=[(0,_),(1,_),(5,_)]) Z Z ⟨Z,Z,Z,tv⟩ Z).trans ((aa 503 600 Z Z).trans (Ent.to ⟨Z,Z,Z,tv⟩ Z))) ?_ (fun z hi=>?_)))
 exact⟨hr,Nat.lt_succ_self _,ur.symm⟩
 refine ae (ac (js Z (ao O [500,501,502,600] (bin:=[jk 3 z.2,aE (z.2).vars,aE (z.2).cells,aE (z.2).events]) Z Z Z Z (t4 (r:=z.2) h1 h2 hi.1.lo (Int.le_trans hi.1.hi (Int.le_trans hi.1.fuel (by decide)))) Z Z Z Z Z Z (B0:=202000) Z Z (am ?_))))
 refine jn (zc Z (fun z201=>?_) (fun z201=>?_))
 refine af (ak (ae (ac ?_)))
 have hs1:(aP z.2).1=true:=z201
 have hr1:=hi.1.step.ok
 have hrs:=hi.1.step
 obtain⟨q,hq⟩: ∃q,q=(aP z.2).2:=⟨_,rfl⟩
 rw[←hq]at hr1 hrs ⊢
 have hne: ¬z.2.steps=z.2.fuel:=fun e=>by unfold aP at hs1;rw[if_pos e]at hs1;cases hs1
 have hq2:q={z.2 with steps:=z.2.steps+1}:=by rw[hq];unfold aP;rw[if_neg hne]
 have hnv:=hr1.nv
 refine jd Z (jb Z (da O Z Z Z Z (kE (t:=su) (vars:=q.vars) h1 h2 hsf.1 hr1.vars) (.cons (.agg (ax Z)) (.cons (.c (.whole Z (by rw[bA];exact hnv.symm))) .nil)) Z Z Z Z Z (B0:=209000) Z (js Z (jn (zc Z (fun z209=>?_) (fun z209=>?_))))))
 refine ac (js Z (jr ?_))
 have hrun:aW (.node ⟨8,vr,ev,su,ix,fa⟩ a [x]) r=(true,q):=by
  rw[←hi.2.2]
  obtain⟨m,hm⟩: ∃m,z.1=m+1:=⟨z.1-1,by omega⟩
  rw[hm]
  unfold dQ
  rw[if_neg hne,←hq2]
  rw[if_pos (bt (by rw[hq2]at z209;exact z209))]
 refine⟨.inl Z,_,(ah [500,501,502,600] Z Z (e':=[(4,_)]) ⟨Z,tv⟩ Z).trans (aa 600 504 Z Z),_,Z,?_,?_⟩
 rw[hrun];rfl
 rw[hrun];rfl
 refine af (ac (jd Z (js Z ?_)))
 have hneg:=b9 z209
 refine st (bw O Z Z Z Z Z Z Z Z (by simp[Trs.d]) Z) Z (js Z (ao O [500,501,502,600] (bin:=[jk 3 q,aE (q).vars,aE (q).cells,aE (q).events]) Z Z Z Z (ihx q hr1) Z Z Z Z Z Z (B0:=218000) Z Z (am ?_)))
 refine js Z (jn (zc Z (fun z218=>?_) (fun z218=>?_)))
 refine ac (js Z (jr ?_))
 have hrun:aW (.node ⟨8,vr,ev,su,ix,fa⟩ a [x]) r=(false,(aW x q).2):=by
  have hb218:(aW x q).1=false:=by cases h:(aW x q).1 with|false=>rfl|true=>rw[h]at z218;cases z218
  rw[←hi.2.2]
  obtain⟨m,hm⟩: ∃m,z.1=m+1:=⟨z.1-1,by omega⟩
  rw[hm]
  unfold dQ
  rw[if_neg hne,←hq2]
  rw[if_neg (b9 (by rw[hq2]at z209;exact z209)),if_neg (by rw[hb218];decide)]
 refine⟨.inl Z,_,(ah [500,501,502,218004] Z Z (e':=[(4,_)]) ⟨Z,tv⟩ Z).trans (aa 218004 504 Z Z),_,Z,?_,?_⟩
 rw[hrun];rfl
 rw[hrun];rfl
 refine af ?_
 have hb:(aW x q).1=true:=by cases h:(aW x q).1 with|true=>rfl|false=>rw[h]at z218;cases z218
 have hxq:=hxo q hr1
 refine⟨(z.1-1,(aW x q).2),(ah [500,501,502,218004] (e':=[(0,_),(1,_),(5,_)]) Z Z ⟨Z,Z,Z,tv⟩ Z).trans ((aa 218004 600 Z Z).trans (Ent.to ⟨Z,Z,Z,tv⟩ Z)),⟨hxq.ok,?_,?_⟩,?_⟩
 have h4:=hi.1.hi;have h5:=hxq.ok.hi;have h6:=hxq.fuel;have h7:=hxq.steps;have h8:q.steps=z.2.steps+1:=by rw[hq2]
 have h9:q.fuel=z.2.fuel:=by rw[hq2]
 show((aW x q).2.fuel-(aW x q).2.steps).toNat<z.1-1;have:=hi.2.1;have h3:z.2.steps<z.2.fuel:=by omega
 omega
 rw[←hi.2.2]
 obtain⟨m,hm⟩: ∃m,z.1=m+1:=⟨z.1-1,by omega⟩
 rw[hm]
 show dQ _ _ m _=_
 conv=>rhs;unfold dQ
 rw[if_neg hne,←hq2]
 rw[if_neg (by rw[hq2]at hneg;exact hneg),if_pos hb]
 show z.1-1<z.1;have:=hi.2.1;omega
 refine aR (ac (js Z (jr ?_)))
 have hrun:aW (.node ⟨8,vr,ev,su,ix,fa⟩ a [x]) r=(false,(aP z.2).2):=by
  have hs1:(aP z.2).1=false:=z201
  rw[←hi.2.2]
  obtain⟨m,hm⟩: ∃m,z.1=m+1:=⟨z.1-1,by omega⟩
  rw[hm]
  unfold dQ
  have he:z.2.steps=z.2.fuel:=Decidable.byContradiction fun h=>by unfold aP at hs1;rw[if_neg h]at hs1;cases hs1
  rw[if_pos he,aP,if_pos he]
 refine⟨.inl Z,_,(ah [500,501,502,600] Z Z (e':=[(4,_)]) ⟨Z,tv⟩ Z).trans (aa 600 504 Z Z),_,Z,?_,?_⟩
 rw[hrun];rfl
 rw[hrun];rfl
 exact nt z198
 exact nt z37
mutual
/-- Each element is valid, and has the statements behind it that it dD. -/
def Tr.ok:Tr→Prop
  | .node s _ ks=>bi s=true∧(ks.length:Int)=bl s.kind∧Trs.ok ks
def Trs.ok:List Tr→Prop
  | []=>True
  | t::r=>t.ok∧Trs.ok r
end
theorem RSle.trans{a b c:RS}(h:RSle a b)(h':RSle b c):RSle a c:=⟨h'.ok,h'.fuel.trans h.fuel,Int.le_trans h.steps h'.steps⟩
theorem RSok.out{r:RS}(h:RSok r)(x:Int):RSle r {r with out:=x}:=⟨⟨h.vars,h.cells,h.lo,h.hi,h.fuel,h.events⟩,rfl,Int.le_refl _⟩
theorem CK{s:Sm}{r q:RS}(h:RSok r)(hq:q=(aP r).2)(hs:(aP r).1=true):RSle r (leaf s q).2:=by
 have h1:=h.step
 have hne: ¬r.steps=r.fuel:=fun e=>by unfold aP at hs;rw[if_pos e]at hs;cases hs
 have hq2:q={r with steps:=r.steps+1}:=by rw[hq];unfold aP;rw[if_neg hne]
 rw[←hq]at h1
 have h2:=h1.ok
 have key: ∀q':RS,RSok q'→q'.fuel=q.fuel→q'.steps=q.steps→RSle r q':=fun q' a b c=>⟨a,b.trans h1.fuel,by rw[c];exact h1.steps⟩
 unfold leaf
 split
 split
 rename_i hb;exact key _ ⟨tc h2.vars hb,h2.cells,h2.lo,h2.hi,h2.fuel,h2.events⟩ Z Z
 exact key _ (h2.out 4).ok Z Z
 split
 split
 rename_i hb
 have hc:=fR h2.cells
 have hi:(aH s.index q.vars).toNat<q.cells.length:=by
  have:=hc.2
  simp only[eW,bC,decide_eq_true_eq]at hb
  omega
 refine key _ ⟨tc h2.vars ?_,h2.cells,h2.lo,h2.hi,h2.fuel,h2.events⟩ Z Z
 rw[aw hi]
 exact List.all_eq_true.1 hc.1 _ (List.getElem_mem hi)
 exact key _ (h2.out 2).ok Z Z
 split
 split
 split
 rename_i hb;exact key _ ⟨h2.vars,tc h2.cells hb,h2.lo,h2.hi,h2.fuel,h2.events⟩ Z Z
 exact key _ (h2.out 4).ok Z Z
 exact key _ (h2.out 2).ok Z Z
 split
 refine⟨⟨h2.vars,h2.cells,h2.lo,h2.hi,h2.fuel,?_⟩,h1.fuel,h1.steps⟩
 have:=h.events
 show((q.events++[s.event]).length:Int)≤q.steps
 rw[hq2];simp;omega
 split
 split
 exact key _ (h2.out 3).ok Z Z
 exact h1
 exact h1
theorem uc{s:Sm}{f:RS→Bool×RS}(hf: ∀r,RSok r→RSle r (f r).2): ∀{m:Nat} {r:RS},RSok r→RSle r (dQ s f m r).2
 | 0,r,h=>h.out 1
 | m+1,r,h=>by
  unfold dQ
  split
  exact h.out 1
  rename_i hne
  have h1:=h.step
  unfold aP at h1
  rw[if_neg hne]at h1
  split
  exact h1
  split
  exact h1.trans ((hf _ h1.ok).trans (uc hf (hf _ h1.ok).ok))
  exact h1.trans (hf _ h1.ok)
theorem lw: ∀{t:Tr},t.ok→∀{r:RS},RSok r→RSle r (aW t r).2
 | .node s a [x,y],ht,r,h=>by
  have hx: ∀r,RSok r→RSle r (aW x r).2:=fun r hr=>lw ht.2.2.1 hr
  have hy: ∀r,RSok r→RSle r (aW y r).2:=fun r hr=>lw ht.2.2.2.1 hr
  rw[gc]
  split
  split
  exact(hx r h).trans (hy _ (hx r h).ok)
  exact hx r h
  split
  split
  exact h.step.trans (hx _ h.step.ok)
  exact h.step.trans (hy _ h.step.ok)
  exact h.step
 | .node s a [x],ht,r,h=>by rw[ur];exact uc (fun r hr=>lw ht.2.2.1 hr) h
 | .node s a [],ht,r,h=>by
  rw[cB]
  split
  rename_i hs;exact CK h Z hs
  exact h.step
 | .node s a (x::y::z::ks),ht,r,h=>by
  have h1:((x::y::z::ks).length:Int)=bl s.kind:=ht.2.1
  have h2:=(cN s.kind).2
  simp only[dW]at h1
  omega
theorem yQ{k:Int}(h:bl k=2):k=1∨k=7:=by
 unfold bl at h
 split at h
 exact .inl ‹_›
 split at h
 exact .inr ‹_›
 split at h<;>simp at h
theorem yR{k:Int}(h:bl k=1):k=8:=by
 unfold bl at h
 split at h
 simp at h
 split at h
 simp at h
 split at h
 assumption
 simp at h
theorem wH{s:Sm}(hs:bi s=true)(h:bl s.kind=0):s.kind=0∨s.kind=2∨s.kind=3∨s.kind=4∨s.kind=5∨s.kind=6:=by
 have h8:0≤s.kind∧s.kind≤8:=by
  unfold bi rv at hs
  cases h1:(decide (0≤s.kind)&&decide (s.kind≤8))with
  | true=>simpa using h1
  | false=>rw[h1]at hs;simp at hs
 have a1:s.kind≠1:=fun e=>by rw[e]at h;cases h
 have a2:s.kind≠7:=fun e=>by rw[e]at h;cases h
 have a3:s.kind≠8:=fun e=>by rw[e]at h;cases h
 omega
theorem B9{L:Nat}(h1:4096≤L)(h2:L≤1073741824): ∀{t:Tr},t.ok→∀{r:RS},RSok r→MC Tryz.prog L 58 [.c (.pt 0 0 0),.c (.d t.d)] (rH 3 r) (aO (eB (aW t r).1) (rH 4 (aW t r).2))
 | .node s a [x,y],ht,r,h=>by
  have ihx: ∀r,RSok r→MC Tryz.prog L 58 [.c (.pt 0 0 0),.c (.d x.d)] (rH 3 r) (aO (eB (aW x r).1) (rH 4 (aW x r).2)):=fun r hr=>B9 h1 h2 ht.2.2.1 hr
  have ihy: ∀r,RSok r→MC Tryz.prog L 58 [.c (.pt 0 0 0),.c (.d y.d)] (rH 3 r) (aO (eB (aW y r).1) (rH 4 (aW y r).2)):=fun r hr=>B9 h1 h2 ht.2.2.2.1 hr
  obtain⟨k,vr,ev,su,ix,fa⟩:=s
  have hk:bl k=2:=ht.2.1.symm
  rcases yQ hk with rfl|rfl
  exact FR h1 h2 ht.1 h ihx ihy (fun r hr=>lw ht.2.2.1 hr)
  exact FK h1 h2 ht.1 h ihx ihy
 | .node s a [x],ht,r,h=>by
  have ihx: ∀r,RSok r→MC Tryz.prog L 58 [.c (.pt 0 0 0),.c (.d x.d)] (rH 3 r) (aO (eB (aW x r).1) (rH 4 (aW x r).2)):=fun r hr=>B9 h1 h2 ht.2.2.1 hr
  obtain⟨k,vr,ev,su,ix,fa⟩:=s
  have hk:bl k=1:=ht.2.1.symm
  obtain rfl:=yR hk
  exact FJ h1 h2 ht.1 h ihx (fun r hr=>lw ht.2.2.1 hr)
 | .node s a [],ht,r,h=>by
  obtain⟨k,vr,ev,su,ix,fa⟩:=s
  have hk:bl k=0:=ht.2.1.symm
  have:=wH ht.1 hk
  simp only at this
  rcases this with rfl|rfl|rfl|rfl|rfl|rfl
  exact FS h1 h2 ht.1 h
  exact FQ h1 h2 ht.1 h
  exact FP h1 h2 ht.1 h
  exact FO h1 h2 ht.1 h
  exact FN h1 h2 ht.1 h
  exact FL h1 h2 ht.1 h
 | .node s a (x::y::z::ks),ht,r,h=>by
  have h1:((x::y::z::ks).length:Int)=bl s.kind:=ht.2.1
  have h2:=(cN s.kind).2
  simp only[dW]at h1
  omega
theorem m6{f:Nat→Option (Tr×Nat)}(hf: ∀k t k',f k=some (t,k')→t.ok): ∀{q k ts k'},cM f q k=some (ts,k')→ts.length=q∧Trs.ok ts
 | 0,k,ts,k',h=>by simp only[cM,dL,Prod.mk.injEq]at h;rw[←h.1];exact⟨rfl,tv⟩
 | q + 1,k,ts,k',h=>by
  cases hx:f k with
  | none=>rw[dX hx]at h;cases h
  | some x=>
   obtain⟨t,k1⟩:=x
   rw[dw hx]at h
   simp only[Option.map_eq_some_iff]at h
   obtain⟨⟨ts1,k2⟩,h1,h2⟩:=h
   simp only[Prod.mk.injEq]at h2
   obtain⟨h3,h4⟩:=m6 hf h1
   rw[←h2.1]
   exact⟨by simp[h3],hf k t k1 hx,h4⟩
theorem mU: ∀{n body k t k'},cH n body k=some (t,k')→t.ok
 | 0,_,_,_,_,h=>by cases h
 | n + 1,body,k,t,k',h=>by
  unfold cH at h
  split at h
  cases h
  split at h
  cases h
  rename_i hk
  simp only[Option.map_eq_some_iff]at h
  obtain⟨⟨ts1,k2⟩,h1,h2⟩:=h
  simp only[Prod.mk.injEq]at h2
  obtain⟨h3,h4⟩:=m6 (fun k t k' h=>mU h) h1
  rw[←h2.1]
  have hs:bi (body.getD k default)=true:=by
   cases hb:bi (body.getD k default)with
   | true=>rfl
   | false=>unfold ch at hk;rw[hb]at hk;exact absurd (by rw[if_neg (by decide)];decide) hk
  refine⟨hs,?_,h4⟩
  rw[h3]
  unfold ch
  rw[if_pos hs]
  have:=(cN (body.getD k default).kind).1
  omega
theorem qb{body:List Sm}(h:vv body=true): ∃t,DY body=some (t,body.length)∧t.ok∧BI body=t.d:=by
 unfold vv at h
 split at h
 cases h
 rename_i h30
 simp only[bC,decide_eq_true_eq]at h
 obtain⟨t,k,hk⟩:=xq h.1
 have h2:=h.2
 rw[hk]at h2
 simp only[Int.ofNat_inj,Int.natCast_inj]at h2
 subst h2
 exact⟨t,hk,mU hk,by unfold BI;rw[if_neg h30,hk]⟩
def kF(body:List Sm):Tr:=match DY body with|some (t,_)=>t|none=>.node default 0 []
def r0(s:Sx)(f:Int):RS:=⟨s.vars,s.cells,[],f,0,0⟩
theorem Dm{s:Sx}{f:Int}(hs:zb s=true)(hf:eW 0 2000 f=true):RSok (r0 s f):=by
 unfold zb at hs
 simp only[bC]at hs
 simp only[eW,bC,decide_eq_true_eq]at hf
 exact⟨hs.1,hs.2,Int.le_refl _,hf.1,hf.2,by simp[r0]⟩
theorem qJ{body:List Sm}(h:vv body=true):(kF body).ok∧BI body=(kF body).d:=by
 obtain⟨t,h1,h2,h3⟩:=qb h
 unfold kF;rw[h1];exact⟨h2,h3⟩
theorem JM{f:Int}(hp:gt p=true)(hs:zb s=true)(hf:eW 0 2000 f=true):MQ h1 h2 29 [ky p,GJ s,eI f] [] (aO (.tup [.c (.pt 0 0 0),eB true]) (rH 3 (aW (kF p.body) (r0 s f)).2)):=by
 refine jB 39 h1 h2 Tryz.func29 Z fun O hF=>?_
 have htb:vv p.body=true:=by unfold gt at hp;simp only[bC]at hp;exact hp.1
 obtain⟨hto,htd⟩:=qJ htb
 have hr0:=Dm hs hf
 have h4:s.vars.length=4:=hr0.nv
 have h8:s.cells.length=8:=hr0.nc
 refine ac (jx Z (am ?_))
 refine jf [3,1,2] Z (jx Z (am ?_))
 refine jb Z (jn (ae (ac (js Z (lo Z (Ha h1 h2) 13000 Z (jb Z (jf [14,7,6,4,3,1,2] Z (ar 3 Z Z Z (fun hx=>nz hx Z (bj O hx Z Z Z Z (J6 h1 h2) (ab Z) Z Z Z Z Z Z Z (B0:=17000) Z (nz hx Z (AN.nil)))) Z Z (st (ay O Z Z Z Z Z) Z (js Z (jf [19,7,6,4,3,1,2] Z (ar 3 Z Z Z (fun hx=>nz hx Z (bj O hx Z Z Z Z (pQ h1 h2) (ab Z) Z Z Z Z Z Z Z (B0:=22000) Z (nz hx Z (AN.nil)))) Z Z (st (ay O Z Z Z Z Z) Z (jf [23,7,6,4,3,1,2] Z (jn (zc Z (fun z23=>?_) (fun z23=>?_)))))))))))))))))
 exact absurd z23 (by rw[hp,hs,hf];decide)
 refine af (ac (jb Z (jf [26,7,6,4,3,1,2] Z (aj O Z Z Z Z (Eh h1 h2) (ab Z) Z Z Z Z (B0:=28000) Z Z ?_))))
 rw[htd]
 refine jd Z (js Z (jf [8,7,6,4,3,1,2] Z (aN (js Z (bS O (B0:=32000) Z Z Z Z (J5 (v:=s.vars) (c:=s.cells) h1 h2) (ab Z) Z Z Z Z Z Z ?_)))))
 rw[h4,h8]
 refine am ?_
 refine jb Z (jf [33,8,7,6,4,3,1,2] Z (jx Z (an (cf 34 35000 1 true 2 Z Z Z) (am ?_))))
 refine am ?_
 refine js Z (jf [10,8,7,6,4,3,1,2] Z (aN (jb Z (jf [36,35,10,7,6,4,3,1,2] Z (ao O [34,32000,32001,35000] (bin:=[jk 3 (r0 s f),aE s.vars,aE s.cells,aE []]) Z Z Z Z (B9 h1 h2 hto hr0) Z Z Z Z Z Z (B0:=38000) Z Z (am ?_))))))
 refine jf [10,7,6,4,3,1,2] Z (aN (jc Z (jr ?_)))
 refine⟨.inl Z,_,(ah [34,32000,32001,38004] (e':=[(6,_),(7,_)]) Z Z ⟨Z,Z,tv⟩ Z).trans ((aa 34 0 Z Z).trans ((aa 32000 1 Z Z).trans ((aa 32001 2 Z Z).trans (aa 38004 3 Z Z)))),_,Z,Z,Z⟩
theorem J2{f:Int}(hp:gt p=true)(hs:zb s=true)(hf:eW 0 2000 f=true):MQ h1 h2 10 [ky p,GJ s,eI f] [] (Rows (.tup [.agg [.rs 0 0 4,.rs 1 0 8],.c (.rs 2 0 (aW (kF p.body) (r0 s f)).2.events.length),eI (aW (kF p.body) (r0 s f)).2.out,eB true]) [aE (aW (kF p.body) (r0 s f)).2.vars,aE (aW (kF p.body) (r0 s f)).2.cells,aE (aW (kF p.body) (r0 s f)).2.events]):=by
 refine cq (jB 34 h1 h2 Tryz.func10 Z fun O hF=>?_)
 refine ac (jx Z (am ?_))
 refine jx Z (am ?_)
 refine jl Z (am ?_)
 refine jc Z (aN (jc Z (sB O Z Z Z Z (JM (p:=p) (s:=s) (f:=f) h1 h2 hp hs hf) (ab Z) Z Z Z Z (B0:=17000) Z (am ?_))))
 refine jd Z (js Z (jn (ae (ac (jb Z (jn (zc Z (fun z20=>?_) (fun z20=>?_))))))))
 exact absurd z20 (by decide)
 refine af (ae (jw [10,6] Z (fJ [_,_,_,_,_,_,_,_,_,_,_,_,_,_,_,_] [p0,pz [0],pz [0,1],pz [0,1,2],pn [] 0 1,pn [4] 0 1,pn [4,5] 0 1,pn [4,5,6] 0 1,pn [] 0 1,pn [8] 0 1,pn [8,9] 0 1,pn [8,9,10] 0 1,pe (rg 0 4) 0,pn (rg 0 8++[12]) 1 1,pn (rg 0 14) 1 1,pn (rg 0 15) 1 1] [12] [_,_] (k4 Z (ai (kc Z (V Z)) (ai (kc Z (V Z)) (ai (kc Z (V Z)) (ai (kc Z (V Z)) (ai (kc Z (V Z)) (ai (kc Z (V Z)) (ai (kc Z (V Z)) (ai (kc Z (V Z)) (ai (eS Z Z Z) (kc Z (kc Z (kc Z trivial))))))))))))) ?_)))
 refine dJ ?_
 refine⟨.inl Z,_,bK,_,Z,[17001,17002,17003],by decide,Z,Z,Z⟩
structure Rs where
  v:List Int
  c:List Int
  ev:List Int
  out:Int
  st:Int
structure Cf where
  n:Nat
  ws:List Nat
  v:List Int
  c:List Int
  ev:List Int
  st:Int
theorem yO{b:List Sm}(h:ku b=true):1≤b.length∧b.length≤30∧b.all bi=true∧sL b 0=b.length:=by
 unfold ku at h;simp only[bC,decide_eq_true_eq]at h
 exact⟨by omega,by omega,h.2.1,h.2.2⟩

theorem lg{f g:Nat→Option (Tr×Nat)}{k0:Nat}(h: ∀j,k0≤j→f j=g j)(hf: ∀k t k',f k=some (t,k')→k<k'): ∀{q k:Nat},k0≤k→cM f q k=cM g q k
 | 0,_,_=>rfl
 | q + 1,k,hk=>by
  cases hx:f k with
  | none=>rw[dX hx,dX (by rw[←h k hk];exact hx)]
  | some x=>
   obtain⟨t,k1⟩:=x
   have:=hf k t k1 hx
   rw[dw hx,dw (by rw[←h k hk];exact hx),lg h hf (by omega)]
theorem lH{n:Nat}{body:List Sm}{k:Nat}(h:body.length≤k):cH n body k=none:=by
 cases n with
 | zero=>rfl
 | succ n=>unfold cH;rw[if_pos h]
theorem qK: ∀{n m:Nat} {body:List Sm} {k:Nat},body.length<n+k→body.length<m+k→cH n body k=cH m body k
 | 0,m,body,k,h1,h2=>by rw[lH (by omega),lH (by omega)]
 | n+1,0,body,k,h1,h2=>by rw[lH (by omega),lH (by omega)]
 | n+1,m+1,body,k,h1,h2=>by
  unfold cH
  rw[lg (f:=cH n body) (g:=cH m body) (k0:=k+1) (fun j hj=>qK (by omega) (by omega)) (fun k t k' h=>(hZ h).1) (cQ _)]
def ci(body:List Sm)(k:Nat):Option (Tr×Nat):=cH (body.length+1) body k
theorem nW{body:List Sm}{k:Nat}:ci body k=if body.length≤k then none else if ch (body.getD k default)<0 then none else(cM (ci body) (ch (body.getD k default)).toNat (k+1)).map fun r=>(.node (body.getD k default) k r.1,r.2):=by
 unfold ci
 show(if body.length≤k then none else if ch (body.getD k default)<0 then none else(cM (cH body.length body) (ch (body.getD k default)).toNat (k+1)).map fun r=>(Tr.node (body.getD k default) k r.1,r.2))=_
 rw[lg (f:=cH body.length body) (g:=cH (body.length+1) body) (k0:=k+1) (fun j hj=>qK (by omega) (by omega)) (fun k t k' h=>(hZ h).1) (cQ _)]
theorem jI{body:List Sm}{k k':Nat}{t:Tr}(h:ci body k=some (t,k')):k<k'∧k'≤body.length:=hZ h
theorem cd{body:List Sm}{k k':Nat}{s:Sm}{a:Int}{ks:List Tr}(h:ci body k=some (.node s a ks,k')) :
    k<body.length∧s=body.getD k default∧bi s=true∧cM (ci body) ks.length (k+1)=some (ks,k')∧(ks.length:Int)=bl s.kind:=by
 rw[nW]at h
 split at h
 cases h
 split at h
 cases h
 rename_i h1 h2
 simp only[Option.map_eq_some_iff]at h
 obtain⟨⟨ts,k2⟩,h3,h4⟩:=h
 simp only[Prod.mk.injEq,Tr.node.injEq]at h4
 obtain⟨⟨h5,_,h6⟩,h7⟩:=h4
 subst h6;subst h7;subst h5
 have h8:=(m6 (fun k t k' h=>mU h) h3).1
 have hs:bi (body.getD k default)=true:=by
  cases hb:bi (body.getD k default)with
  | true=>rfl
  | false=>unfold ch at h2;rw[hb]at h2;exact absurd (by rw[if_neg (by decide)];decide) h2
 refine⟨by omega,Z,hs,by rw[h8];exact h3,?_⟩
 rw[h8]
 unfold ch
 rw[if_pos hs]
 have:=(cN (body.getD k default).kind).1
 omega
theorem og{body:List Sm}{k:Nat}(hk:k<body.length){n:Int}(hn:0<n):fw (body.drop k) n=(fw (body.drop (k+1)) (n-1+bl (body.getD k default).kind)).map (· + 1):=by
 rw[uR hn hk,show n+(bl (body.getD k default).kind-1)=n-1+bl (body.getD k default).kind by omega]
theorem sb{body:List Sm}{f:Nat→Option (Tr×Nat)}(hf: ∀k t k',f k=some (t,k')→k<k'∧∀n:Int,0≤n→fw (body.drop k) (n+1)=(fw (body.drop k') n).map (· + (k'-k))) :
    ∀{q k:Nat} {ts:List Tr} {k':Nat},cM f q k=some (ts,k')→k≤k'∧∀n:Int,0≤n→fw (body.drop k) (n+q)=(fw (body.drop k') n).map (· + (k'-k))
 | 0,k,ts,k',h=>by
  simp only[cM,dL,Prod.mk.injEq]at h
  rw[←h.2]
  refine⟨cQ _,fun n hn=>?_⟩
  rw[show n+((0:Nat):Int)=n by omega]
  simp
 | q + 1,k,ts,k',h=>by
  cases hx:f k with
  | none=>rw[dX hx]at h;cases h
  | some x=>
   obtain⟨t,k1⟩:=x
   rw[dw hx]at h
   simp only[Option.map_eq_some_iff]at h
   obtain⟨⟨ts1,k2⟩,h1,h2⟩:=h
   simp only[Prod.mk.injEq]at h2
   obtain⟨_,rfl⟩:=h2
   obtain⟨h3,h4⟩:=hf k t k1 hx
   obtain⟨h5,h6⟩:=sb hf h1
   refine⟨by omega,fun n hn=>?_⟩
   rw[show n+((q+1:Nat):Int)=(n+q)+1 by omega,h4 _ (by omega),h6 n hn,Option.map_map]
   exact congrArg (fun g=>Option.map g _) (funext fun x=>by simp;omega)
theorem oe{body:List Sm}: ∀{n k:Nat} {t:Tr} {k':Nat},cH n body k=some (t,k')→k<k'∧∀m:Int,0≤m→fw (body.drop k) (m+1)=(fw (body.drop k') m).map (· + (k'-k))
 | 0,_,_,_,h=>by cases h
 | n + 1,k,t,k',h=>by
  unfold cH at h
  split at h
  cases h
  split at h
  cases h
  rename_i h1 h2
  simp only[Option.map_eq_some_iff]at h
  obtain⟨⟨ts,k2⟩,h3,h4⟩:=h
  simp only[Prod.mk.injEq]at h4
  obtain⟨_,rfl⟩:=h4
  obtain⟨h5,h6⟩:=sb (body:=body) (fun k t k' h=>oe h) h3
  have hs:bi (body.getD k default)=true:=by
   cases hb:bi (body.getD k default)with
   | true=>rfl
   | false=>unfold ch at h2;rw[hb]at h2;exact absurd (by rw[if_neg (by decide)];decide) h2
  have hkf:ch (body.getD k default)=bl (body.getD k default).kind:=by unfold ch;rw[if_pos hs]
  have hb:=(cN (body.getD k default).kind).1
  refine⟨by omega,fun m hm=>?_⟩
  have h7:=h6 m hm
  rw[hkf]at h7
  rw[og (by omega) (by omega),show m+1-1+bl (body.getD k default).kind=m+((bl (body.getD k default).kind).toNat:Int) by omega,h7,Option.map_map]
  exact congrArg (fun g=>Option.map g _) (funext fun x=>by simp;omega)
theorem yH{body:List Sm}{k k':Nat}{t:Tr}(h:ci body k=some (t,k')):sL body k=k':=by
 obtain⟨h1,h2⟩:=oe h
 have h3:=h2 0 (Int.le_refl _)
 unfold sL
 rw[show(1:Int)=0+1 from Z,h3,kR (Int.le_refl _)]
 show(k:Int)+((0+(k'-k):Nat):Int)=k'
 omega
theorem uj{body:List Sm}: ∀{n k:Nat} {t:Tr} {k':Nat},cH n body k=some (t,k')→∀j,k≤j→j<k'→bi (body.getD j default)=true
 | 0,_,_,_,h=>by cases h
 | n + 1,k,t,k',h=>by
  unfold cH at h
  split at h
  cases h
  split at h
  cases h
  rename_i h1 h2
  simp only[Option.map_eq_some_iff]at h
  obtain⟨⟨ts,k2⟩,h3,h4⟩:=h
  simp only[Prod.mk.injEq]at h4
  obtain⟨_,rfl⟩:=h4
  have hs:bi (body.getD k default)=true:=by
   cases hb:bi (body.getD k default)with
   | true=>rfl
   | false=>unfold ch at h2;rw[hb]at h2;exact absurd (by rw[if_neg (by decide)];decide) h2
  have key: ∀{q k:Nat} {ts:List Tr} {k':Nat},cM (cH n body) q k=some (ts,k')→∀j,k≤j→j<k'→bi (body.getD j default)=true:=by
   intro q
   induction q with
   | zero=>intro k ts k' h j h1 h2;simp only[cM,dL,Prod.mk.injEq]at h;omega
   | succ q ih=>
    intro k ts k' h j h1 h2
    cases hx:cH n body k with
    | none=>rw[dX hx]at h;cases h
    | some x=>
     obtain⟨t,k1⟩:=x
     rw[dw hx]at h
     simp only[Option.map_eq_some_iff]at h
     obtain⟨⟨ts1,k2⟩,h3,h4⟩:=h
     simp only[Prod.mk.injEq]at h4
     obtain⟨_,rfl⟩:=h4
     by_cases hj:j<k1
     exact uj hx j h1 hj
     exact ih h3 j (by omega) h2
  intro j hj1 hj2
  by_cases e:j=k
  rw[e];exact hs
  exact key h3 j (by omega) hj2
theorem rZ{f:Nat→Option (Tr×Nat)}: ∀{a b k:Nat} {ts:List Tr} {k':Nat},cM f (a+b) k=some (ts,k')→∃ts1 k1 ts2,cM f a k=some (ts1,k1)∧cM f b k1=some (ts2,k')
 | 0,b,k,ts,k',h=>⟨[],k,ts,rfl,by rwa[Nat.zero_add]at h⟩
 | a + 1,b,k,ts,k',h=>by
  rw[show a+1+b=(a+b)+1 by omega]at h
  cases hx:f k with
  | none=>rw[dX hx]at h;cases h
  | some x=>
   obtain⟨t,k1⟩:=x
   rw[dw hx]at h
   simp only[Option.map_eq_some_iff]at h
   obtain⟨⟨ts1,k2⟩,h3,h4⟩:=h
   simp only[Prod.mk.injEq]at h4
   obtain⟨_,rfl⟩:=h4
   obtain⟨u1,k3,u2,h5,h6⟩:=rZ h3
   exact⟨t::u1,k3,u2,by rw[dw hx,h5];rfl,h6⟩
theorem oC{body:List Sm}(hall: ∀j,j<body.length→bi (body.getD j default)=true): ∀(d:Nat) {k q m:Nat},body.length≤k+d→fw (body.drop k) q=some m→∃ts,cM (ci body) q k=some (ts,k+m)
 | d,k,0,m,hd,h=>by
  rw[show((0:Nat):Int)=0 from Z,kR (Int.le_refl _)]at h
  obtain rfl:=Option.some.inj h
  exact⟨[],Z⟩
 | 0,k,q+1,m,hd,h=>by
  rw[List.drop_of_length_le (by omega),qw (by omega)]at h;cases h
 | d + 1,k,q+1,m,hd,h=>by
  by_cases hk:k<body.length
  rw[og hk (by omega)]at h
  have hb:=cN (body.getD k default).kind
  rw[show((q+1:Nat):Int)-1+bl (body.getD k default).kind=(((bl (body.getD k default).kind).toNat+q:Nat):Int) by omega]at h
  simp only[Option.map_eq_some_iff]at h
  obtain⟨m',h1,rfl⟩:=h
  obtain⟨ts,h2⟩:=oC hall d (by omega) h1
  obtain⟨ts1,k1,ts2,h3,h4⟩:=rZ h2
  have hkf:ch (body.getD k default)=bl (body.getD k default).kind:=by unfold ch;rw[if_pos (hall k hk)]
  have h5:ci body k=some (.node (body.getD k default) k ts1,k1):=by
   rw[nW,if_neg (by omega),if_neg (by omega),hkf,h3];rfl
  exact⟨.node (body.getD k default) k ts1::ts2,by rw[dw h5,h4,show k+(m'+1)=k+1+m' by omega];rfl⟩
  rw[List.drop_of_length_le (by omega),qw (by omega)]at h;cases h
theorem I3{body:List Sm}:body.all bi=true↔∀j,j<body.length→bi (body.getD j default)=true:=by
 rw[List.all_eq_true]
 constructor
 intro h j hj;rw[aw hj];exact h _ (List.getElem_mem hj)
 intro h x hx
 obtain⟨j,hj,rfl⟩:=List.mem_iff_getElem.1 hx
 have:=h j hj
 rwa[aw hj]at this
theorem CY(body:List Sm):ku body=vv body:=by
 by_cases h30:(30:Int)<body.length
 unfold vv ku
 rw[if_pos h30,decide_eq_false (show¬(body.length:Int)≤30 by omega),Bool.and_false,Bool.false_and]
 rw[Bool.eq_iff_iff]
 constructor
 intro h
 obtain⟨h1,h2,h3,h4⟩:=yO h
 have h5:fw (body.drop 0) ((1:Nat):Int)=some body.length:=by
  unfold sL at h4
  cases hx:fw (body.drop 0) ((1:Nat):Int)with
  | none=>rw[show((1:Int))=((1:Nat):Int)from Z,hx]at h4;have h9:(-1:Int)=body.length:=h4;omega
  | some n=>
   rw[show((1:Int))=((1:Nat):Int)from Z,hx]at h4
   have:n=body.length:=by simp at h4;omega
   rw[this]
 obtain⟨ts,h6⟩:=oC (I3.1 h3) body.length (by omega) h5
 cases hx:ci body 0 with
 | none=>rw[dX hx]at h6;cases h6
 | some x=>
  obtain⟨t,k1⟩:=x
  rw[dw hx]at h6
  simp only[cM,Option.map_some,dL,Prod.mk.injEq]at h6
  unfold vv
  rw[if_neg h30,show DY body=some (t,k1)from hx]
  show(true&&decide ((k1:Int)=body.length))=true
  rw[decide_eq_true (by omega)];rfl
 intro h
 obtain⟨t,h1,h2,h3⟩:=qb h
 have h4:ci body 0=some (t,body.length):=h1
 have h5:=yH h4
 have h6:=(jI h4).1
 unfold ku
 rw[decide_eq_true (show(1:Int)≤body.length by omega),decide_eq_true (show(body.length:Int)≤30 by omega),I3.2 (fun j hj=>uj h4 j (cG _) hj),decide_eq_true h5]
 rfl
structure Nd where
  kind:Int
  fact:Int
  term:Tm
  mul:List Int
  deriving Inhabited,DecidableEq
structure Sq where
  facts:List Tm
  goal:Tm
  deriving Inhabited,DecidableEq
abbrev Nd.cells(n:Nd):List D:=[.int .i64 n.kind,.int .i64 n.fact,.int .i64 n.term.c,cK n.term.xs,cK n.mul]
abbrev Sq.cells(s:Sq):List D:=[fd s.facts,.int .i64 s.goal.c,cK s.goal.xs]
abbrev aNd(n:Nd):A:=.agg (n.cells.map .d)
abbrev BJ(s:Sq):A:=.agg (s.cells.map .d)
abbrev D1(ns:List Nd):D:=.slc 5 (ns.map Nd.cells)
abbrev nN(ns:List Nd):A:=.c (.d (D1 ns))
abbrev zF(ns:List Nd):B:=.row true 5 (ns.map Nd.cells)
theorem t6{L:Nat}(h1:4096≤L)(h2:L≤1073741824){xs:List Int}:MC Tryz.prog L 59 [bO xs] [] (Plain (bO xs)):=(B4 h1 h2).frozen (.v (.c (.whole rfl (bA _).symm)))
theorem DB{L:Nat}(h1:4096≤L)(h2:L≤1073741824){xs:List Int}:MC Tryz.prog L 88 [bO xs] [] (Plain (bO xs)):=(vz h1 h2).frozen (.v (.c (.whole rfl (bA _).symm)))
abbrev aD(ts:List Tm):B:=.row false 2 (ts.map Tm.cells)

theorem Ef:MQ h1 h2 160 [ptr t.cells] [] (Plain (cR t)):=by
 refine MC.data (jB 13 h1 h2 Tryz.func160 Z fun O hF=>?_)
 refine ac (jl Z (jn (ae (fJ [_,_,_,_,_,_,_,_,_,_,_] [pn [] 0 1,pn [0] 0 1,pn [0,1] 0 1,pn [0,1,2] 0 1,p0,pz [4],pz [4,5],pz [4,5,6],pe (rg 4 4) 0,pn (rg 0 9) 1 1,pe (rg 0 10) 1] [8,10] [_,_,_] (ai (kc Z (V Z)) (ai (kc Z (V Z)) (ai (kc Z (V Z)) (ai (kc Z (V Z)) (k4 Z (ai (bB O (B0:=12000) Z Z Z Z (t6 (xs:=t.xs) h1 h2) (ab Z) Z Z Z Z Z) (kc Z (ai (eS Z Z Z) trivial)))))))) ?_))))
 refine dJ ?_
 refine eR Z ?_
 exact .v (.agg (ax Z))
theorem B5:MQ h1 h2 140 [cR t] [] (Plain (cR t)):=by
 refine MC.data (jB 9 h1 h2 Tryz.func140 Z fun O hF=>?_)
 refine ac (jx Z (jl Z (jn (ae (fJ [_,_,_,_,_,_,_] [pn [] 0 1,pn [0] 0 1,p0,pz [2],pe [2,3] 0,pn (rg 0 5) 1 1,pe (rg 0 6) 1] [4,6] [_,_,_] (ai (kc Z (V Z)) (ai (kc Z (V Z)) (kc Z (kc Z (ai (bB O (B0:=8000) Z Z Z Z (DB (xs:=t.xs) h1 h2) (ab Z) Z Z Z Z Z) (kc Z (ai (eS Z Z Z) trivial))))))) ?_)))))
 refine dJ ?_
 refine eR Z ?_
 exact .v (.agg (ax Z))
theorem sM:MQ h1 h2 125 [bM ts] [] (Rows (.c (.rs 0 0 ts.length)) [aD ts]):=by
 refine cq (jB 20 h1 h2 Tryz.func125 Z fun O hF=>?_)
 have hl:ts.length≤L:=by simpa[As.fact,A.fact,M.fact,D.fact,Ds.fact]using hF.1.1
 refine ac (js Z (aN (hp (bz O Z Z Z) Z (js Z (jn (ae (ac (js Z (jn (ak (ap (X:=Nat) (fun i=>⟨[(0,bM ts),(3,.c (.rs 900 0 i)),(4,eI i)],[(900,aD (ts.take i))]⟩) (fun i=>i≤ts.length) (fun i=>ts.length-i) 0 ((c9 5 Z).trans ((aa 5 900 Z Z).trans (Ent.to ⟨Z,Z,Z,tv⟩ Z))) ?_ (fun i hi=>?_))))))))))))
 exact cG _
 refine ae (ac (jb Z (cW Z (js Z (jn (zc Z (fun z9=>?_) (fun z9=>?_)))))))
 try simp only[bo]at z9
 refine af (ae (ak (ag (jc Z (nC Z Z (aj O Z Z Z Z (Ef h1 h2) (ab Z) Z Z Z Z (B0:=17000) Z Z (hp (aZ O Z Z Z Z Z Z Z Z Z Z Z) Z (hp (ko (own:=false) (zs:=(ts.take (i+1)).map Tm.cells) (n:=i+1) O Z (.row Z (by simp;omega)) (.whole Z Z (.inr ⟨Z,Z⟩)) (by simp) Z (by simp;omega) (by simp;omega) (by rw[List.take_succ_eq_append_getElem (by omega),List.map_append,Int.toNat_natCast,aw (by omega)];rfl) (by simp;omega)) Z (js Z (jn (ag (js Z (ji Z (js Z (jn ?_)))))))))))))))
 refine⟨i+1,(ah [18] (e':=[(0,_),(3,_),(4,_)]) Z Z ⟨Z,Z,Z,tv⟩ Z).trans (aa 18 900 Z Z),by omega,by omega⟩
 try simp only[bo]at z9
 refine aR (ac (jb Z (jr ?_)))
 obtain rfl:i=ts.length:=by omega
 rw[List.take_length]
 refine⟨.inl Z,_,bK,_,Z,[900],by decide,Z,Z,Z⟩
theorem JJ:MQ h1 h2 139 [bM ts] [] (Rows (.c (.rs 0 0 ts.length)) [aD ts]):=by
 refine cq (jB 19 h1 h2 Tryz.func139 Z fun O hF=>?_)
 have hl:ts.length≤L:=by simpa[As.fact,A.fact,M.fact,D.fact,Ds.fact]using hF.1.1
 refine ac (js Z (aN (js Z (jn (ae (ac (js Z (cW Z (js Z (jn (ak (ap (X:=Nat) (fun i=>⟨[(3,.c (.rs 900 0 i)),(6,bM ts),(7,eI ts.length),(8,eI i)],[(900,aD (ts.take i))]⟩) (fun i=>i≤ts.length) (fun i=>ts.length-i) 0 ((cx 3 900 2 false Z Z).trans (Ent.to ⟨Z,Z,Z,Z,tv⟩ Z)) ?_ (fun i hi=>?_)))))))))))))
 exact cG _
 refine ac (js Z (jn (ae (zc Z (fun z9=>?_) (fun z9=>?_)))))
 try simp only[bo]at z9
 refine af (ae (ak (ac (nC Z Z (js Z (jl Z (jo Z (jn (ag (jb Z (aj O Z Z Z Z (B5 h1 h2) (ab Z) Z Z Z Z (B0:=15000) Z Z (hp (aZ O Z Z Z Z Z Z Z Z Z Z Z) Z (hp (ko (own:=false) (zs:=(ts.take (i+1)).map Tm.cells) (n:=i+1) O Z (.row Z (by simp;omega)) (.whole Z Z (.inr ⟨Z,Z⟩)) (by simp) Z (by simp;omega) (by simp;omega) (by rw[List.take_succ_eq_append_getElem (by omega),List.map_append,Int.toNat_natCast,aw (by omega)];rfl) (by simp;omega)) Z (js Z (jn (ag (ji Z (js Z (jn ?_)))))))))))))))))))
 refine⟨i+1,(ah [16] (e':=[(3,_),(6,_),(7,_),(8,_)]) Z Z ⟨Z,Z,Z,Z,tv⟩ Z).trans (aa 16 900 Z Z),by omega,by omega⟩
 try simp only[bo]at z9
 refine aR (ac (jb Z (jr ?_)))
 obtain rfl:i=ts.length:=by omega
 rw[List.take_length]
 refine⟨.inl Z,_,bK,_,Z,[900],by decide,Z,Z,Z⟩
theorem C9{L:Nat}(h1:4096≤L)(h2:L≤1073741824){ts:List Tm}:MC Tryz.prog L 125 [bM ts] [] (Plain (bM ts)):=(sM h1 h2).frozen (.v (.c (.whole rfl (bA _).symm)))
def bv(xs:List Int):List Int:=(xs.reverse.dropWhile (· == 0)).reverse
theorem lF{xs:List Int}:bv (xs++[0])=bv xs:=by simp[bv]
theorem rO{xs:List Int}{x:Int}(h:x≠0):bv (xs++[x])=xs++[x]:=by simp[bv,h]
theorem nV{xs:List Int}{n:Nat}(h:n<xs.length)(h0:xs.getD n default=0):bv (xs.take (n+1))=bv (xs.take n):=by
 rw[List.take_succ_eq_append_getElem h,←aw h,h0,lF]
theorem lG{xs:List Int}{n:Nat}(hn:n≤xs.length)(h:n=0∨xs.getD (n-1) default≠0):bv (xs.take n)=xs.take n:=by
 cases n with
 | zero=>simp[bv]
 | succ n=>
  have h':xs.getD n default≠0:=by
   rcases h with h|h
   cases h
   exact h
  rw[aw (by omega)]at h'
  rw[List.take_succ_eq_append_getElem (by omega),rO h']
def lY(c:Int)(xs:List Int):Tm×Bool:=if(Tm.mk c (bv xs)).ok=true then(⟨c,bv xs⟩,true)else(⟨0,[]⟩,false)
abbrev iG(r:Tm×Bool):A:=.tup [cR r.1,eB r.2]
def lZ(a:Tm)(m:Int)(b:Tm)(n:Int):List Int:=(List.range 10).map fun i=>m*a.xs.getD i 0+n*b.xs.getD i 0
def x9(a:Tm)(m:Int)(b:Tm)(n:Int):Tm×Bool:=lY (m*a.c+n*b.c) (lZ a m b n)
def aL(t:Tm):Tm×Bool:=x9 t (-1) ⟨1,[]⟩ (-1)
structure Small(t:Tm):Prop where
  c:num t.c=true
  xs:t.xs.all num=true
theorem ff{a b:Int}(h1:num a=true)(h2:num b=true): -1000000000000≤a*b∧a*b≤1000000000000:=by
 have h1:=IZ.1 h1
 have h2:=IZ.1 h2
 have h3:a.natAbs≤1000000:=by omega
 have h4:b.natAbs≤1000000:=by omega
 have h5:=Nat.mul_le_mul h3 h4
 rw[←Int.natAbs_mul]at h5
 omega
theorem Small.get{t:Tm}(h:Small t)(i:Nat):num (t.xs.getD i 0)=true:=by
 by_cases hi:i<t.xs.length
 have:t.xs.getD i 0=t.xs[i]:=by simp[hi]
 rw[this]
 exact List.all_eq_true.1 h.xs _ (List.getElem_mem hi)
 have:t.xs.getD i 0=0:=by simp[Nat.not_lt.1 hi]
 rw[this];decide
theorem Small.of{t:Tm}(h:t.ok=true):Small t:=by
 simp only[Tm.ok,bC,Bool.not_eq_true']at h
 refine⟨?_,h.2⟩
 cases hn:num t.c with
 | true=>rfl
 | false=>rw[hn]at h;simp at h
theorem yl{a b:Tm}{m n:Int}{i:Nat}(h:i<10):(lZ a m b n).take (i+1)=(lZ a m b n).take i++[m*a.xs.getD i 0+n*b.xs.getD i 0]:=by
 rw[List.take_succ_eq_append_getElem (by simpa[lZ]using h)]
 simp[lZ]
theorem ft{a b:Tm}{m n:Int}:(lZ a m b n).length=10:=by simp[lZ]
theorem pW{t:Tm}(h:t.ok=true):t.xs.length≤10:=by
 simp only[Tm.ok,bC,Bool.not_eq_true']at h
 by_cases h1:(10:Int)<t.xs.length
 rw[decide_eq_true h1]at h
 cases num t.c<;>simp at h
 omega
theorem pO{c:Int}:MQ h1 h2 32 [eI c,bO xs] [] (Plain (iG (lY c xs))):=by
 refine MC.data (jB 32 h1 h2 Tryz.func32 Z fun O hF=>?_)
 have hl:xs.length≤L:=by simpa[As.fact,A.fact,M.fact,D.fact,Ds.fact]using hF.2.1.1
 refine ac (jl Z (js Z (aN (js Z (cW Z (js Z (jf [6,5,4,0,1] Z (jn (ae (ak (ap (X:=Nat) (fun n=>⟨[(0,eI c),(1,bO xs),(4,.c (.pt 4 0 0)),(6,eI n)],[(4,.box [.d (.int .i64 0),.d .nils])]⟩) (fun n=>n≤xs.length∧bv (xs.take n)=bv xs) (fun n=>n) xs.length (Ent.env ⟨Z,Z,Z,Z,tv⟩) ?_ (fun n hi=>?_))))))))))))
 exact⟨cQ _,by rw[List.take_length]⟩
 refine ae (ac (jc Z (jf [12,0,1,4,6] Z (ar 6 Z Z Z (fun hx=>nz hx Z (nz hx Z (ny hx (vF Z) Z (ny hx (vD Z) Z (nz hx Z (nz hx Z (AN.nil))))))) Z Z (st (aq O Z Z Z Z Z) Z (jf [19,0,1,4,6] Z (jn (zc Z (fun z19=>?_) (fun z19=>?_)))))))))
 refine af (ak (ag (js Z (ji Z (js Z (jf [6,19,0,1,4] Z (jn ?_)))))))
 rw[Bool.cond_false_right,bC,decide_eq_true_eq,decide_eq_true_eq]at z19
 obtain⟨k,hk⟩: ∃k,n=k+1:=⟨n-1,by omega⟩
 subst hk
 have hk2:((k+1:Nat):Int)-1=k:=by omega
 rw[hk2]at z19
 refine⟨k,Ent.to ⟨Z,Z,Z,by rw[hk2];rfl,tv⟩ Z,⟨by omega,?_⟩,Nat.lt_succ_self k⟩
 rw[←hi.2,nV (by omega) (by simpa using z19.2)]
 refine aR (ac (jc Z ?_))
 have hd:bv (xs.take n)=xs.take n:=lG hi.1 (by
  rw[Bool.cond_false_right]at z19
  rcases Nat.eq_zero_or_pos n with h0|h0
  ·
   exact .inl h0
  ·
   refine .inr (fun h9=>?_)
   have e1:((n:Int)-1).toNat=n-1:=by omega
   rw[e1,h9]at z19;simp at z19;omega)
 have ht:=hi.2
 rw[hd]at ht
 refine st ((dV O Z Z ⟨by omega,by simp;omega⟩).cast (v':=bO (bv xs)) (by rw[←ht];simp[List.map_take])) Z (jf [25,22,19,0,1,4,6] Z (aj O Z Z Z Z (t6 (xs:=bv xs) h1 h2) (ab Z) Z Z Z Z (B0:=27000) Z Z (js Z (jf [27,19,0,1,4,6] Z (jl Z (jo Z (jn (ae (ac (da O Z Z Z Z (B8 (t:=⟨c,bv xs⟩) h1 h2) (.cons (.c (.pb (cs:=Tm.cells ⟨c,bv xs⟩) Z (ax Z))) .nil) Z Z Z Z Z (B0:=29000) Z (js Z (jn (zc Z (fun z29=>?_) (fun z29=>?_))))))))))))))
 refine ac (js Z (jo Z (js Z (jr ?_))))
 refine eR Z ?_
 have hok:(Tm.mk c (bv xs)).ok=false:=by simpa using z29
 rw[show lY c xs=(⟨0,[]⟩,false)from if_neg (by rw[hok];decide)]
 exact .tup (.cons (.agg (.cons .d (.cons .nils .nil))) (.cons (.c .d) .nil))
 refine af (ac (js Z (jo Z (js Z (jr ?_)))))
 refine eR Z ?_
 have hok:(Tm.mk c (bv xs)).ok=true:=by simpa using z29
 rw[show lY c xs=(⟨c,bv xs⟩,true)from if_pos hok]
 exact .tup (.cons (.agg (ax Z)) (.cons (.c .d) .nil))
theorem Ea{i:Nat}(hi:i<10):MQ h1 h2 176 [ptr t.cells,eI i] [] (Plain (eI (t.xs.getD i 0))):=by
 refine aB ?_ Z
 refine jB 19 h1 h2 Tryz.func176 Z fun O hF=>?_
 have hl:t.xs.length≤L:=by simpa[As.fact,A.fact,M.fact,D.fact,Ds.fact]using hF.1.2.1.1
 refine ac (js Z (jn (ae (ac (jd Z (js Z (cW Z (js Z (jn (zc Z (fun z11=>?_) (fun z11=>?_)))))))))))
 try simp only[bo]at z11
 refine ac (jd Z (js Z (nC Z Z (jb Z (jr ?_)))))
 refine eR Z ?_
 rw[Int.toNat_natCast]
 have:t.xs.getD i 0=t.xs.getD i default:=rfl
 rfl
 try simp only[bo]at z11
 refine af (ac (js Z (jr ?_)))
 refine eR Z ?_
 have:t.xs.getD i 0=0:=by simp[show t.xs.length≤i by omega]
 rw[this]
theorem GZ{a b:Tm}{m:Int}(ha:Small a)(hb:Small b)(hm:num m=true)(hn:num n=true):MQ h1 h2 151 [ptr a.cells,eI m,ptr b.cells,eI n] [] (Plain (iG (x9 a m b n))):=by
 refine MC.data (jB 48 h1 h2 Tryz.func151 Z fun O hF=>?_)
 refine ac (jl Z (js Z (aN (hp (bz O Z Z Z) Z (js Z (jn (ae (ac (js Z (jn (ak (ap (X:=Nat) (fun i=>⟨[(0,ptr a.cells),(1,eI m),(2,ptr b.cells),(3,eI n),(8,.c (.pt 8 0 0)),(10,.c (.rs 900 0 i)),(11,eI i)],[(8,.box [.d (.int .i64 0),.d .nils]),(900,aE ((lZ a m b n).take i))]⟩) (fun i=>i≤10) (fun i=>10-i) 0 ((aa 12 900 Z Z).trans (Ent.to ⟨Z,Z,Z,Z,Z,Z,Z,tv⟩ Z)) ?_ (fun i hi=>?_)))))))))))))
 exact cG _
 refine ae (ac (jb Z (jn (zc Z (fun z14=>?_) (fun z14=>?_)))))
 try simp only[bo]at z14
 refine af (ae (ak (ag ?_)))
 have q1:=ff hm (ha.get i)
 have q2:=ff hn (hb.get i)
 refine jd Z (lo Z (Ea (t:=a) (i:=i) h1 h2 (by omega)) 22000 Z (ji Z (jc Z (lo Z (Ea (t:=b) (i:=i) h1 h2 (by omega)) 27000 Z (ji Z (ji Z (hp (bz O Z Z Z) Z (hp (cu (zs:=((lZ a m b n).take (i+1)).map fun n=>[.int .i64 n]) (n:=i+1) O Z Z Z Z Z Z Z Z Z Z Z Z Z Z Z Z (.row Z (by simp[ft];omega)) Z Z (by decide) Z (by simp[ft];omega) (by simp[ft];omega) (by rw[yl (by omega),List.map_append];rfl) (by simp[ft];omega)) Z (js Z (jn (ag (js Z (ji Z (js Z (jn ?_)))))))))))))))
 refine⟨i+1,((ah [8,30] (e':=[(0,_),(1,_),(2,_),(3,_),(8,_),(10,_),(11,_)]) Z Z ⟨Z,Z,Z,Z,Z,Z,Z,tv⟩ Z).trans (aa 30 900 Z Z)),by omega,by omega⟩
 try simp only[bo]at z14
 refine aR (ae ?_)
 obtain rfl:i=10:=by omega
 rw[List.take_of_length_le (by rw[ft];decide)]
 have q1:=ff hm ha.c
 have q2:=ff hn hb.c
 refine iU (Ent.freeze 900 (e':=[(10,_),(8,_),(0,_),(1,_),(2,_),(3,_)]) Z (.cons Z (.c (.row Z (by simp[ft]))) (fe [8,0,1,2,3] Z)) (cb Z (.skip .nil))) ?_
 refine fJ [_,_,_,_,_,_,_,_,_,_,_,_,_,_,_,_,_,_,_] [p0,p0,pz [1],pz [1,2],pz [1,2,3],pz (rg 0 5),p0,p0,pz [7],pz [7,8],pz [7,8,9],pz (rg 6 5),pz (rg 0 12),p0,pe (rg 0 14) 0,pn (rg 0 15) 1 1,pn (rg 0 15) 1 1,pe (rg 0 17) 1,pn (rg 0 18) 2 2] [14,17] [_,_,_] (k4 Z (kc Z (ai (vF Z) (k4 Z (kc Z (ai (vF Z) (ai (vF Z) (kc Z (ai (bB O (B0:=46000) Z Z Z Z (pO (c:=m*a.c+n*b.c) (xs:=lZ a m b n) h1 h2) (ab Z) Z Z Z Z Z) (kc Z (kc Z (ai (eS Z Z Z) (kc Z trivial))))))))))))) ?_
 refine jw [9,10,8,0,1,2,3] Z (bJ ?_)
 refine dJ ?_
 refine eR Z ?_
 exact .tup (.cons (.agg (ax Z)) (.cons (.c .d) .nil))
theorem zu(ht:Small t):MQ h1 h2 106 [ptr t.cells] [] (Plain (iG (aL t))):=by
 refine MC.data (jB 10 h1 h2 Tryz.func106 Z fun O hF=>?_)
 refine ac (jl Z (js Z (aN (jb Z (jx Z (an (Ent.freeze 6 (e':=[(6,_),(4,_),(2,_)]) Z (.cons Z (.c (.box (cs:=Tm.cells ⟨1,[]⟩) Z (.cons .d (.cons .nils .nil)))) (fe [4,2] Z)) (cb Z (.skip .nil))) ?_))))))
 refine aj O Z Z Z Z (GZ (a:=t) (m:= -1) (b:=⟨1,[]⟩) (n:= -1) h1 h2 ht ⟨by decide,by decide⟩ (by decide) (by decide)) (ab Z) Z Z Z Z (B0:=8000) Z Z (jb Z (jo Z (js Z (jr ?_))))
 refine eR Z ?_
 exact .tup (.cons (.agg (ax Z)) (.cons (.c .d) .nil))
def mh(s:Sq):List Tm×Bool:=if(aL s.goal).2=true then(s.facts++[(aL s.goal).1],true)else([],false)
abbrev GX(r:List Tm×Bool):A:=.tup [bM r.1,eB r.2]
theorem J3{s:Sq}(hg:Small s.goal)(hn:s.facts.length≤1000):MQ h1 h2 102 [ptr s.cells] [] (Plain (GX (mh s))):=by
 refine MC.data (jB 23 h1 h2 Tryz.func102 Z fun O hF=>?_)
 refine ac (jb Z (aN (jc Z (aj O Z Z Z Z (zu (t:=s.goal) h1 h2 hg) (.cons (.c (.sub Z)) .nil) Z Z Z Z (B0:=11000) Z Z (jc Z (jl Z (jo Z (js Z (jn (ae (ac (jb Z (jn (zc Z (fun z14=>?_) (fun z14=>?_)))))))))))))))
 try simp only[bo]at z14
 refine ac (jb Z (jr ?_))
 refine eR Z ?_
 have hok:(aL s.goal).2=false:=z14
 rw[show mh s=([],false)from if_neg (by rw[hok];decide)]
 exact .tup (.cons (.c .nils) (.cons (.c .d) .nil))
 try simp only[bo]at z14
 refine af (ae (jw [4,0] Z (rk [_,_,_,_,_,_,_,_,_,_] [p0,pz [0],pz [0,1],pz [0,1,2],pe [0,1,2,3] 0,pn [] 0 1,pn [5] 0 1,pe [0,1,2,3,4,5,6] 1,pn [0,1,2,3,4,5,6,7] 2 2,pn [0,1,2,3,4,5,6,7,8] 2 2] [4,7] 6 21 (.row false 2 [Tm.cells (aL s.goal).1]) [_,_] [_] [[],[20000]] (kf Z Z Z (kf Z Z Z (kf Z Z Z (kf Z Z Z (ai (ai (au (az (dO O (B0:=20000) Z Z Z Z (sM (ts:=s.facts) h1 h2) (ab Z) Z Z Z Z)) (az (dO O (B0:=20000) Z Z Z Z (sM (ts:=s.facts) h1 h2) (ab Z) Z Z Z Z))) Z) (ai (kf Z Z Z (kg Z Z Z)) (ai (ai (ai (az (cD O Z Z Z Z Z Z Z Z Z Z Z Z Z Z)) Z) (ai (az (cD O Z Z Z Z Z Z Z Z Z Z Z Z Z Z)) Z)) (ai (ai (au trivial (bW (own:=false) (xs:=s.facts.map Tm.cells) (ys:=[Tm.cells (aL s.goal).1]) (zs:=(s.facts++[(aL s.goal).1]).map Tm.cells) (n:=(s.facts++[(aL s.goal).1]).length) O Z Z Z Z Z Z Z Z Z Z Z Z Z Z Z Z (.row Z (bA _).symm) (.whole Z Z (.inr ⟨Z,Z⟩)) (by simp) Z (by simp;omega) (by simp;omega) (by simp) (by simp) Z)) Z) (ai (ai (au trivial (V Z)) Z) (ai (ai (au trivial (V Z)) Z) trivial)))))))))) ?_)))
 refine jw [3,2,4,0] Z (bJ ?_)
 refine dJ ?_
 refine eR Z ?_
 have hok:(aL s.goal).2=true:=z14
 rw[show mh s=(s.facts++[(aL s.goal).1],true)from if_pos hok]
 exact .tup (.cons (.c (.whole Z (bA _).symm)) (.cons (.c .d) .nil))
def fA(ts:List Tm)(n:Int):Bool:=ts.all Tm.ok&&decide ((ts.length:Int)≤n)
def dF(s:Sq):Bool:=fA s.facts 13&&s.goal.ok
def co(x:Int):Bool:=decide (0≤x)&&decide (x≤1000000)
def yc(xs:List Int):Bool:=xs.all co&&decide ((xs.length:Int)≤20)
def gN(n:Nd):Bool:=if n.kind=1 then(decide (n.fact=0)&&n.term.zero)&&yc n.mul else if n.kind=2 then(decide (n.fact=0)&&n.term.ok)&&decide ((n.mul.length:Int)=0)else if n.kind=3 then(eW 0 19 n.fact&&n.term.zero)&&decide ((n.mul.length:Int)=0)else false
def dl(k:Int):Int:=if k=1 then -1 else if k=2 then 1 else 0
def endK:List Nd→Int→Option Nat
  | [],need=>if need≤0 then some 0 else none
  | s::r,need=>if need≤0 then some 0 else(endK r (need+dl s.kind)).map (· + 1)
def endP(p:List Nd)(k:Nat):Int:=match endK (p.drop k) 1 with
  | some n=>k+n
  | none=> -1
def tT(p:List Nd):Bool:=(decide ((1:Int)≤p.length)&&decide ((p.length:Int)≤60))&&(p.all gN&&decide (endP p 0=p.length))
def rj(p:List Nd)(k:Nat):Nat→Int×Bool
  | 0=>(-1,false)
  | i+1=>if(p.getD i default).kind=1∨endP p i≤k then rj p k i else(i,decide (i+1=k))
theorem uT{l:List Nd}{n:Int}(h:n≤0):endK l n=some 0:=by cases l<;>simp[endK,h]
theorem uS{n:Int}(h:0<n):endK [] n=none:=by simp[endK];omega
theorem kS{l:List Nd}{n:Int}(h:0<n){k:Nat}(hk:k<l.length):endK (l.drop k) n=(endK (l.drop (k+1)) (n+dl (l.getD k default).kind)).map (· + 1):=by
 rw[List.drop_eq_getElem_cons hk,aw hk]
 show(if n≤0 then some 0 else _)=_
 rw[if_neg (by omega)]
theorem J4:MQ h1 h2 101 [bM ts,eI n] [] (Plain (eB (fA ts n))):=by
 refine aB ?_ Z
 refine jB 21 h1 h2 Tryz.func101 Z fun O hF=>?_
 have hl:ts.length≤L:=by simpa[As.fact,A.fact,M.fact,D.fact,Ds.fact]using hF.1.1
 refine ac (js Z (jn (ae (ac (js Z (jn (ak (ap (X:=Nat) (fun i=>⟨[(0,bM ts),(1,eI n),(5,eI i)],[]⟩) (fun i=>i≤ts.length∧∀j (h:j<ts.length),j<i→Tm.ok ts[j]=true) (fun i=>ts.length-i) 0 (Ent.env ⟨Z,Z,Z,tv⟩) ?_ (fun i hi=>?_)))))))))
 exact⟨cG _,fun j h hj=>absurd hj (Nat.not_lt_zero j)⟩
 refine ae (ac (jb Z (cW Z (js Z (jn (zc Z (fun z9=>?_) (fun z9=>?_)))))))
 try simp only[bo]at z9
 refine af (ae (ak (ac (jb Z (nC Z Z (lo Z (B8 h1 h2) 16000 Z (js Z (jn (zc Z (fun z16=>?_) (fun z16=>?_))))))))))
 try simp only[bo]at z16
 refine ac (js Z (jr ?_))
 refine eR Z ?_
 rw[Int.toNat_natCast,aw (by omega)]at z16
 rw[fA,iS i (by omega) z16,Bool.false_and]
 try simp only[bo]at z16
 refine af (ag (js Z (ji Z (js Z (jn ?_)))))
 refine⟨i+1,Ent.env ⟨Z,Z,Z,tv⟩,⟨by omega,fun j h hj=>?_⟩,by omega⟩
 by_cases e:j=i
 subst e;rw[Int.toNat_natCast,aw h]at z16;exact z16
 exact hi.2 j h (by omega)
 try simp only[bo]at z9
 refine aR (ac (js Z (cW Z (jc Z (jr ?_)))))
 refine eR Z ?_
 rw[fA,jY (fun j hj=>hi.2 j hj (by omega)),Bool.true_and]
theorem c82{s:Sq}:MQ h1 h2 66 [ptr s.cells] [] (Plain (eB (dF s))):=by
 refine aB ?_ Z
 refine jB 14 h1 h2 Tryz.func66 Z fun O hF=>?_
 refine ac (js Z (aN (jd Z (bq [(6,_),(2,_),(0,_)] [] ⟨Z,Z,Z,tv⟩ Z (lo Z (J4 h1 h2) 8000 Z (js Z (bq [(8,_),(2,_),(0,_)] [] ⟨Z,Z,Z,tv⟩ Z (ar 4 Z Z Z (fun hx=>nz hx Z (nz hx Z (nz hx Z (bj O hx Z Z Z Z (B8 (t:=s.goal) h1 h2) (.cons (.c (.sub Z)) .nil) Z Z Z Z Z Z Z (B0:=13000) Z (AN.nil))))) Z Z (st (aq O Z Z Z Z Z) Z (js Z (jr ?_)))))))))))
 refine eR Z ?_
 rw[Bool.cond_false_right];rfl
def bk(xs:List Int):Nat:=xs.foldl (fun g x=>Nat.gcd g x.natAbs) 0
theorem lP{xs:List Int}{i:Nat}(h:i<xs.length):bk (xs.take (i+1))=Nat.gcd (bk (xs.take i)) (xs.getD i default).natAbs:=by
 rw[List.take_succ_eq_append_getElem h,bk,List.foldl_append,aw h];rfl
theorem pC{xs:List Int}(h:xs.all num=true): ∀{i:Nat},i≤xs.length→bk (xs.take i)≤1000000
 | 0,_=>by simp[bk]
 | i+1,hi=>by
  rw[lP (by omega)]
  have ih:=pC h (i:=i) (by omega)
  have hx:=IZ.1 (List.all_eq_true.1 h _ (List.getElem_mem (show i<xs.length by omega)))
  rw[←aw (by omega)]at hx
  by_cases h0:(xs.getD i default).natAbs=0
  rw[h0,Nat.gcd_zero_right];exact ih
  have:=Nat.gcd_le_right (bk (xs.take i)) (Nat.pos_of_ne_zero h0)
  omega
def mx(a b:Int):Int:=if a>b then a else b
theorem Ae(x:Int):mx x (0-x)=(x.natAbs:Int):=by unfold mx;split<;>omega
def bX(t:Tm):Tm×Bool:=if bk t.xs<2 then(⟨0,[]⟩,false)else
  lY (if t.c.tmod (bk t.xs)<0 then t.c.tdiv (bk t.xs)-1 else t.c.tdiv (bk t.xs)) (t.xs.map fun x=>x.tdiv (bk t.xs))
theorem ej{a b:Int}(h: -1000000≤a∧a≤1000000): -1000000≤a.tdiv b∧a.tdiv b≤1000000:=by
 have h1:(a.tdiv b).natAbs≤a.natAbs:=by rw[Int.natAbs_tdiv];exact Nat.div_le_self _ _
 omega
theorem iM{a b:Int}(h: -1000000≤a∧a≤1000000): -1000000≤a.tmod b∧a.tmod b≤1000000:=by
 have h1:(a.tmod b).natAbs≤a.natAbs:=by rw[Int.natAbs_tmod];exact Nat.mod_le _ _
 omega
def kK(n:Nd)(ctx:List Tm)(first:Bool):List Tm:=if n.kind=3 then ctx++[(bX (ctx.getD n.fact.toNat default)).1]else if first=true then ctx++[n.term]else ctx++[(aL n.term).1]
def bm(f:Tm→Int):List Tm→List Int→Int
  | t::ts,m::ms=>m*f t+bm f ts ms
  | _,_=>0
theorem gL{f:Tm→Int}: ∀{ts:List Tm} {ms:List Int} {i:Nat},i<ts.length→i<ms.length→bm f (ts.take (i+1)) (ms.take (i+1))=bm f (ts.take i) (ms.take i)+ms.getD i default*f (ts.getD i default)
 | [],_,i,h,_=>by simp at h
 | _::_,[],i,_,h=>by simp at h
 | x::xs,y::ys,0,_,_=>by simp[bm]
 | x::xs,y::ys,i+1,h1,h2=>by
  have:=gL (f:=f) (ts:=xs) (ms:=ys) (i:=i) (by simpa using h1) (by simpa using h2)
  simp only[List.take_succ_cons,bm,List.getD_cons_succ]at this ⊢
  omega
theorem j1{f:Tm→Int}{ts:List Tm}{ms:List Int}(hf: ∀t∈ts,num (f t)=true)(hm:ms.all num=true): ∀{i:Nat},i≤ts.length→i≤ms.length→ -(i*1000000000000:Int)≤bm f (ts.take i) (ms.take i)∧bm f (ts.take i) (ms.take i)≤i*1000000000000
 | 0,_,_=>by simp[bm]
 | i+1,h1,h2=>by
  have ih:=j1 hf hm (i:=i) (by omega) (by omega)
  rw[gL (by omega) (by omega)]
  have a1:=hf _ (List.getElem_mem (show i<ts.length by omega))
  have a2:=List.all_eq_true.1 hm _ (List.getElem_mem (show i<ms.length by omega))
  have:=ff a2 a1
  rw[aw (by omega),aw (by omega)]
  omega
abbrev jU(k:Nat):Tm→Int:=fun t=>t.xs.getD k 0
def bE(ts:List Tm)(ms:List Int):List Int:=(List.range 10).map fun k=>bm (jU k) ts ms
def pH(ctx:List Tm)(ms:List Int):Bool:=decide (ctx.length=ms.length)&&((bE ctx ms).all (fun x=>decide (x=0))&&decide (bm Tm.c ctx ms<0))
def i6(n:Nd)(ctx:List Tm):Bool:=if n.kind=1 then pH ctx n.mul else if 20≤ctx.length then false else if n.kind=2 then(aL n.term).2 else if n.fact≥ctx.length then false else(bX (ctx.getD n.fact.toNat default)).2

theorem GY{b:Int}:MQ h1 h2 175 [eI a,eI b] [] (Plain (eI (mx a b))):=by
 refine aB ?_ Z
 refine jB 10 h1 h2 Tryz.func175 Z fun O hF=>?_
 refine ac (js Z (jn (ae (ac (jc Z (jn (zc Z (fun z7=>?_) (fun z7=>?_))))))))
 try simp only[bo]at z7
 refine ac (jb Z (jr ?_))
 refine eR Z ?_
 rw[mx,if_pos z7]
 try simp only[bo]at z7
 refine af (ac (jb Z (jr ?_)))
 refine eR Z ?_
 rw[mx,if_neg (by omega)]
theorem zo(ht:t.xs.all num=true):MQ h1 h2 150 [ptr t.cells] [] (Plain (eI (bk t.xs))):=by
 refine aB ?_ Z
 refine jB 40 h1 h2 Tryz.func150 Z fun O hF=>?_
 have hl:t.xs.length≤L:=by simpa[As.fact,A.fact,M.fact,D.fact,Ds.fact]using hF.1.2.1.1
 refine ac (js Z (aN (js Z (jn (ae (ac (js Z (jn (ak (ap (X:=Nat) (fun i=>⟨[(0,ptr t.cells),(3,eI (bk (t.xs.take i))),(4,eI i)],[]⟩) (fun i=>i≤t.xs.length) (fun i=>t.xs.length-i) 0 (Ent.env ⟨Z,Z,Z,tv⟩) ?_ (fun i hi=>?_)))))))))))
 exact cG _
 refine ae (ac (jd Z (js Z (cW Z (js Z (jn (zc Z (fun z13=>?_) (fun z13=>?_))))))))
 try simp only[bo]at z13
 refine af (ae (ak (ae ?_)))
 have hi0:=hi
 have hx:=IZ.1 (List.all_eq_true.1 ht _ (List.getElem_mem (show i<t.xs.length by omega)))
 rw[←aw (by omega)]at hx
 have hgs:=lP (xs:=t.xs) (i:=i) (by omega)
 have hgl:=pC ht hi
 have hmx:=Ae (t.xs.getD i default)
 refine fJ [_,_,_,_,_,_,_,_,_,_,_,_,_,_,_,_,_] [p0,pz [0],pz [0,1],pz [0,1,2],p0,pz (rg 0 5),pz (rg 0 6),p0,pz [7],pz [7,8],pz [7,8,9],p0,pz (rg 7 5),pz (rg 7 6),pz (rg 7 7),pe (rg 0 15) 0,pn (rg 0 16) 1 1] [15] [_,_] (k4 Z (kc Z (ai (vD Z) (k4 Z (kc Z (kc Z (ai (vD Z) (kc Z (ai (aS O Z Z (by rw[Int.toNat_natCast];omega) (by rw[Int.toNat_natCast];omega)) (ai (bg O (B0:=32000) Z Z Z Z ((GY (a:=t.xs.getD ((i:Int)).toNat default) (b:=0-t.xs.getD ((i:Int)).toNat default) h1 h2).plain (u:=eI ((t.xs.getD i default).natAbs)) (by rw[Int.toNat_natCast,hmx])) (ab Z) Z Z Z Z Z) (kc Z trivial))))))))))) ?_
 refine jw [5,13,0,3,4] Z (bJ ?_)
 refine ak (ap (X:=Nat×Nat) (fun z=>⟨[(0,ptr t.cells),(3,eI z.1),(4,eI i),(5,eI z.2)],[]⟩) (fun z=>Nat.gcd z.1 z.2=Nat.gcd (bk (t.xs.take i)) (t.xs.getD i default).natAbs∧z.1≤1000000∧z.2≤1000000) (fun z=>z.2) (bk (t.xs.take i),(t.xs.getD i default).natAbs) (Ent.env ⟨Z,Z,Z,Z,tv⟩) ?_ (fun z hi=>?_))
 exact⟨Z,hgl,by show(t.xs.getD i default).natAbs≤1000000;omega⟩
 have hz:=iM (a:=z.1) (b:=z.2) (by omega)
 refine ae (ac (jb Z (jn (zc Z (fun z33=>?_) (fun z33=>?_)))))
 try simp only[bo]at z33
 refine af (ak (ac (jb Z (st (vR Z Z Z Z) Z (js Z (aN (jb Z (jn (ag (jb Z (jn ?_)))))))))))
 have hm:z.1%z.2<z.2:=Nat.mod_lt _ (by omega)
 refine⟨(z.2,z.1%z.2),Ent.env ⟨Z,Z,Z,Z,tv⟩,⟨?_,hi.2.2,by show z.1%z.2≤1000000;omega⟩,hm⟩
 show Nat.gcd z.2 (z.1%z.2)=_
 rw[←hi.1,Nat.gcd_comm z.2,←Nat.gcd_rec,Nat.gcd_comm]
 try simp only[bo]at z33
 refine aR (ag (js Z (ji Z (js Z (jn ?_)))))
 have hz0:z.2=0:=by omega
 have hz1:z.1=bk (t.xs.take (i+1)):=by rw[hgs,←hi.1,hz0,Nat.gcd_zero_right]
 rw[hz1]
 exact⟨i+1,Ent.env ⟨Z,Z,Z,tv⟩,by omega,by omega⟩
 try simp only[bo]at z13
 refine aR (ac (jb Z (jr ?_)))
 refine eR Z ?_
 obtain rfl:i=t.xs.length:=by omega
 rw[List.take_length]
theorem JV(ht:Small t):MQ h1 h2 171 [ptr t.cells] [] (Plain (iG (bX t))):=by
 refine MC.data (jB 55 h1 h2 Tryz.func171 Z fun O hF=>?_)
 have hl:t.xs.length≤L:=by simpa[As.fact,A.fact,M.fact,D.fact,Ds.fact]using hF.1.2.1.1
 refine ac (jl Z (js Z (aN (js Z (lo Z (zo (t:=t) h1 h2 ht.xs) 10000 Z (js Z (jn (ae (ac (jb Z (jn (zc Z (fun z11=>?_) (fun z11=>?_)))))))))))))
 try simp only[bo]at z11
 refine ac (js Z (jo Z (js Z (jr ?_))))
 refine eR Z ?_
 rw[show bX t=(⟨0,[]⟩,false)from if_pos (by omega)]
 exact .tup (.cons (.agg (.cons .d (.cons .nils .nil))) (.cons (.c .d) .nil))
 try simp only[bo]at z11
 refine af (ac ?_)
 obtain⟨g,hg⟩: ∃g:Int,g=(bk t.xs:Int):=⟨_,rfl⟩
 rw[←hg]
 rw[←hg]at z11
 refine hp (bz O Z Z Z) Z (js Z (jn (ae (ac (js Z (jn (ak (ap (X:=Nat) (fun i=>⟨[(0,ptr t.cells),(2,.c (.pt 2 0 0)),(4,eI g),(5,.c (.rs 900 0 i)),(6,eI i)],[(2,.box [.d (.int .i64 0),.d .nils]),(900,aE ((t.xs.map fun x=>x.tdiv g).take i))]⟩) (fun i=>i≤t.xs.length) (fun i=>t.xs.length-i) 0 ((aa 13 900 Z Z).trans (Ent.to ⟨Z,Z,Z,Z,Z,tv⟩ Z)) ?_ (fun i hi=>?_)))))))))
 exact cG _
 refine ae (ac (jd Z (js Z (cW Z (js Z (jn (zc Z (fun z20=>?_) (fun z20=>?_))))))))
 try simp only[bo]at z20
 refine af (ae (ak (ag ?_)))
 have hx:=ej (b:=g) (IZ.1 (List.all_eq_true.1 ht.xs _ (List.getElem_mem (show i<t.xs.length by omega))))
 rw[←aw (by omega)]at hx
 refine jd Z (jb Z (nC Z Z (jb Z (st (fU O Z Z Z Z (by omega) (by rw[Int.toNat_natCast];omega) (by rw[Int.toNat_natCast];omega)) Z (hp (bz O Z Z Z) Z (hp (cu (zs:=((t.xs.map fun x=>x.tdiv g).take (i+1)).map fun n=>[.int .i64 n]) (n:=i+1) O Z Z Z Z Z Z Z Z Z Z Z Z Z Z Z Z (.row Z (by simp;omega)) Z Z (by decide) Z (by simp;omega) (by simp;omega) (by rw[List.take_succ_eq_append_getElem (by simp;omega),List.map_append,List.getElem_map,Int.toNat_natCast,aw (by omega)];rfl) (by simp;omega)) Z (js Z (jn (ag (js Z (ji Z (js Z (jn ?_)))))))))))))
 refine⟨i+1,((ah [2,34] (e':=[(0,_),(2,_),(4,_),(5,_),(6,_)]) Z Z ⟨Z,Z,Z,Z,Z,tv⟩ Z).trans (aa 34 900 Z Z)),by omega,by omega⟩
 try simp only[bo]at z20
 refine aR (ac ?_)
 have z0:=IZ.1 ht.c
 have hq:=ej (b:=g) z0
 have hr:=iM (b:=g) z0
 obtain rfl:i=t.xs.length:=by omega
 rw[List.take_of_length_le (by simp)]
 refine an (Ent.freeze 900 (e':=[(2,_),(4,_),(5,_),(0,_)]) Z (.cons Z (.keep Z) (.cons Z (.keep Z) (.cons Z (.c (.row Z (by simp))) (fe [0] Z)))) (cb Z (.skip .nil))) ?_
 refine jd Z (js Z (st (vQ Z Z Z Z) Z (js Z (jn (ae (ac (jd Z (js Z (st (vR Z Z Z Z) Z (js Z (jn (zc Z (fun z47=>?_) (fun z47=>?_)))))))))))))
 try simp only[bo]at z47
 refine ag (js Z (ji Z (js Z (aN (jb Z (aj O Z Z Z Z (pO (c:=_) (xs:=t.xs.map fun x=>x.tdiv g) h1 h2) (ab Z) Z Z Z Z (B0:=53000) Z Z (jb Z (jo Z (js Z (jr ?_))))))))))
 refine eR Z ?_
 rw[show bX t=lY (t.c.tdiv g-1) (t.xs.map fun x=>x.tdiv g) by rw[hg,bX,if_neg (by omega),if_pos (by rw[←hg];exact z47)]]
 exact .tup (.cons (.agg (ax Z)) (.cons (.c .d) .nil))
 try simp only[bo]at z47
 refine af (ac (jb Z (aj O Z Z Z Z (pO (c:=_) (xs:=t.xs.map fun x=>x.tdiv g) h1 h2) (ab Z) Z Z Z Z (B0:=53000) Z Z (jb Z (jo Z (js Z (jr ?_)))))))
 refine eR Z ?_
 rw[show bX t=lY (t.c.tdiv g) (t.xs.map fun x=>x.tdiv g) by rw[hg,bX,if_neg (by omega),if_neg (by rw[←hg];omega)]]
 exact .tup (.cons (.agg (ax Z)) (.cons (.c .d) .nil))
def fv(ts:List Tm)(ms:List Int)(i j:Nat):List Int:=(List.range 10).map fun k=>bm (jU k) (ts.take i) (ms.take i)+(if k<j then ms.getD i default*(ts.getD i default).xs.getD k 0 else 0)
theorem ea{ts ms i j}:(fv ts ms i j).length=10:=by simp[fv]
theorem n4{ts ms i}:fv ts ms i 0=bE (ts.take i) (ms.take i):=by simp[fv,bE]
theorem mX{ts ms i j}(h:j<10):(fv ts ms i j).getD j default=bm (jU j) (ts.take i) (ms.take i):=by
 rw[aw (by rw[ea];exact h)]
 simp[fv]
theorem n5{ts ms i j}(h:j<10):(fv ts ms i j).set j ((fv ts ms i j).getD j default+ms.getD i default*(ts.getD i default).xs.getD j default)=fv ts ms i (j+1):=by
 rw[mX h]
 apply List.ext_getElem?
 intro k
 rw[List.getElem?_set]
 by_cases hk:k<10
 by_cases e:j=k
 subst e
 rw[if_pos Z,if_pos (by rw[ea];exact h)]
 simp[fv,h]
 rw[if_neg e]
 have h3:(k<j+1)=(k<j):=by apply propext;omega
 simp only[fv,List.getElem?_map,List.getElem?_range hk,Option.map_some,h3]
 have h1:(fv ts ms i j)[k]? = none:=List.getElem?_eq_none (by rw[ea];omega)
 have h2:(fv ts ms i (j+1))[k]? = none:=List.getElem?_eq_none (by rw[ea];omega)
 rw[if_neg (by omega),h1,h2]
theorem qf{ts ms i j}(h1:i<ts.length)(h2:i<ms.length)(h:(ts.getD i default).xs.length≤j):fv ts ms i j=bE (ts.take (i+1)) (ms.take (i+1)):=by
 unfold fv bE
 apply List.map_congr_left
 intro k hk
 rw[gL h1 h2]
 by_cases e:k<j
 rw[if_pos e]
 rw[if_neg e]
 show _+0=_+_*(ts.getD i default).xs.getD k 0
 rw[show(ts.getD i default).xs.getD k 0=0 by rw[List.getD_eq_getElem?_getD,List.getElem?_eq_none (by omega)];rfl,Int.mul_zero]
theorem kl{ts ms}:(bE ts ms).length=10:=by simp[bE]
structure CtxOk(ctx:List Tm):Prop where
  ok: ∀t∈ctx,t.ok=true
  len:ctx.length≤1000
theorem CtxOk.get{ctx:List Tm}(h:CtxOk ctx){i:Nat}(hi:i<ctx.length):(ctx.getD i default).ok=true:=by rw[aw hi];exact h.ok _ (List.getElem_mem hi)
theorem ET{ms:List Int}(h:ms.all co=true):ms.all num=true:=by
 rw[List.all_eq_true]at h ⊢
 intro x hx
 have:=h x hx
 simp only[co,bC,decide_eq_true_eq]at this
 exact IZ.2 (by omega)
end Go.Al
