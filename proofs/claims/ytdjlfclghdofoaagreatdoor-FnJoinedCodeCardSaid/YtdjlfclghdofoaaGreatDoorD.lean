/- Contracts of the functions that copy, compare, mark and measure; the reference's functions for terms. -/
import Derived.Test.YtdjlfclghdofoaaGreatDoorProg
import Derived.Test.YtdjlfclghdofoaaGreatDoorC
import Derived.Test.YtdjlfclghdofoaaGreatDoorRows
set_option linter.unusedVariables false
set_option linter.unusedSimpArgs false
set_option maxRecDepth 10000
set_option maxHeartbeats 4000000
open Go.Proofs
/- The table of the types that the functions of this seat use, and its proof. -/
namespace Go.Al
variable{L:Nat}(h1:4096≤L)(h2:L≤1073741824)
def tt:List (Nat×TI):=[
  (2,⟨4,false,0,1,8,[.int .i64 0],[]⟩),
  (3,⟨4,false,0,1,8,[.int .i64 0],[]⟩),
  (4,⟨5,false,0,1,1,[.bool false],[]⟩),
  (5,⟨4,false,0,1,1,[.int .u8 0],[]⟩),
  (9,⟨2,false,0,1,16,[.str ByteArray.empty],[]⟩),
  (21,⟨4,false,0,1,4,[.int .i32 0],[]⟩),
  (22,⟨1,false,5,1,24,[.nils],[]⟩),
  (24,⟨1,false,45,1,24,[.nils],[]⟩),
  (26,⟨1,false,2,1,24,[.nils],[]⟩),
  (28,⟨3,true,0,2,48,[.nils,.nils],[(0,1),(1,1)]⟩),
  (45,⟨3,true,0,2,16,[.int .i64 0,.int .i64 0],[(0,1),(1,1)]⟩),
  (47,⟨1,false,97,1,24,[.nils],[]⟩),
  (48,⟨1,false,62,1,24,[.nils],[]⟩),
  (50,⟨3,true,0,4,96,[.nils,.nils,.nils,.nils],[(0,1),(1,1),(2,1),(3,1)]⟩),
  (62,⟨3,true,0,2,32,[.int .i64 0,.nils],[(0,1),(1,1)]⟩),
  (69,⟨1,false,9,1,24,[.nils],[]⟩),
  (88,⟨3,true,0,4,80,[.nils,.nils,.nils,.int .i64 0],[(0,2),(2,1),(3,1)]⟩),
  (90,⟨3,true,0,7,136,[.nils,.nils,.nils,.int .i64 0,.nils,.nils,.int .i64 0],[(0,4),(4,1),(5,1),(6,1)]⟩),
  (97,⟨3,true,0,2,32,[.int .i64 0,.nils],[(0,1),(1,1)]⟩),
  (101,⟨1,false,4,1,24,[.nils],[]⟩),
  (104,⟨7,false,0,1,8,[.nilf],[]⟩),
  (112,⟨4,false,0,1,8,[.int .u64 0],[]⟩),
  (114,⟨3,true,0,3,40,[.nils,.int .i64 0,.int .u64 0],[(0,1),(1,1),(2,1)]⟩),
  (122,⟨6,false,0,1,8,[.nilp],[]⟩),
  (124,⟨3,true,0,2,32,[.nilp,.nils],[(0,1),(1,1)]⟩),
  (140,⟨1,false,172,1,24,[.nils],[]⟩),
  (142,⟨3,true,0,3,72,[.nils,.nils,.nils],[(0,1),(1,1),(2,1)]⟩),
  (160,⟨6,false,0,1,8,[.nilp],[]⟩),
  (166,⟨4,false,0,1,8,[.int .u64 0],[]⟩),
  (172,⟨3,true,0,8,112,[.int .i64 0,.int .i64 0,.int .i64 0,.int .i64 0,.nils,.int .i64 0,.nils,.nils],[(0,1),(1,1),(2,1),(3,2),(5,2),(7,1)]⟩),
  (192,⟨4,false,0,1,8,[.int .i64 0],[]⟩),
  (201,⟨4,false,0,1,4,[.int .u32 0],[]⟩),
  (225,⟨4,false,0,1,8,[.int .u64 0],[]⟩),
  (247,⟨3,true,0,2,2,[.int .u8 0,.int .u8 0],[(0,1),(1,1)]⟩),
  (251,⟨3,true,0,1,16,[.str ByteArray.empty],[(0,1)]⟩)
]
theorem tt2:TIok Tryz.prog 2 ⟨4,false,0,1,8,[.int .i64 0],[]⟩:=(by constructor<;>kernel_rfl)
theorem tt3:TIok Tryz.prog 3 ⟨4,false,0,1,8,[.int .i64 0],[]⟩:=(by constructor<;>kernel_rfl)
theorem tt4:TIok Tryz.prog 4 ⟨5,false,0,1,1,[.bool false],[]⟩:=(by constructor<;>kernel_rfl)
theorem tt5:TIok Tryz.prog 5 ⟨4,false,0,1,1,[.int .u8 0],[]⟩:=(by constructor<;>kernel_rfl)
theorem tt9:TIok Tryz.prog 9 ⟨2,false,0,1,16,[.str ByteArray.empty],[]⟩:=(by constructor<;>kernel_rfl)
theorem ur:TIok Tryz.prog 21 ⟨4,false,0,1,4,[.int .i32 0],[]⟩:=(by constructor<;>kernel_rfl)
theorem uq:TIok Tryz.prog 22 ⟨1,false,5,1,24,[.nils],[]⟩:=(by constructor<;>kernel_rfl)
theorem uo:TIok Tryz.prog 24 ⟨1,false,45,1,24,[.nils],[]⟩:=(by constructor<;>kernel_rfl)
theorem um:TIok Tryz.prog 26 ⟨1,false,2,1,24,[.nils],[]⟩:=(by constructor<;>kernel_rfl)
theorem ul:TIok Tryz.prog 28 ⟨3,true,0,2,48,[.nils,.nils],[(0,1),(1,1)]⟩:=(by constructor<;>kernel_rfl)
theorem uk:TIok Tryz.prog 45 ⟨3,true,0,2,16,[.int .i64 0,.int .i64 0],[(0,1),(1,1)]⟩:=(by constructor<;>kernel_rfl)
theorem uj:TIok Tryz.prog 47 ⟨1,false,97,1,24,[.nils],[]⟩:=(by constructor<;>kernel_rfl)
theorem ui:TIok Tryz.prog 48 ⟨1,false,62,1,24,[.nils],[]⟩:=(by constructor<;>kernel_rfl)
theorem uh:TIok Tryz.prog 50 ⟨3,true,0,4,96,[.nils,.nils,.nils,.nils],[(0,1),(1,1),(2,1),(3,1)]⟩:=(by constructor<;>kernel_rfl)
theorem ug:TIok Tryz.prog 62 ⟨3,true,0,2,32,[.int .i64 0,.nils],[(0,1),(1,1)]⟩:=(by constructor<;>kernel_rfl)
theorem uf:TIok Tryz.prog 69 ⟨1,false,9,1,24,[.nils],[]⟩:=(by constructor<;>kernel_rfl)
theorem ue:TIok Tryz.prog 88 ⟨3,true,0,4,80,[.nils,.nils,.nils,.int .i64 0],[(0,2),(2,1),(3,1)]⟩:=(by constructor<;>kernel_rfl)
theorem ud:TIok Tryz.prog 90 ⟨3,true,0,7,136,[.nils,.nils,.nils,.int .i64 0,.nils,.nils,.int .i64 0],[(0,4),(4,1),(5,1),(6,1)]⟩:=(by constructor<;>kernel_rfl)
theorem uc:TIok Tryz.prog 97 ⟨3,true,0,2,32,[.int .i64 0,.nils],[(0,1),(1,1)]⟩:=(by constructor<;>kernel_rfl)
theorem sK:TIok Tryz.prog 101 ⟨1,false,4,1,24,[.nils],[]⟩:=(by constructor<;>kernel_rfl)
theorem sJ:TIok Tryz.prog 104 ⟨7,false,0,1,8,[.nilf],[]⟩:=(by constructor<;>kernel_rfl)
theorem sI:TIok Tryz.prog 112 ⟨4,false,0,1,8,[.int .u64 0],[]⟩:=(by constructor<;>kernel_rfl)
theorem sH:TIok Tryz.prog 114 ⟨3,true,0,3,40,[.nils,.int .i64 0,.int .u64 0],[(0,1),(1,1),(2,1)]⟩:=(by constructor<;>kernel_rfl)
theorem sG:TIok Tryz.prog 122 ⟨6,false,0,1,8,[.nilp],[]⟩:=(by constructor<;>kernel_rfl)
theorem sF:TIok Tryz.prog 124 ⟨3,true,0,2,32,[.nilp,.nils],[(0,1),(1,1)]⟩:=(by constructor<;>kernel_rfl)
theorem sB:TIok Tryz.prog 140 ⟨1,false,172,1,24,[.nils],[]⟩:=(by constructor<;>kernel_rfl)
theorem sv:TIok Tryz.prog 142 ⟨3,true,0,3,72,[.nils,.nils,.nils],[(0,1),(1,1),(2,1)]⟩:=(by constructor<;>kernel_rfl)
theorem su:TIok Tryz.prog 160 ⟨6,false,0,1,8,[.nilp],[]⟩:=(by constructor<;>kernel_rfl)
theorem sr:TIok Tryz.prog 166 ⟨4,false,0,1,8,[.int .u64 0],[]⟩:=(by constructor<;>kernel_rfl)
theorem sq:TIok Tryz.prog 172 ⟨3,true,0,8,112,[.int .i64 0,.int .i64 0,.int .i64 0,.int .i64 0,.nils,.int .i64 0,.nils,.nils],[(0,1),(1,1),(2,1),(3,2),(5,2),(7,1)]⟩:=(by constructor<;>kernel_rfl)
theorem so:TIok Tryz.prog 192 ⟨4,false,0,1,8,[.int .i64 0],[]⟩:=(by constructor<;>kernel_rfl)
theorem sn:TIok Tryz.prog 201 ⟨4,false,0,1,4,[.int .u32 0],[]⟩:=(by constructor<;>kernel_rfl)
theorem sm:TIok Tryz.prog 225 ⟨4,false,0,1,8,[.int .u64 0],[]⟩:=(by constructor<;>kernel_rfl)
theorem sk:TIok Tryz.prog 247 ⟨3,true,0,2,2,[.int .u8 0,.int .u8 0],[(0,1),(1,1)]⟩:=(by constructor<;>kernel_rfl)
theorem sj:TIok Tryz.prog 251 ⟨3,true,0,1,16,[.str ByteArray.empty],[(0,1)]⟩:=(by constructor<;>kernel_rfl)
theorem si:TTok Tryz.prog tt:=⟨tt2,tt3,tt4,tt5,tt9,ur,uq,uo,um,ul,uk,uj,ui,uh,ug,uf,ue,ud,uc,sK,sJ,sI,sH,sG,sF,sB,sv,su,sr,sq,so,sn,sm,sk,sj,aD⟩
theorem ow:TTplain tt=true:=by kernel_rfl
theorem qO:Tryz.prog.follows .mixedOrders=true:=by kernel_rfl
theorem ac{σ:Sg}{Q:Exit→St→Prop}{s:St}{id:Nat}{l:List Oper}{y:Code}(h:AOps σ l.toArray (gz (AWP σ y Q) Q) l s):AWP σ (.seq (.region id l.toArray false) y) Q s:=AWP.seq (AWP.region h)
theorem jn{σ:Sg}{Q:Exit→St→Prop}{s:St}{all:Array Oper}(h:Q .normal s):AOps σ all Q [] s:=AOps.nil h
theorem bc{σ:Sg}{Q:Exit→St→Prop}{s:St}{all:Array Oper}{id:Nat}{l:List Oper}{y:Code}(h:AOps σ l.toArray (gz (AWP σ y Q) Q) l s):AOps σ all (gz (AWP σ (.seq (.region id l.toArray false) y) Q) Q) [] s:=AOps.nil (AWP.seq (AWP.region h))
theorem bJ:(∀{α β:Type} {f:α→β} {l:List α},(l.map f).length=l.length)∧(∀{α:Type} [BEq α] [LawfulBEq α] {a b:α},(a==b)=true↔a=b)∧(∀{p:Prop} [Decidable p],(decide p=true)=p)∧(∀{p:Prop} [Decidable p],(decide p=false)↔¬p)∧(∀{b:Bool},((!b)=true)=(b=false))∧(∀{b:Bool},((!b)=false)=(b=true))∧((!true)=false)∧((!false)=true)∧(∀{a b:Int},¬a<b↔b≤a)∧(∀{a b:Int},¬a≤b↔b<a):=by
 refine⟨?_,?_,?_,?_,?_,?_,?_,?_,?_,?_⟩<;>intros<;>simp
theorem ax{σ:Sg}{Q:bu}{all:Array Oper}{l:List Oper}{e:List (Nat×A)}{H H':List (Nat×B)}(K:AOps σ all Q l ⟨e,H'⟩)(h:HN H H':=by repeat' (first|apply HN.cons rfl|exact HN.nil rfl|exact BN.row rfl|exact BN.map rfl|apply BN.box rfl|apply MN.cons rfl|exact MN.nil rfl|exact XN.d rfl|exact XN.rs rfl|exact mK)):AOps σ all Q l ⟨e,H⟩:=nk h K
theorem dK{σ:Sg}{Q:Exit→St→Prop}{c:Code}{e:List (Nat×A)}{H H':List (Nat×B)}(K:AWP σ c Q ⟨e,H'⟩)(h:HN H H':=by repeat' (first|apply HN.cons rfl|exact HN.nil rfl|exact BN.row rfl|exact BN.map rfl|apply BN.box rfl|apply MN.cons rfl|exact MN.nil rfl|exact XN.d rfl|exact XN.rs rfl|exact mK)):AWP σ c Q ⟨e,H⟩:=oX h K
def rH(e:List (Nat×A)):List Nat→Option (List (Nat×A))
  | []=>some []
  | k :: ks=>match lk e k,rH e ks with
    | some v,some r=>some ((k,v)::r)
    | _,_=>none
theorem j1{e:List (Nat×A)}: ∀{ks:List Nat} {e':List (Nat×A)},rH e ks=some e'→envSub e e'
 | [],e',h=>by cases h;trivial
 | k::ks,e',h=>by
  unfold rH at h
  split at h
  rename_i v r h1 h2
  cases h
  exact⟨h1,j1 h2⟩
  cases h
theorem jf{σ:Sg}{Q:Exit→St→Prop}{all:Array Oper}{l:List Oper}{e e':List (Nat×A)}{H:List (Nat×B)}(ks:List Nat)(h:rH e ks=some e')(K:AOps σ all Q l ⟨e',H⟩):AOps σ all Q l ⟨e,H⟩:=ll e' (j1 h) K
theorem jw{σ:Sg}{Q:Exit→St→Prop}{c:Code}{e e':List (Nat×A)}{H:List (Nat×B)}(ks:List Nat)(h:rH e ks=some e')(K:AWP σ c Q ⟨e',H⟩):AWP σ c Q ⟨e,H⟩:=l5 e' (j1 h) K


noncomputable abbrev SG(L nt:Nat):Sg:=⟨Tryz.prog,tt,L,nt,[]⟩
theorem px{L nt}(h1:4096≤L)(h2:L≤9223372036854775807):SgOk (SG L nt):=⟨si,ow,h1,h2,qO⟩
theorem jB{L f:Nat}{fn:Func}{c:Code}{args:List A}{Q:A→List (Nat×B)→Prop}(nt:Nat)(h1:4096≤L)(h2:L≤1073741824)(hf:Tryz.prog.funcs[f]? = some fn)(hz:(fn.body,fn.ntmps,Nat.ble args.length nt)=(some c,nt,true))(h:SgOk (SG L nt)→As.fact L args→AWP (SG L nt) c (fun e s=>(e= .ret∨e= .normal)∧∃s2,Ent (SG L nt) s s2∧∃res,cz tt s2 fn.results.toList=some res∧Q res s2.H) ⟨cf 0 args,[]⟩)(hn:(fn.name== "runtime.NumGoroutine")=false:=by kernel_rfl):MC Tryz.prog L f args [] Q:=have hσ:=px (nt:=nt) h1 (Nat.le_trans h2 (by decide));have hz:=Prod.mk.inj hz;have hy:=Prod.mk.inj hz.2;MC.body hσ hf hn hz.1 hy.1 (Nat.le_of_ble_eq_true hy.2) (h hσ)
theorem jH{L f:Nat}{fn:Func}{c:Code}{args:List A}{Hin:List (Nat×B)}{Q:A→List (Nat×B)→Prop}(nt:Nat)(ks:List Nat)(h1:4096≤L)(h2:L≤1073741824)(hf:Tryz.prog.funcs[f]? = some fn)(hz:(fn.body,fn.ntmps,ks,Nat.ble args.length nt)=(some c,nt,Hin.map (·.1),true))(h:SgOk ⟨Tryz.prog,tt,L,nt,ks⟩→As.fact L args→AWP ⟨Tryz.prog,tt,L,nt,ks⟩ c (fun e s=>(e= .ret∨e= .normal)∧∃s2,Ent ⟨Tryz.prog,tt,L,nt,ks⟩ s s2∧∃res,cz tt s2 fn.results.toList=some res∧Q res s2.H) ⟨cf 0 args,Hin⟩)(hn:(fn.name== "runtime.NumGoroutine")=false:=by kernel_rfl):MC Tryz.prog L f args Hin Q:=have hσ:=kp (js:=ks) (px (nt:=nt) h1 (Nat.le_trans h2 (by decide)));have hz:=Prod.mk.inj hz;have hy:=Prod.mk.inj hz.2;have hx:=Prod.mk.inj hy.2;oV hσ hf hn hz.1 hy.1 hx.1 (Nat.le_of_ble_eq_true hx.2) (h hσ)
abbrev MQ{L:Nat}(h1:4096≤L)(h2:L≤1073741824)(f:Nat)(ds:List A)(Hin:List (Nat×B))(Q:A→List (Nat×B)→Prop):Prop:=MC Tryz.prog L f ds Hin Q
abbrev eI(n:Int):A:=.c (.d (.int .i64 n))
abbrev eB(b:Bool):A:=.c (.d (.bool b))
abbrev fP(xs:List Int):D:=.slc 1 (xs.map fun n=>[.int .i64 n])
structure Tm where
  c:Int
  xs:List Int
  deriving Inhabited
abbrev Tm.cells(t:Tm):List D:=[.int .i64 t.c,fP t.xs]
abbrev ptr(cs:List D):A:=.c (.d (.ptr cs 0))
def gx(x:Int):Bool:=decide (-1000000≤x)&&decide (x≤1000000)
def Tm.ok(t:Tm):Bool:=!(bif (bif !gx t.c then true else decide ((10:Int)<t.xs.length))then true else bif decide ((0:Int)<t.xs.length)then decide (t.xs.getD ((t.xs.length:Int)-1).toNat default=0)else false)&&t.xs.all gx
theorem rA{α:Type}{p:α→Bool}{xs:List α}(h: ∀j (hj:j<xs.length),p xs[j]=true):xs.all p=true:=by
 rw[List.all_eq_true];intro x hx
 obtain⟨j,hj,rfl⟩:=List.mem_iff_getElem.1 hx
 exact h j hj
theorem qg{α:Type}{p:α→Bool}{xs:List α}(j:Nat)(hj:j<xs.length)(h:p xs[j]=false):xs.all p=false:=by
 rw[List.all_eq_false];exact⟨xs[j],List.getElem_mem _,by simp[h]⟩
theorem aH{α:Type}[Inhabited α]{xs:List α}{j:Nat}(hj:j<xs.length):xs.getD j default=xs[j]:=by simp[hj]

abbrev am(xs:List Int):B:=.row true 1 (xs.map fun n=>[.int .i64 n])
abbrev bt(xs:List Int):A:=.c (.d (fP xs))
variable{xs:List Int}
theorem r7:MQ h1 h2 117 [bt xs] [] (Rows (.c (.rs 0 0 xs.length)) [am xs]):=by
 refine c8 (jB 6 h1 h2 Tryz.func117 Z fun O hF=>?_)
 have hl:xs.length≤L:=by simpa[As.fact,A.fact,M.fact,D.fact,Ds.fact]using hF.1.1
 refine ?_
 refine ac (js Z (bc (bg (HS.lit O Z Z Z) Z (js Z (bg (ik (own:=true) O Z (.row Z Z) (.slc (.inr (Scal.map (fun _=>rfl)))) (by simp) Z (by first|omega|(dsimp only[cV,jN,List.length_nil];omega)|(simp only[bJ]at *;omega)|(simp;omega)) (by first|omega|(dsimp only[cV,jN,List.length_nil];omega)|(simp only[bJ]at *;omega)|(simp;omega)) Z Z) Z (js Z (jr ?_)))))))
 refine⟨.inl Z,_,aW,_,Z,[5],by decide,Z,?_,?_⟩
 simp[A.lab,M.lab]
 rfl

deriving instance DecidableEq for Tm
abbrev tms(ts:List Tm):D:=.slc 2 (ts.map Tm.cells)

structure Sm where
  kind:Int
  var:Int
  event:Int
  sum:Tm
  index:Tm
  facts:List Tm
  deriving Inhabited,DecidableEq
structure Pm where
  pre:List Tm
  body:List Sm
  post:List Tm
  deriving Inhabited,DecidableEq
structure Sx where
  vars:List Int
  cells:List Int
  deriving Inhabited,DecidableEq
abbrev Sx.data(s:Sx):List D:=[fP s.vars,fP s.cells]
abbrev em(s:Sx):A:=.agg (s.data.map .d)

def cnt{α:Type}(sz:α→Nat)(l:List α):Nat:=(l.map sz).sum
section
variable{α:Type}{f:Int→α→α}{sz:α→Nat}
end

def Tm.term(t:Tm):Bool:=t.ok&&decide ((t.xs.length:Int)≤4)
def below(k:Int):Int:=if k=1 then 2 else if k=7 then 2 else if k=8 then 1 else 0
def Tm.zero(t:Tm):Bool:=decide (t.c=0)&&decide ((t.xs.length:Int)=0)

def ic(x:Int):Bool:=decide (-1000000000≤x)&&decide (x≤1000000000)
def cN(xs:List Int)(n:Int):Bool:=xs.all ic&&decide ((xs.length:Int)=n)
def lr(s:Sx):Bool:=cN s.vars 4&&cN s.cells 8
theorem tZ{x:Int}:gx x=true↔ -1000000≤x∧x≤1000000:=by simp[gx]
def bU(lo hi x:Int):Bool:=decide (lo≤x)&&decide (x≤hi)

variable{x:Int}
theorem fh{lo hi:Int}:MQ h1 h2 68 [eI x,eI lo,eI hi] [] (Plain (eB (bU lo hi x))):=by
 refine aF ?_ Z
 refine jB 15 h1 h2 Tryz.func68 Z fun O hF=>?_
 refine ac (js Z (bc (aE Z (bz 3 Z Z Z (fun hx=>ba hx Z (ba hx Z (ba hx Z (AN.nil)))) Z Z (ae (aU O Z Z Z Z Z) Z (js Z (jr ?_)))))))
 refine aO Z ?_
 rw[Bool.cond_false_right];rfl
theorem r8{lo hi:Int}:MQ h1 h2 116 [bt xs,eI lo,eI hi] [] (Plain (eB (xs.all (bU lo hi)))):=by
 refine aF ?_ Z
 refine jB 21 h1 h2 Tryz.func116 Z fun O hF=>?_
 have hl:xs.length≤L:=by simpa[As.fact,A.fact,M.fact,D.fact,Ds.fact]using hF.1.1
 refine ac (js Z (jn (aj (ac (js Z (cW Z (js Z (jn (au (aK (X:=Nat) (fun i=>⟨[(1,eI lo),(2,eI hi),(9,bt xs),(10,eI xs.length),(11,eI i)],[]⟩) (fun i=>i≤xs.length∧∀j (h:j<xs.length),j<i→bU lo hi xs[j]=true) (fun i=>xs.length-i) 0 (Ent.env ⟨Z,Z,Z,Z,Z,aD⟩) ?_ (fun i hi=>?_)))))))))))
 exact⟨fK _,fun j h hj=>absurd hj (Nat.not_lt_zero j)⟩
 refine ac (js Z (jn (aj (ab Z (fun z12=>?_) (fun z12=>?_)))))
 try simp only[bJ]at z12
 refine al (aj (au (ac (rI Z Z (aa Z (bc (bi Z (aS Z (fh h1 h2) 19000 Z (js Z (jn (ab Z (fun z19=>?_) (fun z19=>?_))))))))))))
 try simp only[bJ]at z19
 refine ac (js Z (jr ?_))
 refine aO Z ?_
 rw[Int.toNat_natCast,aH (by omega)]at z19
 rw[qg i (by omega) z19]
 try simp only[bJ]at z19
 refine al (ag (ji Z (js Z (jn ?_))))
 refine⟨i+1,Ent.env ⟨Z,Z,Z,Z,Z,aD⟩,⟨by omega,fun j h hj=>?_⟩,by omega⟩
 by_cases e:j=i
 subst e;rw[Int.toNat_natCast,aH h]at z19;exact z19
 exact hi.2 j h (by omega)
 try simp only[bJ]at z12
 refine bL (ac (js Z (jr ?_)))
 refine aO Z ?_
 rw[rA (fun j hj=>hi.2 j hj (by omega))]
theorem r6:MQ h1 h2 105 [eI x] [] (Plain (eB (gx x))):=by
 refine aF ?_ Z
 refine jB 5 h1 h2 Tryz.func105 Z fun O hF=>?_
 refine ac (js Z (bc (js Z (aS Z (fh h1 h2) 5000 Z (js Z (jr ?_))))))
 refine aO Z ?_
 first|rfl|skip
theorem r5:MQ h1 h2 106 [eI x] [] (Plain (eB (bU 0 3 x))):=by
 refine aF ?_ Z
 refine jB 5 h1 h2 Tryz.func106 Z fun O hF=>?_
 refine ac (js Z (bc (js Z (aS Z (fh h1 h2) 5000 Z (js Z (jr ?_))))))
 refine aO Z ?_
 first|rfl|skip
theorem uG:MQ h1 h2 108 [eI x] [] (Plain (eB (bU 0 3 x))):=by
 refine aF ?_ Z
 refine jB 5 h1 h2 Tryz.func108 Z fun O hF=>?_
 refine ac (js Z (bc (js Z (aS Z (fh h1 h2) 5000 Z (js Z (jr ?_))))))
 refine aO Z ?_
 first|rfl|skip
theorem pq:MQ h1 h2 118 [eI x] [] (Plain (eB (ic x))):=by
 refine aF ?_ Z
 refine jB 5 h1 h2 Tryz.func118 Z fun O hF=>?_
 refine ac (js Z (bc (js Z (aS Z (fh h1 h2) 5000 Z (js Z (jr ?_))))))
 refine aO Z ?_
 first|rfl|skip
inductive Tr where
  | node (s:Sm) (at_:Int) (kids:List Tr)
mutual
def Tr.d:Tr→D
  | .node s a ks=>.ptr [.int .i64 s.kind,.int .i64 s.var,.int .i64 s.event,.int .i64 s.sum.c,fP s.sum.xs,.int .i64 s.index.c,fP s.index.xs,tms s.facts,.int .i64 a,.slc 1 (Trs.d ks)] 0
def Trs.d:List Tr→List (List D)
  | []=>[]
  | t::r=>[t.d]::Trs.d r
end
theorem uI{s:Sx}:MQ h1 h2 83 [em s] [] (Plain (eB (lr s))):=by
 refine aF ?_ Z
 refine jB 23 h1 h2 Tryz.func83 Z fun O hF=>?_
 refine ac (jx Z (js Z (bc (aa Z (cW Z (aa Z (jf [7,2,1,0] Z (bz 4 Z Z Z (fun hx=>ba hx Z (ba hx Z (dz hx (bF O Z Z Z Z Z Z Z Z) Z (ba hx Z (AN.nil))))) Z Z (ae (aU O Z Z Z Z Z) Z (js Z (jf [13,2,1,0] Z (bz 3 Z Z Z (fun hx=>ba hx Z (ba hx Z (fY O hx Z Z Z Z (r8 h1 h2) (ak Z) Z Z Z Z Z Z Z (B0:=17000) Z (AN.nil)))) Z Z (ae (aU O Z Z Z Z Z) Z (js Z (jf [18,2,1,0] Z (bz 3 Z Z Z (fun hx=>ba hx Z (ba hx Z (fY O hx Z Z Z Z (r8 h1 h2) (ak Z) Z Z Z Z Z Z Z (B0:=22000) Z (AN.nil)))) Z Z (ae (aU O Z Z Z Z Z) Z (js Z (jf [2,0] Z (jr ?_))))))))))))))))))))
 refine aO Z ?_
 exact congrArg eB (show(bif bif bif decide ((s.vars.length:Int)=4)then decide ((s.cells.length:Int)=8)else false then s.vars.all ic else false then s.cells.all ic else false)=lr s by unfold lr cN;cases s.vars.all ic<;>cases s.cells.all ic<;>simp)
theorem sa{v c:List Int}:MQ h1 h2 84 [.agg [.d (fP v),.d (fP c)]] [] (Rows (.agg [.rs 0 0 v.length,.rs 1 0 c.length]) [am v,am c]):=by
 refine c8 (jB 10 h1 h2 Tryz.func84 Z fun O hF=>?_)
 refine ac (jx Z (jl Z (jn (aj (hZ [_,_,_,_,_,_,_,_] [aZ,av [0],pe [0,1] 0,pn [] 0 1,pn [3] 0 1,pe (rg 0 5) 1,pn (rg 0 6) 2 2,pe (rg 0 7) 2] [2,5,7] [_,_,_,_] (kc Z (kc Z (ai (f7 O (B0:=6000) Z Z Z Z (r7 h1 h2) (ak Z) Z Z Z Z Z) (ai (kc Z (V Z)) (ai (kc Z (V Z)) (ai (f7 O (B0:=9000) Z Z Z Z (r7 h1 h2) (ak Z) Z Z Z Z Z) (kc Z (ai (eS Z Z Z) trivial)))))))) ?_)))))
 refine pm ?_
 refine⟨.inl Z,_,aW,_,Z,[6000,9000],by decide,Z,Z,Z⟩
structure RS where
  vars:List Int
  cells:List Int
  events:List Int
  fuel:Int
  steps:Int
  out:Int
structure Nd where
  kind:Int
  fact:Int
  term:Tm
  mul:List Int
  deriving Inhabited,DecidableEq
structure Sq where
  facts:List Tm
  goal:Tm
  deriving Inhabited,DecidableEq
def rN(xs:List Int):List Int:=(xs.reverse.dropWhile (· == 0)).reverse
def uN(c:Int)(xs:List Int):Tm×Bool:=if(Tm.mk c (rN xs)).ok=true then(⟨c,rN xs⟩,true)else(⟨0,[]⟩,false)
def uu(a:Tm)(m:Int)(b:Tm)(n:Int):List Int:=(List.range 10).map fun i=>m*a.xs.getD i 0+n*b.xs.getD i 0
def ut(a:Tm)(m:Int)(b:Tm)(n:Int):Tm×Bool:=uN (m*a.c+n*b.c) (uu a m b n)
def rR(t:Tm):Tm×Bool:=ut t (-1) ⟨1,[]⟩ (-1)
structure Small(t:Tm):Prop where
  c:gx t.c=true
  xs:t.xs.all gx=true
def dl(k:Int):Int:=if k=1 then -1 else if k=2 then 1 else 0
def rW:List Nd→Int→Option Nat
  | [],need=>if need≤0 then some 0 else none
  | s::r,need=>if need≤0 then some 0 else(rW r (need+dl s.kind)).map (· + 1)
def uF(p:List Nd)(k:Nat):Int:=match rW (p.drop k) 1 with
  | some n=>k+n
  | none=> -1
def rG(p:List Nd)(k:Nat):Nat→Int×Bool
  | 0=>(-1,false)
  | i+1=>if(p.getD i default).kind=1∨uF p i≤k then rG p k i else(i,decide (i+1=k))
def nD(xs:List Int):Nat:=xs.foldl (fun g x=>Nat.gcd g x.natAbs) 0
def mx(a b:Int):Int:=if a>b then a else b
def nX(t:Tm):Tm×Bool:=if nD t.xs<2 then(⟨0,[]⟩,false)else
  uN (if t.c.tmod (nD t.xs)<0 then t.c.tdiv (nD t.xs)-1 else t.c.tdiv (nD t.xs)) (t.xs.map fun x=>x.tdiv (nD t.xs))
def ry(n:Nd)(ctx:List Tm)(first:Bool):List Tm:=if n.kind=3 then ctx++[(nX (ctx.getD n.fact.toNat default)).1]else if first=true then ctx++[n.term]else ctx++[(rR n.term).1]
def pp(f:Tm→Int):List Tm→List Int→Int
  | t::ts,m::ms=>m*f t+pp f ts ms
  | _,_=>0
abbrev rY(k:Nat):Tm→Int:=fun t=>t.xs.getD k 0
def sZ(ts:List Tm)(ms:List Int):List Int:=(List.range 10).map fun k=>pp (rY k) ts ms
def qa(ctx:List Tm)(ms:List Int):Bool:=decide (ctx.length=ms.length)&&((sZ ctx ms).all (fun x=>decide (x=0))&&decide (pp Tm.c ctx ms<0))
def n7(n:Nd)(ctx:List Tm):Bool:=if n.kind=1 then qa ctx n.mul else if 20≤ctx.length then false else if n.kind=2 then(rR n.term).2 else if n.fact≥ctx.length then false else(nX (ctx.getD n.fact.toNat default)).2

def rQ(ts:List Tm)(ms:List Int)(i j:Nat):List Int:=(List.range 10).map fun k=>pp (rY k) (ts.take i) (ms.take i)+(if k<j then ms.getD i default*(ts.getD i default).xs.getD k 0 else 0)
structure CtxOk(ctx:List Tm):Prop where
  ok: ∀t∈ctx,t.ok=true
  len:ctx.length≤1000
structure CS where
  all:List (List Tm)
  has:List Bool
  right:List Bool
  flaw:Int
structure CSok(p:List Nd)(k:Nat)(z:CS):Prop where
  all:z.all.length=k
  has:z.has.length=k
  right:z.right.length=k
  flaw: -1≤z.flaw∧z.flaw<k
  ctx: ∀j,j<k→z.has.getD j default=true→CtxOk (z.all.getD j default)
  good: ∀j,j<k→z.right.getD j default=true→z.has.getD j default=true∧n7 (p.getD j default) (z.all.getD j default)=true
structure Con where
  all:List (List Tm)
  has:List Bool
  flaw:Int
  ok:Bool
theorem g2{a b:Bool}:(bif !a then true else !b)= !(a&&b):=by cases a<;>cases b<;>rfl
theorem qL{n:Int}:MQ h1 h2 38 [eI n] [] (Plain (eI n)):=by
 refine aF ?_ Z
 refine jB 4 h1 h2 Tryz.func38 Z fun O hF=>?_
 refine ac (js Z (bc (aa Z (jr ?_))))
 refine aO Z ?_
 first|rfl|skip
theorem rE{k:Int}{n:Nat}(hn:n≤1073741824):MQ h1 h2 43 [eI k,eI n] [] (Plain (eB (bU 0 ((n:Int)-1) k))):=by
 refine aF ?_ Z
 refine jB 10 h1 h2 Tryz.func43 Z fun O hF=>?_
 refine ac (js Z (bc (aa Z (aS Z (qL (n:=n) h1 h2) 8000 Z ?_))))
 first|refine ji Z ?_|refine bP Z Z ?_
 refine aS Z (fh h1 h2) 10000 Z (js Z (jr ?_))
 refine aO Z ?_
 first|rfl|skip
inductive Pf where
  | close (n:Nd)
  | tight (n:Nd) (a:Pf)
  | split (n:Nd) (a b:Pf)
structure Ex where
  es:List (Int×List Tm)
  flaw:Int
def fl(b:Nat→Bool):Nat→Nat→Int→Int
  | _,0,f=>f
  | k,n+1,f=>fl b (k+1) n (if b k=true∧f<0 then(k:Int)else f)
structure Eqs(p:List Nd)(c0:List Tm)(H:Nat→Bool)(A:Nat→List Tm)(R:Nat→Bool):Prop where
  h0:0<p.length→H 0=true∧A 0=c0
  h: ∀j,0<j→j<p.length→H j=R (rG p j j).1.toNat
  a: ∀j,0<j→j<p.length→H j=true→A j=ry (p.getD (rG p j j).1.toNat default) (A (rG p j j).1.toNat) (rG p j j).2
  r: ∀j,j<p.length→R j=(H j&&n7 (p.getD j default) (A j))
end Go.Al
/- What the laws of the certificates share: the types of their arguments; what came in reads as it did. -/
namespace Go.Proofs.YtdjlfclghdofoaaGreatDoor
open Go.ChangeShapes Go.WideShapes Go.ChangeAt Go.RowKit Go.Al

theorem ownK:ownKnob Tryz.prog.godebug=none:=by kernel_rfl
theorem kidsK:Kids Tryz.prog (· < Tryz.prog.types.size):=kids_rows (by kernel_rfl) (by kernel_rfl)
theorem fullK: ∀t e,t<Tryz.prog.types.size→Tryz.prog.underlying t=some (.slice e)→0<Tryz.prog.cellsOf e:=slices_full_of Tryz.prog (by kernel_rfl)

theorem fits_all{α:Type}{es:List Ty}{g:α→List D}(hg: ∀e,FitsL es e→∃a,e=g a): ∀{xs:List (List D)},FitsA es xs→∃ys:List α,xs=ys.map g
 | _,.nil=>⟨[],rfl⟩
 | _,.cons h1 h2=>by
  obtain⟨a,rfl⟩:=hg _ h1
  obtain⟨ys,rfl⟩:=fits_all hg h2
  exact⟨a::ys,Z⟩
theorem fits_one{t:Ty}{e:List D}(h:FitsL [t] e): ∃d,e=[d]∧Fits t d:=by
 cases h with
 | cons a h=>cases h;exact⟨_,rfl,a⟩
theorem rdl_rms{L:Nat}{w:World}{ok:Nat→Prop}{m:Nat→Go.Al.Loc}: ∀{ds:List D} {vs:List Value} {F:List Nat},RDL L w ok ds vs F→F=[]→RMs L w ok m (ds.map .d) vs
 | _,_,_,.nil,_=>.nil
 | _,_,_,.cons (F1:=F1) (F2:=F2) h1 h2,hF=>by
  obtain⟨rfl,rfl⟩:=List.append_eq_nil_iff.1 hF
  exact .cons (.d h1) (rdl_rms h2 Z)
section
variable{H:Type}{enc:TypeId×Value→H}{P:Program}{w w':World}
theorem pF(hs: ∀b,b<w.heap.size→Same w w' b){p:MemPlace}(hp:p.block<w.heap.size):w.sameAt w' p:=by
 cases p with
 | cell b o=>exact(hs b hp).cell
 | map b=>exact hs b hp
theorem trodAll_same(hs: ∀b,b<w.heap.size→Same w w' b){base:Nat}{sp:Nat→Bool}{held:Bool}: ∀{ts:List TypeId} {vs:List Value} {ds:List (DataW H)} {ps:List MemPlace},(∀p∈ps,p.block<w.heap.size)→DataW.TrodAll enc P w base sp held ts vs ds ps→DataW.TrodAll enc P w' base sp held ts vs ds ps
 | [],[],[],_,_,h=>h
 | _::_,_::_,_::_,_,hl,⟨p,q,⟨n,h1⟩,h2,e⟩=>
  ⟨p,q,⟨n,DataW.trod_carry n _ _ _ h1 (fun x hx=>pF hs (hl x (by rw[e];exact List.mem_append_left _ hx)))⟩,trodAll_same hs (fun x hx=>hl x (by rw[e];exact List.mem_append_right _ hx)) h2,e⟩
theorem lO(hf:Go.Al.Frame w w' [])(may:MemPlace→Prop):w.keptBut w' may:=by
 refine⟨hf.os,hf.output,fun i hi=>?_⟩
 have h:=hf.block i hi (by simp)
 unfold Same at h
 rw[h]
 cases hx:w.heap[i]? with
 | none=>trivial
 | some o=>
  cases o with
  | cells c t fr=>exact⟨Z,Z,Z,fun _ _=>rfl⟩
  | map es clock=>exact .inr ⟨Z,Z⟩
  | _=>rfl
theorem lN(hf:Go.Al.Frame w w' []){a:Addr}(ha:a.block<w.heap.size):w'.frozen? a=w.frozen? a:=by
 have h:=hf.block a.block ha (by simp)
 unfold Same at h
 unfold World.frozen?
 rw[h]
theorem post_of_old{f:Func}{s:ChangeSpec}{apart fresh handsOn again:Bool}{args:Array Value}{v:Value}{ds gs:List (DataW H)}{before pa pv:List MemPlace}
    (hW:DataW.Whole enc P f.params.toList s.vars apart w args.toList ds gs before)
    (hres: ∀(b:Nat) (sp:Nat→Bool) (hd:Bool),DataW.TrodAll enc P w' b sp hd f.resultTypes.toList (v.resultList f.resultTypes.size) (s.fn H (ds++gs)).results [])
    (hargs: ∀sp:Nat→Bool,(∀p∈before,sp p.block=true)→DataW.TrodAll enc P w' 0 sp true f.params.toList args.toList (s.fn H (ds++gs)).args pa)
    (hvars: ∀sp:Nat→Bool,(∀p∈before,sp p.block=true)→DataW.TrodVars enc P w' sp s.vars (s.fn H (ds++gs)).vars pv)
    (hps:before=pa++pv) (hf:Go.Al.Frame w w' [])
    (hok: ∀(j:Nat) (t:TypeId) (r:Value),f.resultTypes[j]? = some t→(v.resultList f.resultTypes.size)[j]? = some r→Value.okWide P w' .any 0 t r) :
    s.post enc P f apart fresh handsOn again w args v w':=by
 have hlt:=hW.lt
 have hold: ∀p∈before,(fun b=>decide (b<w.heap.size)) p.block=true:=fun p hp=>by simpa using hlt p hp
 refine⟨ds,gs,before,[],pa,pv,hW,hres _ _ _,hargs _ hold,hvars _ hold,World.keptBut_mono (fun p hp=>⟨hp,?_⟩) (lO hf (· ∈before)),fun _=>?_⟩
 rw[hps,List.mem_append]at hp
 exact Or.inr hp
 obtain⟨_,_,_,_,_,hz,hn⟩:=hW
 refine⟨hok,_,_,([]++pa)++pv,⟨[]++pa,pv,trodAll_append (hargs _ (fun _ _=>rfl)) (hres _ _ _),hvars _ (fun _ _=>rfl),Z,?_,?_⟩,?_⟩
 intro b off hp
 have hp':MemPlace.cell b off∈before:=by rw[hps];simpa using hp
 rw[lN hf (hlt _ hp')]
 exact hz b off hp'
 intro ha
 have:=hn ha
 rw[hps]at this
 simpa using this
 intro p hp _
 rw[hps]
 simpa using hp
end

end Go.Proofs.YtdjlfclghdofoaaGreatDoor
namespace Go.Al
variable{L:Nat}(h1:4096≤L)(h2:L≤1073741824)
structure NdAt(n:Nat)(x:Nd):Prop where
  close:x.kind=1→n+1≤x.mul.length∧x.mul.length≤20
  fact:x.kind=3→0≤x.fact∧x.fact≤19
  kind:x.kind=1∨x.kind=2∨x.kind=3
structure MvOk(cnt to:Int→Int)(x:Nd):Prop where
  kind:x.kind=1∨x.kind=2∨x.kind=3
  fact:x.kind=3→0≤x.fact∧x.fact≤19
  len:x.kind=1→x.mul.length≤20
  cntb:x.kind=1→0≤cnt x.mul.length∧cnt x.mul.length≤1000
  rng:x.kind=1→∀i:Nat,i<x.mul.length→to i<cnt x.mul.length
end Go.Al
