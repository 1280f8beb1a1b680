/- Contracts of the functions that copy, compare, mark and measure; the reference's functions for vk. -/
import Derived.Test.YtjjheilajcepfaaGreatDoorProg
import Derived.Test.YtjjheilajcepfaaGreatDoorC
set_option linter.unusedVariables false
set_option linter.unusedSimpArgs false
set_option maxRecDepth 10000
open Go.Proofs
/- The table of the types that the functions of this seat use, and its proof. -/
namespace Go.Al
variable{L:Nat}(h1:4096≤L)(h2:L≤1073741824)
def tt:List (Nat×TI):=[
  (2,⟨4,false,0,1,8,[.int .i64 0],[]⟩),
  (3,⟨4,false,0,1,8,[.int .i64 0],[]⟩),
  (4,⟨5,false,0,1,1,[.bool false],[]⟩),
  (5,⟨4,false,0,1,1,[.int .u8 0],[]⟩),
  (9,⟨2,false,0,1,16,[.str ByteArray.empty],[]⟩),
  (21,⟨4,false,0,1,4,[.int .i32 0],[]⟩),
  (22,⟨1,false,5,1,24,[.nils],[]⟩),
  (24,⟨1,false,27,1,24,[.nils],[]⟩),
  (25,⟨1,false,2,1,24,[.nils],[]⟩),
  (27,⟨3,true,0,2,32,[.int .i64 0,.nils],[(0,1),(1,1)]⟩),
  (29,⟨3,true,0,3,56,[.nils,.int .i64 0,.nils],[(0,1),(1,2)]⟩),
  (30,⟨1,false,69,1,24,[.nils],[]⟩),
  (45,⟨1,false,101,1,24,[.nils],[]⟩),
  (47,⟨3,true,0,3,72,[.nils,.nils,.nils],[(0,1),(1,1),(2,1)]⟩),
  (55,⟨1,false,9,1,24,[.nils],[]⟩),
  (69,⟨3,true,0,5,72,[.int .i64 0,.int .i64 0,.int .i64 0,.nils,.nils],[(0,1),(1,1),(2,2),(4,1)]⟩),
  (77,⟨8,false,0,1,8,[.nilm],[]⟩),
  (79,⟨3,true,0,3,40,[.nils,.nilm,.int .i64 0],[(0,1),(1,1),(2,1)]⟩),
  (82,⟨1,false,3,1,24,[.nils],[]⟩),
  (83,⟨1,false,82,1,24,[.nils],[]⟩),
  (95,⟨1,false,105,1,24,[.nils],[]⟩),
  (97,⟨3,true,0,3,72,[.nils,.nils,.nils],[(0,1),(1,1),(2,1)]⟩),
  (98,⟨6,false,0,1,8,[.nilp],[]⟩),
  (101,⟨3,true,0,8,112,[.int .i64 0,.int .i64 0,.int .i64 0,.int .i64 0,.nils,.int .i64 0,.nils,.nils],[(0,1),(1,1),(2,1),(3,2),(5,2),(7,1)]⟩),
  (102,⟨1,false,98,1,24,[.nils],[]⟩),
  (104,⟨3,true,0,11,168,[.int .i64 0,.int .i64 0,.int .i64 0,.int .i64 0,.nils,.int .i64 0,.nils,.nils,.nils,.nils,.bool false],[(0,8),(8,1),(9,1),(10,1)]⟩),
  (105,⟨6,false,0,1,8,[.nilp],[]⟩),
  (122,⟨4,false,0,1,8,[.int .u64 0],[]⟩),
  (124,⟨3,true,0,3,40,[.nils,.int .i64 0,.int .u64 0],[(0,1),(1,1),(2,1)]⟩),
  (150,⟨3,true,0,10,144,[.int .i64 0,.int .i64 0,.int .i64 0,.int .i64 0,.nils,.int .i64 0,.nils,.nils,.int .i64 0,.nils],[(0,8),(8,1),(9,1)]⟩),
  (159,⟨3,true,0,4,56,[.nils,.nils,.bool false,.bool false],[(0,1),(1,1),(2,1),(3,1)]⟩),
  (162,⟨1,false,45,1,24,[.nils],[]⟩),
  (175,⟨6,false,0,1,8,[.nilp],[]⟩),
  (177,⟨3,true,0,2,32,[.nilp,.nils],[(0,1),(1,1)]⟩),
  (203,⟨4,false,0,1,8,[.int .u64 0],[]⟩),
  (205,⟨6,false,0,1,8,[.nilp],[]⟩),
  (234,⟨4,false,0,1,4,[.int .u32 0],[]⟩),
  (239,⟨3,true,0,2,2,[.int .u8 0,.int .u8 0],[(0,1),(1,1)]⟩),
  (251,⟨3,true,0,1,16,[.str ByteArray.empty],[(0,1)]⟩)
]
theorem tt2:TIok Tryz.prog 2 ⟨4,false,0,1,8,[.int .i64 0],[]⟩:=(by constructor<;>kernel_rfl)
theorem tt3:TIok Tryz.prog 3 ⟨4,false,0,1,8,[.int .i64 0],[]⟩:=(by constructor<;>kernel_rfl)
theorem tt4:TIok Tryz.prog 4 ⟨5,false,0,1,1,[.bool false],[]⟩:=(by constructor<;>kernel_rfl)
theorem tt5:TIok Tryz.prog 5 ⟨4,false,0,1,1,[.int .u8 0],[]⟩:=(by constructor<;>kernel_rfl)
theorem tt9:TIok Tryz.prog 9 ⟨2,false,0,1,16,[.str ByteArray.empty],[]⟩:=(by constructor<;>kernel_rfl)
theorem wC:TIok Tryz.prog 21 ⟨4,false,0,1,4,[.int .i32 0],[]⟩:=(by constructor<;>kernel_rfl)
theorem wB:TIok Tryz.prog 22 ⟨1,false,5,1,24,[.nils],[]⟩:=(by constructor<;>kernel_rfl)
theorem wA:TIok Tryz.prog 24 ⟨1,false,27,1,24,[.nils],[]⟩:=(by constructor<;>kernel_rfl)
theorem wz:TIok Tryz.prog 25 ⟨1,false,2,1,24,[.nils],[]⟩:=(by constructor<;>kernel_rfl)
theorem wy:TIok Tryz.prog 27 ⟨3,true,0,2,32,[.int .i64 0,.nils],[(0,1),(1,1)]⟩:=(by constructor<;>kernel_rfl)
theorem wx:TIok Tryz.prog 29 ⟨3,true,0,3,56,[.nils,.int .i64 0,.nils],[(0,1),(1,2)]⟩:=(by constructor<;>kernel_rfl)
theorem ww:TIok Tryz.prog 30 ⟨1,false,69,1,24,[.nils],[]⟩:=(by constructor<;>kernel_rfl)
theorem wv:TIok Tryz.prog 45 ⟨1,false,101,1,24,[.nils],[]⟩:=(by constructor<;>kernel_rfl)
theorem wu:TIok Tryz.prog 47 ⟨3,true,0,3,72,[.nils,.nils,.nils],[(0,1),(1,1),(2,1)]⟩:=(by constructor<;>kernel_rfl)
theorem wt:TIok Tryz.prog 55 ⟨1,false,9,1,24,[.nils],[]⟩:=(by constructor<;>kernel_rfl)
theorem wr:TIok Tryz.prog 69 ⟨3,true,0,5,72,[.int .i64 0,.int .i64 0,.int .i64 0,.nils,.nils],[(0,1),(1,1),(2,2),(4,1)]⟩:=(by constructor<;>kernel_rfl)
theorem wq:TIok Tryz.prog 77 ⟨8,false,0,1,8,[.nilm],[]⟩:=(by constructor<;>kernel_rfl)
theorem wo:TIok Tryz.prog 79 ⟨3,true,0,3,40,[.nils,.nilm,.int .i64 0],[(0,1),(1,1),(2,1)]⟩:=(by constructor<;>kernel_rfl)
theorem wn:TIok Tryz.prog 82 ⟨1,false,3,1,24,[.nils],[]⟩:=(by constructor<;>kernel_rfl)
theorem wm:TIok Tryz.prog 83 ⟨1,false,82,1,24,[.nils],[]⟩:=(by constructor<;>kernel_rfl)
theorem wl:TIok Tryz.prog 95 ⟨1,false,105,1,24,[.nils],[]⟩:=(by constructor<;>kernel_rfl)
theorem wk:TIok Tryz.prog 97 ⟨3,true,0,3,72,[.nils,.nils,.nils],[(0,1),(1,1),(2,1)]⟩:=(by constructor<;>kernel_rfl)
theorem wj:TIok Tryz.prog 98 ⟨6,false,0,1,8,[.nilp],[]⟩:=(by constructor<;>kernel_rfl)
theorem vj:TIok Tryz.prog 101 ⟨3,true,0,8,112,[.int .i64 0,.int .i64 0,.int .i64 0,.int .i64 0,.nils,.int .i64 0,.nils,.nils],[(0,1),(1,1),(2,1),(3,2),(5,2),(7,1)]⟩:=(by constructor<;>kernel_rfl)
theorem vi:TIok Tryz.prog 102 ⟨1,false,98,1,24,[.nils],[]⟩:=(by constructor<;>kernel_rfl)
theorem vg:TIok Tryz.prog 104 ⟨3,true,0,11,168,[.int .i64 0,.int .i64 0,.int .i64 0,.int .i64 0,.nils,.int .i64 0,.nils,.nils,.nils,.nils,.bool false],[(0,8),(8,1),(9,1),(10,1)]⟩:=(by constructor<;>kernel_rfl)
theorem vf:TIok Tryz.prog 105 ⟨6,false,0,1,8,[.nilp],[]⟩:=(by constructor<;>kernel_rfl)
theorem ve:TIok Tryz.prog 122 ⟨4,false,0,1,8,[.int .u64 0],[]⟩:=(by constructor<;>kernel_rfl)
theorem vd:TIok Tryz.prog 124 ⟨3,true,0,3,40,[.nils,.int .i64 0,.int .u64 0],[(0,1),(1,1),(2,1)]⟩:=(by constructor<;>kernel_rfl)
theorem vc:TIok Tryz.prog 150 ⟨3,true,0,10,144,[.int .i64 0,.int .i64 0,.int .i64 0,.int .i64 0,.nils,.int .i64 0,.nils,.nils,.int .i64 0,.nils],[(0,8),(8,1),(9,1)]⟩:=(by constructor<;>kernel_rfl)
theorem va:TIok Tryz.prog 159 ⟨3,true,0,4,56,[.nils,.nils,.bool false,.bool false],[(0,1),(1,1),(2,1),(3,1)]⟩:=(by constructor<;>kernel_rfl)
theorem u9:TIok Tryz.prog 162 ⟨1,false,45,1,24,[.nils],[]⟩:=(by constructor<;>kernel_rfl)
theorem u7:TIok Tryz.prog 175 ⟨6,false,0,1,8,[.nilp],[]⟩:=(by constructor<;>kernel_rfl)
theorem u6:TIok Tryz.prog 177 ⟨3,true,0,2,32,[.nilp,.nils],[(0,1),(1,1)]⟩:=(by constructor<;>kernel_rfl)
theorem u5:TIok Tryz.prog 203 ⟨4,false,0,1,8,[.int .u64 0],[]⟩:=(by constructor<;>kernel_rfl)
theorem u4:TIok Tryz.prog 205 ⟨6,false,0,1,8,[.nilp],[]⟩:=(by constructor<;>kernel_rfl)
theorem uZ:TIok Tryz.prog 234 ⟨4,false,0,1,4,[.int .u32 0],[]⟩:=(by constructor<;>kernel_rfl)
theorem uY:TIok Tryz.prog 239 ⟨3,true,0,2,2,[.int .u8 0,.int .u8 0],[(0,1),(1,1)]⟩:=(by constructor<;>kernel_rfl)
theorem uX:TIok Tryz.prog 251 ⟨3,true,0,1,16,[.str ByteArray.empty],[(0,1)]⟩:=(by constructor<;>kernel_rfl)
theorem uW:TTok Tryz.prog tt:=⟨tt2,tt3,tt4,tt5,tt9,wC,wB,wA,wz,wy,wx,ww,wv,wu,wt,wr,wq,wo,wn,wm,wl,wk,wj,vj,vi,vg,vf,ve,vd,vc,va,u9,u7,u6,u5,u4,uZ,uY,uX,aq⟩
theorem qF:TTplain tt=true:=by kernel_rfl
theorem tD:Tryz.prog.follows .mixedOrders=true:=by kernel_rfl
theorem af{σ:Sg}{Q:Exit→St→Prop}{s:St}{id:Nat}{l:List Oper}{y:Code}(h:AOps σ l.toArray (iJ (AWP σ y Q) Q) l s):AWP σ (.seq (.region id l.toArray false) y) Q s:=AWP.seq (AWP.region h)
theorem jn{σ:Sg}{Q:Exit→St→Prop}{s:St}{all:Array Oper}(h:Q .normal s):AOps σ all Q [] s:=AOps.nil h
theorem aZ{σ:Sg}{Q:Exit→St→Prop}{s:St}{all:Array Oper}{id:Nat}{l:List Oper}{y:Code}(h:AOps σ l.toArray (iJ (AWP σ y Q) Q) l s):AOps σ all (iJ (AWP σ (.seq (.region id l.toArray false) y) Q) Q) [] s:=AOps.nil (AWP.seq (AWP.region h))
theorem bL:(∀{α β:Type} {f:α→β} {l:List α},(l.map f).length=l.length)∧(∀{α:Type} [BEq α] [LawfulBEq α] {a b:α},(a==b)=true↔a=b)∧(∀{p:Prop} [Decidable p],(decide p=true)=p)∧(∀{p:Prop} [Decidable p],(decide p=false)↔¬p)∧(∀{b:Bool},((!b)=true)=(b=false))∧(∀{b:Bool},((!b)=false)=(b=true))∧((!true)=false)∧((!false)=true)∧(∀{a b:Int},¬a<b↔b≤a)∧(∀{a b:Int},¬a≤b↔b<a):=by
 refine⟨?_,?_,?_,?_,?_,?_,?_,?_,?_,?_⟩<;>intros<;>simp
theorem au{σ:Sg}{Q:bl}{all:Array Oper}{l:List Oper}{e:List (Nat×A)}{H H':List (Nat×B)}(K:AOps σ all Q l ⟨e,H'⟩)(h:HN H H':=by repeat' (first|apply HN.cons rfl|exact HN.nil rfl|exact BN.row rfl|exact BN.map rfl|apply BN.box rfl|apply MN.cons rfl|exact MN.nil rfl|exact XN.d rfl|exact XN.rs rfl|exact lH)):AOps σ all Q l ⟨e,H⟩:=pM h K
theorem ie{σ:Sg}{Q:Exit→St→Prop}{c:Code}{e:List (Nat×A)}{H H':List (Nat×B)}(K:AWP σ c Q ⟨e,H'⟩)(h:HN H H':=by repeat' (first|apply HN.cons rfl|exact HN.nil rfl|exact BN.row rfl|exact BN.map rfl|apply BN.box rfl|apply MN.cons rfl|exact MN.nil rfl|exact XN.d rfl|exact XN.rs rfl|exact lH)):AWP σ c Q ⟨e,H⟩:=rz h K
def uz(e:List (Nat×A)):List Nat→Option (List (Nat×A))
  | []=>some []
  | k :: ks=>match lk e k,uz e ks with
    | some v,some r=>some ((k,v)::r)
    | _,_=>none
theorem lz{e:List (Nat×A)}: ∀{ks:List Nat} {e':List (Nat×A)},uz e ks=some e'→envSub e e'
 | [],e',h=>by cases h;trivial
 | k::ks,e',h=>by
  unfold uz at h
  split at h
  rename_i v r h1 h2
  cases h
  exact⟨h1,lz h2⟩
  cases h
theorem jf{σ:Sg}{Q:Exit→St→Prop}{all:Array Oper}{l:List Oper}{e e':List (Nat×A)}{H:List (Nat×B)}(ks:List Nat)(h:uz e ks=some e')(K:AOps σ all Q l ⟨e',H⟩):AOps σ all Q l ⟨e,H⟩:=mQ e' (lz h) K
theorem jw{σ:Sg}{Q:Exit→St→Prop}{c:Code}{e e':List (Nat×A)}{H:List (Nat×B)}(ks:List Nat)(h:uz e ks=some e')(K:AWP σ c Q ⟨e',H⟩):AWP σ c Q ⟨e,H⟩:=nN e' (lz h) K


noncomputable abbrev SG(L nt:Nat):Sg:=⟨Tryz.prog,tt,L,nt,[]⟩
theorem rO{L nt}(h1:4096≤L)(h2:L≤9223372036854775807):SgOk (SG L nt):=⟨uW,qF,h1,h2,tD⟩
theorem jB{L f:Nat}{fn:Func}{c:Code}{args:List A}{Q:A→List (Nat×B)→Prop}(nt:Nat)(h1:4096≤L)(h2:L≤1073741824)(hf:Tryz.prog.funcs[f]? = some fn)(hz:(fn.body,fn.ntmps,Nat.ble args.length nt)=(some c,nt,true))(h:SgOk (SG L nt)→As.fact L args→AWP (SG L nt) c (fun e s=>(e= .ret∨e= .normal)∧∃s2,Ent (SG L nt) s s2∧∃res,cL tt s2 fn.results.toList=some res∧Q res s2.H) ⟨cp 0 args,[]⟩)(hn:(fn.name== "runtime.NumGoroutine")=false:=by kernel_rfl):MC Tryz.prog L f args [] Q:=have hσ:=rO (nt:=nt) h1 (Nat.le_trans h2 (by decide));have hz:=Prod.mk.inj hz;have hy:=Prod.mk.inj hz.2;MC.body hσ hf hn hz.1 hy.1 (Nat.le_of_ble_eq_true hy.2) (h hσ)
theorem jH{L f:Nat}{fn:Func}{c:Code}{args:List A}{Hin:List (Nat×B)}{Q:A→List (Nat×B)→Prop}(nt:Nat)(ks:List Nat)(h1:4096≤L)(h2:L≤1073741824)(hf:Tryz.prog.funcs[f]? = some fn)(hz:(fn.body,fn.ntmps,ks,Nat.ble args.length nt)=(some c,nt,Hin.map (·.1),true))(h:SgOk ⟨Tryz.prog,tt,L,nt,ks⟩→As.fact L args→AWP ⟨Tryz.prog,tt,L,nt,ks⟩ c (fun e s=>(e= .ret∨e= .normal)∧∃s2,Ent ⟨Tryz.prog,tt,L,nt,ks⟩ s s2∧∃res,cL tt s2 fn.results.toList=some res∧Q res s2.H) ⟨cp 0 args,Hin⟩)(hn:(fn.name== "runtime.NumGoroutine")=false:=by kernel_rfl):MC Tryz.prog L f args Hin Q:=have hσ:=lS (js:=ks) (rO (nt:=nt) h1 (Nat.le_trans h2 (by decide)));have hz:=Prod.mk.inj hz;have hy:=Prod.mk.inj hz.2;have hx:=Prod.mk.inj hy.2;rx hσ hf hn hz.1 hy.1 hx.1 (Nat.le_of_ble_eq_true hx.2) (h hσ)
abbrev MQ{L:Nat}(h1:4096≤L)(h2:L≤1073741824)(f:Nat)(ds:List A)(Hin:List (Nat×B))(Q:A→List (Nat×B)→Prop):Prop:=MC Tryz.prog L f ds Hin Q
abbrev eI(n:Int):A:=.c (.d (.int .i64 n))
abbrev eB(b:Bool):A:=.c (.d (.bool b))
abbrev dV(xs:List Int):D:=.slc 1 (xs.map fun n=>[.int .i64 n])
structure Tm where
  c:Int
  xs:List Int
  deriving Inhabited
abbrev Tm.cells(t:Tm):List D:=[.int .i64 t.c,dV t.xs]
abbrev ptr(cs:List D):A:=.c (.d (.ptr cs 0))
def dT(x:Int):Bool:=decide (-1000000≤x)&&decide (x≤1000000)
def Tm.ok(t:Tm):Bool:=!(bif (bif !dT t.c then true else decide ((10:Int)<t.xs.length))then true else bif decide ((0:Int)<t.xs.length)then decide (t.xs.getD ((t.xs.length:Int)-1).toNat default=0)else false)&&t.xs.all dT
theorem nd{α:Type}{p:α→Bool}{xs:List α}(h: ∀j (hj:j<xs.length),p xs[j]=true):xs.all p=true:=by
 rw[List.all_eq_true];intro x hx
 obtain⟨j,hj,rfl⟩:=List.mem_iff_getElem.1 hx
 exact h j hj
theorem lG{α:Type}{p:α→Bool}{xs:List α}(j:Nat)(hj:j<xs.length)(h:p xs[j]=false):xs.all p=false:=by
 rw[List.all_eq_false];exact⟨xs[j],List.getElem_mem _,by simp[h]⟩
theorem am{α:Type}[Inhabited α]{xs:List α}{j:Nat}(hj:j<xs.length):xs.getD j default=xs[j]:=by simp[hj]

variable{x lo hi:Int}
theorem c84:MQ h1 h2 97 [eI x,eI lo,eI hi] [] (Plain (eB (decide (lo≤x)&&decide (x≤hi)))):=by
 refine aH ?_ Z
 refine jB 15 h1 h2 Tryz.func97 Z fun O hF=>?_
 refine af (js Z (aZ (aT Z (aG 3 Z Z Z (fun hx=>aB hx Z (aB hx Z (aB hx Z (AN.nil)))) Z Z (aj (aw O Z Z Z Z Z) Z (js Z (jr ?_)))))))
 refine aC Z ?_
 rw[Bool.cond_false_right]
theorem uP:MQ h1 h2 168 [eI x] [] (Plain (eB (dT x))):=by
 refine aH ?_ Z
 refine jB 5 h1 h2 Tryz.func168 Z fun O hF=>?_
 refine af (js Z (aZ (js Z (bE Z (c84 h1 h2) 5000 Z (js Z (jr ?_))))))
 refine aC Z ?_
 first|rfl|skip
variable{t:Tm}
theorem w9:MQ h1 h2 130 [ptr t.cells] [] (Plain (eB t.ok)):=by
 refine aH ?_ Z
 refine jB 49 h1 h2 Tryz.func130 Z fun O hF=>?_
 have hl:t.xs.length≤L:=by simpa[As.fact,A.fact,M.fact,D.fact,Ds.fact]using hF.1.2.1.1
 refine af (js Z (aZ (aT Z (eh Z (js Z (jn (ah (af (aT Z (bE Z (uP h1 h2) 15000 Z (ac Z (aG 2 Z Z Z (fun hx=>aB hx Z (aB hx Z (AN.nil))) Z Z (aj (aD O Z Z Z Z Z) Z (js Z (aG 13 Z Z Z (fun hx=>aB hx Z (aB hx Z (aB hx Z (qE 9 Z Z Z Z (fun hx'=>aB hx' Z (aB hx' Z (aB hx' Z (aB hx' Z (aB hx' Z (dU hx' (vF Z) Z (dU hx' (vD Z) Z (aB hx' Z (aB hx' Z (AN.nil)))))))))) Z Z (dU hx (aw O Z Z Z Z Z) Z (AN.nil)))))) Z Z (aj (aD O Z Z Z Z Z) Z (jn (ar Z (fun z34=>?_) (fun z34=>?_)))))))))))))))))))
 try simp only[bL]at z34
 refine af (js Z (jr ?_))
 refine aC Z ?_
 simp only[Tm.ok,z34,Bool.not_true,Bool.false_and]
 try simp only[bL]at z34
 refine al (ah (af (js Z (jn (ak (av (X:=Nat) (fun i=>⟨[(0,ptr t.cells),(3,eI t.xs.length),(4,eI i)],[]⟩) (fun i=>i≤t.xs.length∧∀j (h:j<t.xs.length),j<i→dT t.xs[j]=true) (fun i=>t.xs.length-i) 0 (Ent.env ⟨Z,Z,Z,aq⟩) ?_ (fun i hi=>?_)))))))
 exact⟨fg _,fun j h hj=>absurd hj (Nat.not_lt_zero j)⟩
 refine ah (af (aW Z (jn (ar Z (fun z37=>?_) (fun z37=>?_)))))
 try simp only[bL]at z37
 refine al (ah (ak (af (aT Z (js Z (sM Z Z (js Z (bE Z (uP h1 h2) 48000 Z (js Z (jn (ar Z (fun z48=>?_) (fun z48=>?_))))))))))))
 try simp only[bL]at z48
 refine af (js Z (jr ?_))
 refine aC Z ?_
 rw[Int.toNat_natCast,am (by omega)]at z48
 simp only[Tm.ok,lG i (by omega) z48,Bool.and_false]
 try simp only[bL]at z48
 refine al (ag (js Z (ji Z (js Z (jn ?_)))))
 refine⟨i+1,Ent.env ⟨Z,Z,Z,aq⟩,⟨by omega,fun j h hj=>?_⟩,by omega⟩
 by_cases e:j=i
 subst e;rw[Int.toNat_natCast,am h]at z48;exact z48
 exact hi.2 j h (by omega)
 try simp only[bL]at z37
 refine bg (af (js Z (jr ?_)))
 refine aC Z ?_
 simp only[Tm.ok,z34,Bool.not_false,Bool.true_and]
 rw[nd (fun j hj=>hi.2 j hj (by omega))]
abbrev eA(xs:List Int):B:=.row true 1 (xs.map fun n=>[.int .i64 n])
abbrev bD(xs:List Int):A:=.c (.d (dV xs))
variable{xs:List Int}
theorem tv:MQ h1 h2 112 [bD xs] [] (Rows (.c (.rs 0 0 xs.length)) [eA xs]):=by
 refine eY (jB 6 h1 h2 Tryz.func112 Z fun O hF=>?_)
 have hl:xs.length≤L:=by simpa[As.fact,A.fact,M.fact,D.fact,Ds.fact]using hF.1.1
 refine ?_
 refine af (js Z (aZ (aI (HS.lit O Z Z Z) Z (js Z (aI (cw (own:=true) O Z (.row Z Z) (.slc (.inr (Scal.map (fun _=>rfl)))) (by simp) Z (by first|omega|(dsimp only[cj,fh,List.length_nil];omega)|(simp only[bL]at *;omega)|(simp;omega)) (by first|omega|(dsimp only[cj,fh,List.length_nil];omega)|(simp only[bL]at *;omega)|(simp;omega)) Z Z) Z (js Z (jr ?_)))))))
 refine⟨.inl Z,_,cn,_,Z,[5],by decide,Z,?_,?_⟩
 simp[A.lab,M.lab]
 rfl
theorem uQ:MQ h1 h2 129 [bD xs] [] (Rows (.c (.rs 0 0 xs.length)) [eA xs]):=by
 refine eY (jB 6 h1 h2 Tryz.func129 Z fun O hF=>?_)
 have hl:xs.length≤L:=by simpa[As.fact,A.fact,M.fact,D.fact,Ds.fact]using hF.1.1
 refine ?_
 refine af (js Z (aZ (aI (HS.lit O Z Z Z) Z (js Z (aI (cw (own:=true) O Z (.row Z Z) (.slc (.inr (Scal.map (fun _=>rfl)))) (by simp) Z (by first|omega|(dsimp only[cj,fh,List.length_nil];omega)|(simp only[bL]at *;omega)|(simp;omega)) (by first|omega|(dsimp only[cj,fh,List.length_nil];omega)|(simp only[bL]at *;omega)|(simp;omega)) Z Z) Z (js Z (jr ?_)))))))
 refine⟨.inl Z,_,cn,_,Z,[5],by decide,Z,?_,?_⟩
 simp[A.lab,M.lab]
 rfl

deriving instance DecidableEq for Tm
abbrev pP(ts:List Tm):D:=.slc 2 (ts.map Tm.cells)
abbrev cO(ts:List Tm):A:=.c (.d (pP ts))

structure Sm where
  kind:Int
  var:Int
  event:Int
  sum:Tm
  index:Tm
  facts:List Tm
  deriving Inhabited,DecidableEq
structure Pm where
  pre:List Tm
  body:List Sm
  post:List Tm
  deriving Inhabited,DecidableEq
structure Sx where
  vars:List Int
  cells:List Int
  deriving Inhabited,DecidableEq
def sU{α:Type}(f:Int→α→α)(sz:α→Nat):Int→List α→List α
  | _,[]=>[]
  | k,a::r=>f k a::sU f sz (k+sz a) r
def wb{α:Type}(sz:α→Nat)(l:List α):Nat:=(l.map sz).sum
def mk{α:Type}(f:Int→α→α)(sz:α→Nat)(k:Int)(i:Nat)(l:List α):List α:=sU f sz k (l.take i)++l.drop i
section
variable{α:Type}{f:Int→α→α}{sz:α→Nat}
end

def Tm.term(t:Tm):Bool:=t.ok&&decide ((t.xs.length:Int)≤4)
def vk(ts:List Tm)(n:Int):Bool:=ts.all Tm.term&&decide ((ts.length:Int)≤n)
def below(k:Int):Int:=if k=1 then 2 else if k=7 then 2 else if k=8 then 1 else 0
def Tm.zero(t:Tm):Bool:=decide (t.c=0)&&decide ((t.xs.length:Int)=0)

def wE(s:Sm):Bool:=bif bif bif bif decide (s.kind=2)then true else decide (s.kind=4)then true else decide (s.kind=6)then true else decide (s.kind=7)then true else decide (s.kind=8)
def wG(s:Sm):Bool:=bif decide (s.kind=3)then true else decide (s.kind=4)
def uG(s:Sm):Bool:=bif decide (s.kind=2)then true else decide (s.kind=3)
def sB1(s:Sm):Bool:=bif bif bif !(decide (0≤s.kind)&&decide (s.kind≤8))then true else !s.sum.term then true else !s.index.term then true else !vk s.facts 6
def sB2(s:Sm):Bool:=bif bif bif !wE s then !s.sum.zero else false then true else bif !wG s then !s.index.zero else false then true else bif !decide (s.kind=8)then decide ((0:Int)<s.facts.length)else false
def sB3(s:Sm):Bool:=bif bif uG s then !(decide (0≤s.var)&&decide (s.var≤3))else false then true else bif !uG s then !decide (s.var=0)else false
def vn(s:Sm):Bool:=bif sB1 s then false else bif sB2 s then false else bif sB3 s then false else bif decide (s.kind=5)then(decide (0≤s.event)&&decide (s.event≤3))else decide (s.event=0)
def big(x:Int):Bool:=decide (-1000000000≤x)&&decide (x≤1000000000)
def sS(xs:List Int)(n:Int):Bool:=xs.all big&&decide ((xs.length:Int)=n)
theorem wc{x:Int}:dT x=true↔ -1000000≤x∧x≤1000000:=by simp[dT]
abbrev cP(t:Tm):A:=.agg (t.cells.map .d)
def jg(lo hi x:Int):Bool:=decide (lo≤x)&&decide (x≤hi)

theorem qb:MQ h1 h2 123 [eI x,eI lo,eI hi] [] (Plain (eB (jg lo hi x))):=by
 refine aH ?_ Z
 refine jB 15 h1 h2 Tryz.func123 Z fun O hF=>?_
 refine af (js Z (aZ (aT Z (aG 3 Z Z Z (fun hx=>aB hx Z (aB hx Z (aB hx Z (AN.nil)))) Z Z (aj (aw O Z Z Z Z Z) Z (js Z (jr ?_)))))))
 refine aC Z ?_
 rw[Bool.cond_false_right];rfl
theorem uR:MQ h1 h2 81 [bD xs,eI lo,eI hi] [] (Plain (eB (xs.all (jg lo hi)))):=by
 refine aH ?_ Z
 refine jB 21 h1 h2 Tryz.func81 Z fun O hF=>?_
 have hl:xs.length≤L:=by simpa[As.fact,A.fact,M.fact,D.fact,Ds.fact]using hF.1.1
 refine af (js Z (jn (ah (af (js Z (eh Z (js Z (jn (ak (av (X:=Nat) (fun i=>⟨[(1,eI lo),(2,eI hi),(9,bD xs),(10,eI xs.length),(11,eI i)],[]⟩) (fun i=>i≤xs.length∧∀j (h:j<xs.length),j<i→jg lo hi xs[j]=true) (fun i=>xs.length-i) 0 (Ent.env ⟨Z,Z,Z,Z,Z,aq⟩) ?_ (fun i hi=>?_)))))))))))
 exact⟨fg _,fun j h hj=>absurd hj (Nat.not_lt_zero j)⟩
 refine af (js Z (jn (ah (ar Z (fun z12=>?_) (fun z12=>?_)))))
 try simp only[bL]at z12
 refine al (ah (ak (af (sM Z Z (ac Z (aZ (aW Z (bE Z (qb h1 h2) 19000 Z (js Z (jn (ar Z (fun z19=>?_) (fun z19=>?_))))))))))))
 try simp only[bL]at z19
 refine af (js Z (jr ?_))
 refine aC Z ?_
 rw[Int.toNat_natCast,am (by omega)]at z19
 rw[lG i (by omega) z19]
 try simp only[bL]at z19
 refine al (ag (ji Z (js Z (jn ?_))))
 refine⟨i+1,Ent.env ⟨Z,Z,Z,Z,Z,aq⟩,⟨by omega,fun j h hj=>?_⟩,by omega⟩
 by_cases e:j=i
 subst e;rw[Int.toNat_natCast,am h]at z19;exact z19
 exact hi.2 j h (by omega)
 try simp only[bL]at z12
 refine bg (af (js Z (jr ?_)))
 refine aC Z ?_
 rw[nd (fun j hj=>hi.2 j hj (by omega))]
theorem w5:MQ h1 h2 80 [eI x] [] (Plain (eB (dT x))):=by
 refine aH ?_ Z
 refine jB 5 h1 h2 Tryz.func80 Z fun O hF=>?_
 refine af (js Z (aZ (js Z (bE Z (qb h1 h2) 5000 Z (js Z (jr ?_))))))
 refine aC Z ?_
 first|rfl|skip
theorem rR(t:Tm):(bif bif bif decide ((t.xs.length:Int)≤10)then dT t.c else false then t.xs.all dT else false then bif decide ((t.xs.length:Int)=0)then true else !decide (t.xs.getD ((t.xs.length:Int)-1).toNat default=0)else false)=t.ok:=by
 unfold Tm.ok
 cases dT t.c<;>cases t.xs.all dT<;>simp
 by_cases h0:t.xs=[]
 simp[h0]
 have h1:0<t.xs.length:=List.length_pos_iff.2 h0
 by_cases h2:(t.xs.length:Int)≤10
 have h3: ¬(10:Int)<t.xs.length:=by omega
 simp[h0,h1,h2,h3]
 have h3:(10:Int)<t.xs.length:=by omega
 simp[h2,h3]
theorem k8:MQ h1 h2 38 [cP t] [] (Plain (eB t.ok)):=by
 refine aH ?_ Z
 refine jB 32 h1 h2 Tryz.func38 Z fun O hF=>?_
 have hl:t.xs.length≤L:=by simpa[As.fact,A.fact,M.fact,Ms.fact,D.fact,Ds.fact]using hF.1.2.1.1
 refine af (jx Z (js Z (aZ (ac Z (eh Z (js Z (jf [3,2,1,0] Z (aZ (aW Z (jf [9,3,2,1,0] Z (aG 3 Z Z Z (fun hx=>aB hx Z (aB hx Z (cH O hx Z Z Z Z (w5 h1 h2) (aa Z) Z Z Z Z Z Z Z (B0:=13000) Z (AN.nil)))) Z Z (aj (aw O Z Z Z Z Z) Z (js Z (jf [14,3,2,1,0] Z (aG 3 Z Z Z (fun hx=>aB hx Z (aB hx Z (cH O hx Z Z Z Z (uR h1 h2) (aa Z) Z Z Z Z Z Z Z (B0:=18000) Z (AN.nil)))) Z Z (aj (aw O Z Z Z Z Z) Z (js Z (jf [19,3,2,1,0] Z (aG 11 Z Z Z (fun hx=>aB hx Z (aB hx Z (aB hx Z (qE 7 Z Z Z Z (fun hx'=>aB hx' Z (aB hx' Z (aB hx' Z (dU hx' (bf O Z Z (by first|omega|(simp only[bL]at *;omega)) (by first|omega|(simp only[bL]at *;omega))) Z (dU hx' (dO O Z Z Z Z Z Z Z Z (by first|omega|(simp only[bL]at *;omega)) (gM (by first|omega|(simp only[bL]at *;omega)) (by first|omega|(simp only[bL]at *;omega)))) Z (aB hx' Z (aB hx' Z (AN.nil)))))))) Z Z (dU hx (aD O Z Z Z Z Z) Z (AN.nil)))))) Z Z (aj (aw O Z Z Z Z Z) Z (js Z (jf [2,1,0] Z (jr ?_)))))))))))))))))))))))
 refine aC Z ?_
 exact congrArg eB (rR t)
theorem wS:MQ h1 h2 124 [cP t] [] (Plain (eB t.zero)):=by
 refine aH ?_ Z
 refine jB 12 h1 h2 Tryz.func124 Z fun O hF=>?_
 refine af (jx Z (js Z (aZ (aT Z (aG 4 Z Z Z (fun hx=>aB hx Z (aB hx Z (dU hx (bO O Z Z Z Z Z Z Z Z) Z (aB hx Z (AN.nil))))) Z Z (aj (aw O Z Z Z Z Z) Z (js Z (jr ?_))))))))
 refine aC Z ?_
 rw[Bool.cond_false_right];rfl
inductive Tr where
  | node (s:Sm) (at_:Int) (kids:List Tr)
mutual
def Tr.d:Tr→D
  | .node s a ks=>.ptr [.int .i64 s.kind,.int .i64 s.var,.int .i64 s.event,.int .i64 s.sum.c,dV s.sum.xs,.int .i64 s.index.c,dV s.index.xs,pP s.facts,.int .i64 a,.slc 1 (Trs.d ks)] 0
def Trs.d:List Tr→List (List D)
  | []=>[]
  | t::r=>[t.d]::Trs.d r
end
abbrev tB(r:Option (Tr×Nat)):Bool:=match r with|some _=>true|none=>false
structure RS where
  vars:List Int
  cells:List Int
  events:List Int
  fuel:Int
  steps:Int
  out:Int
structure RSok(r:RS):Prop where
  vars:sS r.vars 4=true
  cells:sS r.cells 8=true
  lo:0≤r.steps
  hi:r.steps≤r.fuel
  fuel:r.fuel≤2000
  events:(r.events.length:Int)≤r.steps
structure RSle(r r':RS):Prop where
  ok:RSok r'
  fuel:r'.fuel=r.fuel
  steps:r.steps≤r'.steps

mutual
/-- Each element is valid, and has the statements behind it that it cR. -/
def Tr.ok:Tr→Prop
  | .node s _ ks=>vn s=true∧(ks.length:Int)=below s.kind∧Trs.ok ks
def Trs.ok:List Tr→Prop
  | []=>True
  | t::r=>t.ok∧Trs.ok r
end
def r0(s:Sx)(f:Int):RS:=⟨s.vars,s.cells,[],f,0,0⟩
structure Rs where
  v:List Int
  c:List Int
  ev:List Int
  out:Int
  st:Int
structure Cf where
  n:Nat
  ws:List Nat
  v:List Int
  c:List Int
  ev:List Int
  st:Int

structure Nd where
  kind:Int
  fact:Int
  term:Tm
  mul:List Int
  deriving Inhabited,DecidableEq
structure Sq where
  facts:List Tm
  goal:Tm
  deriving Inhabited,DecidableEq
abbrev Nd.cells(n:Nd):List D:=[.int .i64 n.kind,.int .i64 n.fact,.int .i64 n.term.c,dV n.term.xs,dV n.mul]
abbrev Sq.cells(s:Sq):List D:=[pP s.facts,.int .i64 s.goal.c,dV s.goal.xs]
abbrev wi(n:Nd):A:=.agg (n.cells.map .d)
abbrev kj(s:Sq):A:=.agg (s.cells.map .d)
abbrev ur(ns:List Nd):D:=.slc 5 (ns.map Nd.cells)
abbrev bN(ns:List Nd):A:=.c (.d (ur ns))
theorem sX{L:Nat}(h1:4096≤L)(h2:L≤1073741824){xs:List Int}:MC Tryz.prog L 112 [bD xs] [] (Plain (bD xs)):=(tv h1 h2).frozen (.v (.c (.whole rfl (cj _).symm)))
theorem vy{L:Nat}(h1:4096≤L)(h2:L≤1073741824){xs:List Int}:MC Tryz.prog L 129 [bD xs] [] (Plain (bD xs)):=(uQ h1 h2).frozen (.v (.c (.whole rfl (cj _).symm)))
abbrev oW(ts:List Tm):B:=.row false 2 (ts.map Tm.cells)

theorem w7:MQ h1 h2 175 [ptr t.cells] [] (Plain (cP t)):=by
 refine MC.data (jB 13 h1 h2 Tryz.func175 Z fun O hF=>?_)
 refine af (jl Z (jn (ah (lU [_,_,_,_,_,_,_,_,_,_,_] [pn [] 0 1,pn [0] 0 1,pn [0,1] 0 1,pn [0,1,2] 0 1,bc,ay [4],ay [4,5],ay [4,5,6],pe (rg 4 4) 0,pn (rg 0 9) 1 1,pe (rg 0 10) 1] [8,10] [_,_,_] (ai (kc Z (V Z)) (ai (kc Z (V Z)) (ai (kc Z (V Z)) (ai (kc Z (V Z)) (eR Z (ai (bA O (B0:=12000) Z Z Z Z (sX (xs:=t.xs) h1 h2) (aa Z) Z Z Z Z Z) (kc Z (ai (eS Z Z Z) trivial)))))))) ?_))))
 refine lX ?_
 refine aC Z ?_
 exact .v (.agg (aK Z))
theorem rL:MQ h1 h2 78 [cP t] [] (Plain (cP t)):=by
 refine MC.data (jB 9 h1 h2 Tryz.func78 Z fun O hF=>?_)
 refine af (jx Z (jl Z (jn (ah (lU [_,_,_,_,_,_,_] [pn [] 0 1,pn [0] 0 1,bc,ay [2],pe [2,3] 0,pn (rg 0 5) 1 1,pe (rg 0 6) 1] [4,6] [_,_,_] (ai (kc Z (V Z)) (ai (kc Z (V Z)) (kc Z (kc Z (ai (bA O (B0:=8000) Z Z Z Z (vy (xs:=t.xs) h1 h2) (aa Z) Z Z Z Z Z) (kc Z (ai (eS Z Z Z) trivial))))))) ?_)))))
 refine lX ?_
 refine aC Z ?_
 exact .v (.agg (aK Z))
variable{ts:List Tm}
theorem uK:MQ h1 h2 153 [cO ts] [] (Rows (.c (.rs 0 0 ts.length)) [oW ts]):=by
 refine eY (jB 20 h1 h2 Tryz.func153 Z fun O hF=>?_)
 have hl:ts.length≤L:=by simpa[As.fact,A.fact,M.fact,D.fact,Ds.fact]using hF.1.1
 refine af (js Z (aZ (aI (HS.lit O Z Z Z) Z (js Z (jn (ah (af (js Z (jn (ak (av (X:=Nat) (fun i=>⟨[(0,cO ts),(3,.c (.rs 900 0 i)),(4,eI i)],[(900,oW (ts.take i))]⟩) (fun i=>i≤ts.length) (fun i=>ts.length-i) 0 ((kX 5 Z).trans ((ax 5 900 Z Z).trans (Ent.to ⟨Z,Z,Z,aq⟩ Z))) ?_ (fun i hi=>?_))))))))))))
 exact fg _
 refine ah (af (ac Z (eh Z (js Z (jn (ar Z (fun z9=>?_) (fun z9=>?_)))))))
 try simp only[bL]at z9
 refine al (ah (ak (ag (aW Z (sM Z Z (ab O Z Z Z Z (w7 h1 h2) (aa Z) Z Z Z Z (B0:=17000) Z Z (aI (aP O Z Z Z Z Z Z Z Z Z Z Z) Z (aI (cw (own:=false) (zs:=(ts.take (i+1)).map Tm.cells) (n:=i+1) O Z (.row Z (by simp;omega)) (.whole Z Z (.inr ⟨Z,Z⟩)) (by simp) Z (by simp;omega) (by simp;omega) (by rw[List.take_succ_eq_append_getElem (by omega),List.map_append,Int.toNat_natCast,am (by omega)];rfl) (by simp;omega)) Z (js Z (jn (ag (js Z (ji Z (js Z (jn ?_)))))))))))))))
 refine⟨i+1,(ap [18] (e':=[(0,_),(3,_),(4,_)]) Z Z ⟨Z,Z,Z,aq⟩ Z).trans (ax 18 900 Z Z),by omega,by omega⟩
 try simp only[bL]at z9
 refine bg (af (ac Z (jr ?_)))
 obtain rfl:i=ts.length:=by omega
 rw[List.take_length]
 refine⟨.inl Z,_,cn,_,Z,[900],by decide,Z,Z,Z⟩
theorem wO:MQ h1 h2 77 [cO ts] [] (Rows (.c (.rs 0 0 ts.length)) [oW ts]):=by
 refine eY (jB 19 h1 h2 Tryz.func77 Z fun O hF=>?_)
 have hl:ts.length≤L:=by simpa[As.fact,A.fact,M.fact,D.fact,Ds.fact]using hF.1.1
 refine af (js Z (aZ (js Z (jn (ah (af (js Z (eh Z (js Z (jn (ak (av (X:=Nat) (fun i=>⟨[(3,.c (.rs 900 0 i)),(6,cO ts),(7,eI ts.length),(8,eI i)],[(900,oW (ts.take i))]⟩) (fun i=>i≤ts.length) (fun i=>ts.length-i) 0 ((ee 3 900 2 false Z Z).trans (Ent.to ⟨Z,Z,Z,Z,aq⟩ Z)) ?_ (fun i hi=>?_)))))))))))))
 exact fg _
 refine af (js Z (jn (ah (ar Z (fun z9=>?_) (fun z9=>?_)))))
 try simp only[bL]at z9
 refine al (ah (ak (af (sM Z Z (js Z (jl Z (jo Z (jn (ag (ac Z (ab O Z Z Z Z (rL h1 h2) (aa Z) Z Z Z Z (B0:=15000) Z Z (aI (aP O Z Z Z Z Z Z Z Z Z Z Z) Z (aI (cw (own:=false) (zs:=(ts.take (i+1)).map Tm.cells) (n:=i+1) O Z (.row Z (by simp;omega)) (.whole Z Z (.inr ⟨Z,Z⟩)) (by simp) Z (by simp;omega) (by simp;omega) (by rw[List.take_succ_eq_append_getElem (by omega),List.map_append,Int.toNat_natCast,am (by omega)];rfl) (by simp;omega)) Z (js Z (jn (ag (ji Z (js Z (jn ?_)))))))))))))))))))
 refine⟨i+1,(ap [16] (e':=[(3,_),(6,_),(7,_),(8,_)]) Z Z ⟨Z,Z,Z,Z,aq⟩ Z).trans (ax 16 900 Z Z),by omega,by omega⟩
 try simp only[bL]at z9
 refine bg (af (ac Z (jr ?_)))
 obtain rfl:i=ts.length:=by omega
 rw[List.take_length]
 refine⟨.inl Z,_,cn,_,Z,[900],by decide,Z,Z,Z⟩
def aS(xs:List Int):List Int:=(xs.reverse.dropWhile (· == 0)).reverse
theorem kE{xs:List Int}:aS (xs++[0])=aS xs:=by simp[aS]
theorem o9{xs:List Int}{x:Int}(h:x≠0):aS (xs++[x])=xs++[x]:=by simp[aS,h]
theorem kF{xs:List Int}{n:Nat}(h:n<xs.length)(h0:xs.getD n default=0):aS (xs.take (n+1))=aS (xs.take n):=by
 rw[List.take_succ_eq_append_getElem h,←am h,h0,kE]
theorem f4{xs:List Int}{n:Nat}(hn:n≤xs.length)(h:n=0∨xs.getD (n-1) default≠0):aS (xs.take n)=xs.take n:=by
 cases n with
 | zero=>simp[aS]
 | succ n=>
  have h':xs.getD n default≠0:=by
   rcases h with h|h
   cases h
   exact h
  rw[am (by omega)]at h'
  rw[List.take_succ_eq_append_getElem (by omega),o9 h']
def k5(c:Int)(xs:List Int):Tm×Bool:=if(Tm.mk c (aS xs)).ok=true then(⟨c,aS xs⟩,true)else(⟨0,[]⟩,false)
abbrev fi(r:Tm×Bool):A:=.tup [cP r.1,eB r.2]
def dB(a:Tm)(m:Int)(b:Tm)(n:Int):List Int:=(List.range 10).map fun i=>m*a.xs.getD i 0+n*b.xs.getD i 0
def jj(a:Tm)(m:Int)(b:Tm)(n:Int):Tm×Bool:=k5 (m*a.c+n*b.c) (dB a m b n)
def df(t:Tm):Tm×Bool:=jj t (-1) ⟨1,[]⟩ (-1)
structure Small(t:Tm):Prop where
  c:dT t.c=true
  xs:t.xs.all dT=true
theorem cG{a b:Int}(h1:dT a=true)(h2:dT b=true): -1000000000000≤a*b∧a*b≤1000000000000:=by
 have h1:=wc.1 h1
 have h2:=wc.1 h2
 have h3:a.natAbs≤1000000:=by omega
 have h4:b.natAbs≤1000000:=by omega
 have h5:=Nat.mul_le_mul h3 h4
 rw[←Int.natAbs_mul]at h5
 omega
theorem Small.get{t:Tm}(h:Small t)(i:Nat):dT (t.xs.getD i 0)=true:=by
 by_cases hi:i<t.xs.length
 have:t.xs.getD i 0=t.xs[i]:=by simp[hi]
 rw[this]
 exact List.all_eq_true.1 h.xs _ (List.getElem_mem hi)
 have:t.xs.getD i 0=0:=by simp[Nat.not_lt.1 hi]
 rw[this];decide
theorem dL{t:Tm}(h:t.ok=true):Small t:=by
 simp only[Tm.ok,aN,Bool.not_eq_true']at h
 refine⟨?_,h.2⟩
 cases hn:dT t.c with
 | true=>rfl
 | false=>rw[hn]at h;simp at h
theorem kH{a b:Tm}{m n:Int}{i:Nat}(h:i<10):(dB a m b n).take (i+1)=(dB a m b n).take i++[m*a.xs.getD i 0+n*b.xs.getD i 0]:=by
 rw[List.take_succ_eq_append_getElem (by simpa[dB]using h)]
 simp[dB]
theorem aY{a b:Tm}{m n:Int}:(dB a m b n).length=10:=by simp[dB]
theorem tT{t:Tm}(h:t.ok=true):t.xs.length≤10:=by
 simp only[Tm.ok,aN,Bool.not_eq_true']at h
 by_cases h1:(10:Int)<t.xs.length
 rw[decide_eq_true h1]at h
 cases dT t.c<;>simp at h
 omega
theorem p9{c:Int}:MQ h1 h2 79 [eI c,bD xs] [] (Plain (fi (k5 c xs))):=by
 refine MC.data (jB 32 h1 h2 Tryz.func79 Z fun O hF=>?_)
 have hl:xs.length≤L:=by simpa[As.fact,A.fact,M.fact,D.fact,Ds.fact]using hF.2.1.1
 refine af (jl Z (js Z (aZ (js Z (eh Z (js Z (jf [6,5,4,0,1] Z (jn (ah (ak (av (X:=Nat) (fun n=>⟨[(0,eI c),(1,bD xs),(4,.c (.pt 4 0 0)),(6,eI n)],[(4,.box [.d (.int .i64 0),.d .nils])]⟩) (fun n=>n≤xs.length∧aS (xs.take n)=aS xs) (fun n=>n) xs.length (Ent.env ⟨Z,Z,Z,Z,aq⟩) ?_ (fun n hi=>?_))))))))))))
 exact⟨bP _,by rw[List.take_length]⟩
 refine ah (af (aW Z (jf [12,0,1,4,6] Z (aG 6 Z Z Z (fun hx=>aB hx Z (aB hx Z (dU hx (vF Z) Z (dU hx (vD Z) Z (aB hx Z (aB hx Z (AN.nil))))))) Z Z (aj (aw O Z Z Z Z Z) Z (jf [19,0,1,4,6] Z (jn (ar Z (fun z19=>?_) (fun z19=>?_)))))))))
 refine al (ak (ag (js Z (ji Z (js Z (jf [6,19,0,1,4] Z (jn ?_)))))))
 rw[Bool.cond_false_right,aN,decide_eq_true_eq,decide_eq_true_eq]at z19
 obtain⟨k,hk⟩: ∃k,n=k+1:=⟨n-1,by omega⟩
 subst hk
 have hk2:((k+1:Nat):Int)-1=k:=by omega
 rw[hk2]at z19
 refine⟨k,Ent.to ⟨Z,Z,Z,by rw[hk2];rfl,aq⟩ Z,⟨by omega,?_⟩,Nat.lt_succ_self k⟩
 rw[←hi.2,kF (by omega) (by simpa using z19.2)]
 refine bg (af (aW Z ?_))
 have hd:aS (xs.take n)=xs.take n:=f4 hi.1 (by
  rw[Bool.cond_false_right]at z19
  rcases Nat.eq_zero_or_pos n with h0|h0
  ·
   exact .inl h0
  ·
   refine .inr (fun h9=>?_)
   have e1:((n:Int)-1).toNat=n-1:=by omega
   rw[e1,h9]at z19;simp at z19;omega)
 have ht:=hi.2
 rw[hd]at ht
 refine aj ((cY O Z Z ⟨by omega,by simp;omega⟩).cast (v':=bD (aS xs)) (by rw[←ht];simp[List.map_take])) Z (jf [25,22,19,0,1,4,6] Z (ab O Z Z Z Z (sX (xs:=aS xs) h1 h2) (aa Z) Z Z Z Z (B0:=27000) Z Z (js Z (jf [27,19,0,1,4,6] Z (jl Z (jo Z (jn (ah (af (dy O Z Z Z Z (w9 (t:=⟨c,aS xs⟩) h1 h2) (.cons (.c (.pb (cs:=Tm.cells ⟨c,aS xs⟩) Z (aK Z))) .nil) Z Z Z Z Z (B0:=29000) Z (js Z (jn (ar Z (fun z29=>?_) (fun z29=>?_))))))))))))))
 refine af (js Z (jo Z (js Z (jr ?_))))
 refine aC Z ?_
 have hok:(Tm.mk c (aS xs)).ok=false:=by simpa using z29
 rw[show k5 c xs=(⟨0,[]⟩,false)from if_neg (by rw[hok];decide)]
 exact .tup (.cons (.agg (.cons .d (.cons .nils .nil))) (.cons (.c .d) .nil))
 refine al (af (js Z (jo Z (js Z (jr ?_)))))
 refine aC Z ?_
 have hok:(Tm.mk c (aS xs)).ok=true:=by simpa using z29
 rw[show k5 c xs=(⟨c,aS xs⟩,true)from if_pos hok]
 exact .tup (.cons (.agg (aK Z)) (.cons (.c .d) .nil))
theorem rK{i:Nat}(hi:i<10):MQ h1 h2 108 [ptr t.cells,eI i] [] (Plain (eI (t.xs.getD i 0))):=by
 refine aH ?_ Z
 refine jB 19 h1 h2 Tryz.func108 Z fun O hF=>?_
 have hl:t.xs.length≤L:=by simpa[As.fact,A.fact,M.fact,D.fact,Ds.fact]using hF.1.2.1.1
 refine af (js Z (jn (ah (af (aT Z (js Z (eh Z (js Z (jn (ar Z (fun z11=>?_) (fun z11=>?_)))))))))))
 try simp only[bL]at z11
 refine af (aT Z (js Z (sM Z Z (ac Z (jr ?_)))))
 refine aC Z ?_
 rw[Int.toNat_natCast]
 have:t.xs.getD i 0=t.xs.getD i default:=rfl
 rfl
 try simp only[bL]at z11
 refine al (af (js Z (jr ?_)))
 refine aC Z ?_
 have:t.xs.getD i 0=0:=by simp[show t.xs.length≤i by omega]
 rw[this]
theorem uN{a b:Tm}{m n:Int}(ha:Small a)(hb:Small b)(hm:dT m=true)(hn:dT n=true):MQ h1 h2 64 [ptr a.cells,eI m,ptr b.cells,eI n] [] (Plain (fi (jj a m b n))):=by
 refine MC.data (jB 48 h1 h2 Tryz.func64 Z fun O hF=>?_)
 refine af (jl Z (js Z (aZ (aI (HS.lit O Z Z Z) Z (js Z (jn (ah (af (js Z (jn (ak (av (X:=Nat) (fun i=>⟨[(0,ptr a.cells),(1,eI m),(2,ptr b.cells),(3,eI n),(8,.c (.pt 8 0 0)),(10,.c (.rs 900 0 i)),(11,eI i)],[(8,.box [.d (.int .i64 0),.d .nils]),(900,eA ((dB a m b n).take i))]⟩) (fun i=>i≤10) (fun i=>10-i) 0 ((ax 12 900 Z Z).trans (Ent.to ⟨Z,Z,Z,Z,Z,Z,Z,aq⟩ Z)) ?_ (fun i hi=>?_)))))))))))))
 exact fg _
 refine ah (af (ac Z (jn (ar Z (fun z14=>?_) (fun z14=>?_)))))
 try simp only[bL]at z14
 refine al (ah (ak (ag ?_)))
 have q1:=cG hm (ha.get i)
 have q2:=cG hn (hb.get i)
 refine aT Z (bE Z (rK (t:=a) (i:=i) h1 h2 (by omega)) 22000 Z (ji Z (aW Z (bE Z (rK (t:=b) (i:=i) h1 h2 (by omega)) 27000 Z (ji Z (ji Z (aI (HS.lit O Z Z Z) Z (aI (bX (zs:=((dB a m b n).take (i+1)).map fun n=>[.int .i64 n]) (n:=i+1) O Z Z Z Z Z Z Z Z Z Z Z Z Z Z Z Z (.row Z (by simp[aY];omega)) Z Z (by decide) Z (by simp[aY];omega) (by simp[aY];omega) (by rw[kH (by omega),List.map_append];rfl) (by simp[aY];omega)) Z (js Z (jn (ag (js Z (ji Z (js Z (jn ?_)))))))))))))))
 refine⟨i+1,((ap [8,30] (e':=[(0,_),(1,_),(2,_),(3,_),(8,_),(10,_),(11,_)]) Z Z ⟨Z,Z,Z,Z,Z,Z,Z,aq⟩ Z).trans (ax 30 900 Z Z)),by omega,by omega⟩
 try simp only[bL]at z14
 refine bg (ah ?_)
 obtain rfl:i=10:=by omega
 rw[List.take_of_length_le (by rw[aY];decide)]
 have q1:=cG hm ha.c
 have q2:=cG hn hb.c
 refine lK (Ent.freeze 900 (e':=[(10,_),(8,_),(0,_),(1,_),(2,_),(3,_)]) Z (.cons Z (.c (.row Z (by simp[aY]))) (fe [8,0,1,2,3] Z)) (bu Z (.skip .nil))) ?_
 refine lU [_,_,_,_,_,_,_,_,_,_,_,_,_,_,_,_,_,_,_] [bc,bc,ay [1],ay [1,2],ay [1,2,3],ay (rg 0 5),bc,bc,ay [7],ay [7,8],ay [7,8,9],ay (rg 6 5),ay (rg 0 12),bc,pe (rg 0 14) 0,pn (rg 0 15) 1 1,pn (rg 0 15) 1 1,pe (rg 0 17) 1,pn (rg 0 18) 2 2] [14,17] [_,_,_] (eR Z (kc Z (ai (vF Z) (eR Z (kc Z (ai (vF Z) (ai (vF Z) (kc Z (ai (bA O (B0:=46000) Z Z Z Z (p9 (c:=m*a.c+n*b.c) (xs:=dB a m b n) h1 h2) (aa Z) Z Z Z Z Z) (kc Z (kc Z (ai (eS Z Z Z) (kc Z trivial))))))))))))) ?_
 refine jw [9,10,8,0,1,2,3] Z (ie ?_)
 refine lX ?_
 refine aC Z ?_
 exact .tup (.cons (.agg (aK Z)) (.cons (.c .d) .nil))
theorem w4(ht:Small t):MQ h1 h2 152 [ptr t.cells] [] (Plain (fi (df t))):=by
 refine MC.data (jB 10 h1 h2 Tryz.func152 Z fun O hF=>?_)
 refine af (jl Z (js Z (aZ (ac Z (jx Z (aA (Ent.freeze 6 (e':=[(6,_),(4,_),(2,_)]) Z (.cons Z (.c (.box (cs:=Tm.cells ⟨1,[]⟩) Z (.cons .d (.cons .nils .nil)))) (fe [4,2] Z)) (bu Z (.skip .nil))) ?_))))))
 refine ab O Z Z Z Z (uN (a:=t) (m:= -1) (b:=⟨1,[]⟩) (n:= -1) h1 h2 ht ⟨by decide,by decide⟩ (by decide) (by decide)) (aa Z) Z Z Z Z (B0:=8000) Z Z (ac Z (jo Z (js Z (jr ?_))))
 refine aC Z ?_
 exact .tup (.cons (.agg (aK Z)) (.cons (.c .d) .nil))
def eC(s:Sq):List Tm×Bool:=if(df s.goal).2=true then(s.facts++[(df s.goal).1],true)else([],false)
abbrev uH(r:List Tm×Bool):A:=.tup [cO r.1,eB r.2]
theorem w8{s:Sq}(hg:Small s.goal)(hn:s.facts.length≤1000):MQ h1 h2 109 [ptr s.cells] [] (Plain (uH (eC s))):=by
 refine MC.data (jB 23 h1 h2 Tryz.func109 Z fun O hF=>?_)
 refine af (ac Z (aZ (aW Z (ab O Z Z Z Z (w4 (t:=s.goal) h1 h2 hg) (.cons (.c (.sub Z)) .nil) Z Z Z Z (B0:=11000) Z Z (aW Z (jl Z (jo Z (js Z (jn (ah (af (ac Z (jn (ar Z (fun z14=>?_) (fun z14=>?_)))))))))))))))
 try simp only[bL]at z14
 refine af (ac Z (jr ?_))
 refine aC Z ?_
 have hok:(df s.goal).2=false:=z14
 rw[show eC s=([],false)from if_neg (by rw[hok];decide)]
 exact .tup (.cons (.c .nils) (.cons (.c .d) .nil))
 try simp only[bL]at z14
 refine al (ah (jw [4,0] Z (v9 [_,_,_,_,_,_,_,_,_,_] [bc,ay [0],ay [0,1],ay [0,1,2],pe [0,1,2,3] 0,pn [] 0 1,pn [5] 0 1,pe [0,1,2,3,4,5,6] 1,pn [0,1,2,3,4,5,6,7] 2 2,pn [0,1,2,3,4,5,6,7,8] 2 2] [4,7] 6 21 (.row false 2 [Tm.cells (df s.goal).1]) [_,_] [_] [[],[20000]] (kf Z Z Z (kf Z Z Z (kf Z Z Z (kf Z Z Z (ai (ai (bo (bm (eQ O (B0:=20000) Z Z Z Z (uK (ts:=s.facts) h1 h2) (aa Z) Z Z Z Z)) (bm (eQ O (B0:=20000) Z Z Z Z (uK (ts:=s.facts) h1 h2) (aa Z) Z Z Z Z))) Z) (ai (kf Z Z Z (kg Z Z Z)) (ai (ai (ai (bm (eG O Z Z Z Z Z Z Z Z Z Z Z Z Z Z)) Z) (ai (bm (eG O Z Z Z Z Z Z Z Z Z Z Z Z Z Z)) Z)) (ai (ai (bo trivial (ef (own:=false) (xs:=s.facts.map Tm.cells) (ys:=[Tm.cells (df s.goal).1]) (zs:=(s.facts++[(df s.goal).1]).map Tm.cells) (n:=(s.facts++[(df s.goal).1]).length) O Z Z Z Z Z Z Z Z Z Z Z Z Z Z Z Z (.row Z (cj _).symm) (.whole Z Z (.inr ⟨Z,Z⟩)) (by simp) Z (by simp;omega) (by simp;omega) (by simp) (by simp) Z)) Z) (ai (ai (bo trivial (V Z)) Z) (ai (ai (bo trivial (V Z)) Z) trivial)))))))))) ?_)))
 refine jw [3,2,4,0] Z (ie ?_)
 refine lX ?_
 refine aC Z ?_
 have hok:(df s.goal).2=true:=z14
 rw[show eC s=(s.facts++[(df s.goal).1],true)from if_pos hok]
 exact .tup (.cons (.c (.whole Z (cj _).symm)) (.cons (.c .d) .nil))
def gK(ts:List Tm)(n:Int):Bool:=ts.all Tm.ok&&decide ((ts.length:Int)≤n)
def ii(s:Sq):Bool:=gK s.facts 13&&s.goal.ok
def co(x:Int):Bool:=decide (0≤x)&&decide (x≤1000000)
def kl(xs:List Int):Bool:=xs.all co&&decide ((xs.length:Int)≤20)
def cQ(n:Nd):Bool:=if n.kind=1 then(decide (n.fact=0)&&n.term.zero)&&kl n.mul else if n.kind=2 then(decide (n.fact=0)&&n.term.ok)&&decide ((n.mul.length:Int)=0)else if n.kind=3 then(jg 0 19 n.fact&&n.term.zero)&&decide ((n.mul.length:Int)=0)else false
def dl(k:Int):Int:=if k=1 then -1 else if k=2 then 1 else 0
def endK:List Nd→Int→Option Nat
  | [],need=>if need≤0 then some 0 else none
  | s::r,need=>if need≤0 then some 0 else(endK r (need+dl s.kind)).map (· + 1)
def endP(p:List Nd)(k:Nat):Int:=match endK (p.drop k) 1 with
  | some n=>k+n
  | none=> -1
def gD(p:List Nd):Bool:=(decide ((1:Int)≤p.length)&&decide ((p.length:Int)≤60))&&(p.all cQ&&decide (endP p 0=p.length))
def kk(p:List Nd)(k:Nat):Nat→Int×Bool
  | 0=>(-1,false)
  | i+1=>if(p.getD i default).kind=1∨endP p i≤k then kk p k i else(i,decide (i+1=k))
theorem mD{l:List Nd}{n:Int}(h:n≤0):endK l n=some 0:=by cases l<;>simp[endK,h]
theorem mC{n:Int}(h:0<n):endK [] n=none:=by simp[endK];omega
theorem fH{l:List Nd}{n:Int}(h:0<n){k:Nat}(hk:k<l.length):endK (l.drop k) n=(endK (l.drop (k+1)) (n+dl (l.getD k default).kind)).map (· + 1):=by
 rw[List.drop_eq_getElem_cons hk,am hk]
 show(if n≤0 then some 0 else _)=_
 rw[if_neg (by omega)]
def bQ(xs:List Int):Nat:=xs.foldl (fun g x=>Nat.gcd g x.natAbs) 0
theorem iB{xs:List Int}{i:Nat}(h:i<xs.length):bQ (xs.take (i+1))=Nat.gcd (bQ (xs.take i)) (xs.getD i default).natAbs:=by
 rw[List.take_succ_eq_append_getElem h,bQ,List.foldl_append,am h];rfl
theorem lB{xs:List Int}(h:xs.all dT=true): ∀{i:Nat},i≤xs.length→bQ (xs.take i)≤1000000
 | 0,_=>by simp[bQ]
 | i+1,hi=>by
  rw[iB (by omega)]
  have ih:=lB h (i:=i) (by omega)
  have hx:=wc.1 (List.all_eq_true.1 h _ (List.getElem_mem (show i<xs.length by omega)))
  rw[←am (by omega)]at hx
  by_cases h0:(xs.getD i default).natAbs=0
  rw[h0,Nat.gcd_zero_right];exact ih
  have:=Nat.gcd_le_right (bQ (xs.take i)) (Nat.pos_of_ne_zero h0)
  omega
def mx(a b:Int):Int:=if a>b then a else b
theorem tU(x:Int):mx x (0-x)=(x.natAbs:Int):=by unfold mx;split<;>omega
def cg(t:Tm):Tm×Bool:=if bQ t.xs<2 then(⟨0,[]⟩,false)else
  k5 (if t.c.tmod (bQ t.xs)<0 then t.c.tdiv (bQ t.xs)-1 else t.c.tdiv (bQ t.xs)) (t.xs.map fun x=>x.tdiv (bQ t.xs))
theorem gL{a b:Int}(h: -1000000≤a∧a≤1000000): -1000000≤a.tdiv b∧a.tdiv b≤1000000:=by
 have h1:(a.tdiv b).natAbs≤a.natAbs:=by rw[Int.natAbs_tdiv];exact Nat.div_le_self _ _
 omega
theorem i9{a b:Int}(h: -1000000≤a∧a≤1000000): -1000000≤a.tmod b∧a.tmod b≤1000000:=by
 have h1:(a.tmod b).natAbs≤a.natAbs:=by rw[Int.natAbs_tmod];exact Nat.mod_le _ _
 omega
def fz(n:Nd)(ctx:List Tm)(first:Bool):List Tm:=if n.kind=3 then ctx++[(cg (ctx.getD n.fact.toNat default)).1]else if first=true then ctx++[n.term]else ctx++[(df n.term).1]
def ba(f:Tm→Int):List Tm→List Int→Int
  | t::ts,m::ms=>m*f t+ba f ts ms
  | _,_=>0
theorem dv{f:Tm→Int}: ∀{ts:List Tm} {ms:List Int} {i:Nat},i<ts.length→i<ms.length→ba f (ts.take (i+1)) (ms.take (i+1))=ba f (ts.take i) (ms.take i)+ms.getD i default*f (ts.getD i default)
 | [],_,i,h,_=>by simp at h
 | _::_,[],i,_,h=>by simp at h
 | x::xs,y::ys,0,_,_=>by simp[ba]
 | x::xs,y::ys,i+1,h1,h2=>by
  have:=dv (f:=f) (ts:=xs) (ms:=ys) (i:=i) (by simpa using h1) (by simpa using h2)
  simp only[List.take_succ_cons,ba,List.getD_cons_succ]at this ⊢
  omega
theorem lE{f:Tm→Int}{ts:List Tm}{ms:List Int}(hf: ∀t∈ts,dT (f t)=true)(hm:ms.all dT=true): ∀{i:Nat},i≤ts.length→i≤ms.length→ -(i*1000000000000:Int)≤ba f (ts.take i) (ms.take i)∧ba f (ts.take i) (ms.take i)≤i*1000000000000
 | 0,_,_=>by simp[ba]
 | i+1,h1,h2=>by
  have ih:=lE hf hm (i:=i) (by omega) (by omega)
  rw[dv (by omega) (by omega)]
  have a1:=hf _ (List.getElem_mem (show i<ts.length by omega))
  have a2:=List.all_eq_true.1 hm _ (List.getElem_mem (show i<ms.length by omega))
  have:=cG a2 a1
  rw[am (by omega),am (by omega)]
  omega
abbrev cE(k:Nat):Tm→Int:=fun t=>t.xs.getD k 0
def bC(ts:List Tm)(ms:List Int):List Int:=(List.range 10).map fun k=>ba (cE k) ts ms
def gO(ctx:List Tm)(ms:List Int):Bool:=decide (ctx.length=ms.length)&&((bC ctx ms).all (fun x=>decide (x=0))&&decide (ba Tm.c ctx ms<0))
def em(n:Nd)(ctx:List Tm):Bool:=if n.kind=1 then gO ctx n.mul else if 20≤ctx.length then false else if n.kind=2 then(df n.term).2 else if n.fact≥ctx.length then false else(cg (ctx.getD n.fact.toNat default)).2

theorem wR{a b:Int}:MQ h1 h2 173 [eI a,eI b] [] (Plain (eI (mx a b))):=by
 refine aH ?_ Z
 refine jB 10 h1 h2 Tryz.func173 Z fun O hF=>?_
 refine af (js Z (jn (ah (af (aW Z (jn (ar Z (fun z7=>?_) (fun z7=>?_))))))))
 try simp only[bL]at z7
 refine af (ac Z (jr ?_))
 refine aC Z ?_
 rw[mx,if_pos z7]
 try simp only[bL]at z7
 refine al (af (ac Z (jr ?_)))
 refine aC Z ?_
 rw[mx,if_neg (by omega)]
theorem wX(ht:t.xs.all dT=true):MQ h1 h2 154 [ptr t.cells] [] (Plain (eI (bQ t.xs))):=by
 refine aH ?_ Z
 refine jB 40 h1 h2 Tryz.func154 Z fun O hF=>?_
 have hl:t.xs.length≤L:=by simpa[As.fact,A.fact,M.fact,D.fact,Ds.fact]using hF.1.2.1.1
 refine af (js Z (aZ (js Z (jn (ah (af (js Z (jn (ak (av (X:=Nat) (fun i=>⟨[(0,ptr t.cells),(3,eI (bQ (t.xs.take i))),(4,eI i)],[]⟩) (fun i=>i≤t.xs.length) (fun i=>t.xs.length-i) 0 (Ent.env ⟨Z,Z,Z,aq⟩) ?_ (fun i hi=>?_)))))))))))
 exact fg _
 refine ah (af (aT Z (js Z (eh Z (js Z (jn (ar Z (fun z13=>?_) (fun z13=>?_))))))))
 try simp only[bL]at z13
 refine al (ah (ak (ah ?_)))
 have hi0:=hi
 have hx:=wc.1 (List.all_eq_true.1 ht _ (List.getElem_mem (show i<t.xs.length by omega)))
 rw[←am (by omega)]at hx
 have hgs:=iB (xs:=t.xs) (i:=i) (by omega)
 have hgl:=lB ht hi
 have hmx:=tU (t.xs.getD i default)
 refine lU [_,_,_,_,_,_,_,_,_,_,_,_,_,_,_,_,_] [bc,ay [0],ay [0,1],ay [0,1,2],bc,ay (rg 0 5),ay (rg 0 6),bc,ay [7],ay [7,8],ay [7,8,9],bc,ay (rg 7 5),ay (rg 7 6),ay (rg 7 7),pe (rg 0 15) 0,pn (rg 0 16) 1 1] [15] [_,_] (eR Z (kc Z (ai (vD Z) (eR Z (kc Z (kc Z (ai (vD Z) (kc Z (ai (bf O Z Z (by rw[Int.toNat_natCast];omega) (by rw[Int.toNat_natCast];omega)) (ai (cr O (B0:=32000) Z Z Z Z ((wR (a:=t.xs.getD ((i:Int)).toNat default) (b:=0-t.xs.getD ((i:Int)).toNat default) h1 h2).plain (u:=eI ((t.xs.getD i default).natAbs)) (by rw[Int.toNat_natCast,hmx])) (aa Z) Z Z Z Z Z) (kc Z trivial))))))))))) ?_
 refine jw [5,13,0,3,4] Z (ie ?_)
 refine ak (av (X:=Nat×Nat) (fun z=>⟨[(0,ptr t.cells),(3,eI z.1),(4,eI i),(5,eI z.2)],[]⟩) (fun z=>Nat.gcd z.1 z.2=Nat.gcd (bQ (t.xs.take i)) (t.xs.getD i default).natAbs∧z.1≤1000000∧z.2≤1000000) (fun z=>z.2) (bQ (t.xs.take i),(t.xs.getD i default).natAbs) (Ent.env ⟨Z,Z,Z,Z,aq⟩) ?_ (fun z hi=>?_))
 exact⟨Z,hgl,by show(t.xs.getD i default).natAbs≤1000000;omega⟩
 have hz:=i9 (a:=z.1) (b:=z.2) (by omega)
 refine ah (af (ac Z (jn (ar Z (fun z33=>?_) (fun z33=>?_)))))
 try simp only[bL]at z33
 refine al (ak (af (ac Z (aj (vR Z Z Z Z) Z (js Z (aZ (ac Z (jn (ag (ac Z (jn ?_)))))))))))
 have hm:z.1%z.2<z.2:=Nat.mod_lt _ (by omega)
 refine⟨(z.2,z.1%z.2),Ent.env ⟨Z,Z,Z,Z,aq⟩,⟨?_,hi.2.2,by show z.1%z.2≤1000000;omega⟩,hm⟩
 show Nat.gcd z.2 (z.1%z.2)=_
 rw[←hi.1,Nat.gcd_comm z.2,←Nat.gcd_rec,Nat.gcd_comm]
 try simp only[bL]at z33
 refine bg (ag (js Z (ji Z (js Z (jn ?_)))))
 have hz0:z.2=0:=by omega
 have hz1:z.1=bQ (t.xs.take (i+1)):=by rw[hgs,←hi.1,hz0,Nat.gcd_zero_right]
 rw[hz1]
 exact⟨i+1,Ent.env ⟨Z,Z,Z,aq⟩,by omega,by omega⟩
 try simp only[bL]at z13
 refine bg (af (ac Z (jr ?_)))
 refine aC Z ?_
 obtain rfl:i=t.xs.length:=by omega
 rw[List.take_length]
theorem w3(ht:Small t):MQ h1 h2 110 [ptr t.cells] [] (Plain (fi (cg t))):=by
 refine MC.data (jB 55 h1 h2 Tryz.func110 Z fun O hF=>?_)
 have hl:t.xs.length≤L:=by simpa[As.fact,A.fact,M.fact,D.fact,Ds.fact]using hF.1.2.1.1
 refine af (jl Z (js Z (aZ (js Z (bE Z (wX (t:=t) h1 h2 ht.xs) 10000 Z (js Z (jn (ah (af (ac Z (jn (ar Z (fun z11=>?_) (fun z11=>?_)))))))))))))
 try simp only[bL]at z11
 refine af (js Z (jo Z (js Z (jr ?_))))
 refine aC Z ?_
 rw[show cg t=(⟨0,[]⟩,false)from if_pos (by omega)]
 exact .tup (.cons (.agg (.cons .d (.cons .nils .nil))) (.cons (.c .d) .nil))
 try simp only[bL]at z11
 refine al (af ?_)
 obtain⟨g,hg⟩: ∃g:Int,g=(bQ t.xs:Int):=⟨_,rfl⟩
 rw[←hg]
 rw[←hg]at z11
 refine aI (HS.lit O Z Z Z) Z (js Z (jn (ah (af (js Z (jn (ak (av (X:=Nat) (fun i=>⟨[(0,ptr t.cells),(2,.c (.pt 2 0 0)),(4,eI g),(5,.c (.rs 900 0 i)),(6,eI i)],[(2,.box [.d (.int .i64 0),.d .nils]),(900,eA ((t.xs.map fun x=>x.tdiv g).take i))]⟩) (fun i=>i≤t.xs.length) (fun i=>t.xs.length-i) 0 ((ax 13 900 Z Z).trans (Ent.to ⟨Z,Z,Z,Z,Z,aq⟩ Z)) ?_ (fun i hi=>?_)))))))))
 exact fg _
 refine ah (af (aT Z (js Z (eh Z (js Z (jn (ar Z (fun z20=>?_) (fun z20=>?_))))))))
 try simp only[bL]at z20
 refine al (ah (ak (ag ?_)))
 have hx:=gL (b:=g) (wc.1 (List.all_eq_true.1 ht.xs _ (List.getElem_mem (show i<t.xs.length by omega))))
 rw[←am (by omega)]at hx
 refine aT Z (ac Z (sM Z Z (ac Z (aj (kW O Z Z Z Z (by omega) (by rw[Int.toNat_natCast];omega) (by rw[Int.toNat_natCast];omega)) Z (aI (HS.lit O Z Z Z) Z (aI (bX (zs:=((t.xs.map fun x=>x.tdiv g).take (i+1)).map fun n=>[.int .i64 n]) (n:=i+1) O Z Z Z Z Z Z Z Z Z Z Z Z Z Z Z Z (.row Z (by simp;omega)) Z Z (by decide) Z (by simp;omega) (by simp;omega) (by rw[List.take_succ_eq_append_getElem (by simp;omega),List.map_append,List.getElem_map,Int.toNat_natCast,am (by omega)];rfl) (by simp;omega)) Z (js Z (jn (ag (js Z (ji Z (js Z (jn ?_)))))))))))))
 refine⟨i+1,((ap [2,34] (e':=[(0,_),(2,_),(4,_),(5,_),(6,_)]) Z Z ⟨Z,Z,Z,Z,Z,aq⟩ Z).trans (ax 34 900 Z Z)),by omega,by omega⟩
 try simp only[bL]at z20
 refine bg (af ?_)
 have z0:=wc.1 ht.c
 have hq:=gL (b:=g) z0
 have hr:=i9 (b:=g) z0
 obtain rfl:i=t.xs.length:=by omega
 rw[List.take_of_length_le (by simp)]
 refine aA (Ent.freeze 900 (e':=[(2,_),(4,_),(5,_),(0,_)]) Z (.cons Z (.keep Z) (.cons Z (.keep Z) (.cons Z (.c (.row Z (by simp))) (fe [0] Z)))) (bu Z (.skip .nil))) ?_
 refine aT Z (js Z (aj (vQ Z Z Z Z) Z (js Z (jn (ah (af (aT Z (js Z (aj (vR Z Z Z Z) Z (js Z (jn (ar Z (fun z47=>?_) (fun z47=>?_)))))))))))))
 try simp only[bL]at z47
 refine ag (js Z (ji Z (js Z (aZ (ac Z (ab O Z Z Z Z (p9 (c:=_) (xs:=t.xs.map fun x=>x.tdiv g) h1 h2) (aa Z) Z Z Z Z (B0:=53000) Z Z (ac Z (jo Z (js Z (jr ?_))))))))))
 refine aC Z ?_
 rw[show cg t=k5 (t.c.tdiv g-1) (t.xs.map fun x=>x.tdiv g) by rw[hg,cg,if_neg (by omega),if_pos (by rw[←hg];exact z47)]]
 exact .tup (.cons (.agg (aK Z)) (.cons (.c .d) .nil))
 try simp only[bL]at z47
 refine al (af (ac Z (ab O Z Z Z Z (p9 (c:=_) (xs:=t.xs.map fun x=>x.tdiv g) h1 h2) (aa Z) Z Z Z Z (B0:=53000) Z Z (ac Z (jo Z (js Z (jr ?_)))))))
 refine aC Z ?_
 rw[show cg t=k5 (t.c.tdiv g) (t.xs.map fun x=>x.tdiv g) by rw[hg,cg,if_neg (by omega),if_neg (by rw[←hg];omega)]]
 exact .tup (.cons (.agg (aK Z)) (.cons (.c .d) .nil))
def ej(ts:List Tm)(ms:List Int)(i j:Nat):List Int:=(List.range 10).map fun k=>ba (cE k) (ts.take i) (ms.take i)+(if k<j then ms.getD i default*(ts.getD i default).xs.getD k 0 else 0)
theorem da{ts ms i j}:(ej ts ms i j).length=10:=by simp[ej]
theorem ph{ts ms i}:ej ts ms i 0=bC (ts.take i) (ms.take i):=by simp[ej,bC]
theorem mo{ts ms i j}(h:j<10):(ej ts ms i j).getD j default=ba (cE j) (ts.take i) (ms.take i):=by
 rw[am (by rw[da];exact h)]
 simp[ej]
theorem pi{ts ms i j}(h:j<10):(ej ts ms i j).set j ((ej ts ms i j).getD j default+ms.getD i default*(ts.getD i default).xs.getD j default)=ej ts ms i (j+1):=by
 rw[mo h]
 apply List.ext_getElem?
 intro k
 rw[List.getElem?_set]
 by_cases hk:k<10
 by_cases e:j=k
 subst e
 rw[if_pos Z,if_pos (by rw[da];exact h)]
 simp[ej,h]
 rw[if_neg e]
 have h3:(k<j+1)=(k<j):=by apply propext;omega
 simp only[ej,List.getElem?_map,List.getElem?_range hk,Option.map_some,h3]
 have h1:(ej ts ms i j)[k]? = none:=List.getElem?_eq_none (by rw[da];omega)
 have h2:(ej ts ms i (j+1))[k]? = none:=List.getElem?_eq_none (by rw[da];omega)
 rw[if_neg (by omega),h1,h2]
theorem qU{ts ms i j}(h1:i<ts.length)(h2:i<ms.length)(h:(ts.getD i default).xs.length≤j):ej ts ms i j=bC (ts.take (i+1)) (ms.take (i+1)):=by
 unfold ej bC
 apply List.map_congr_left
 intro k hk
 rw[dv h1 h2]
 by_cases e:k<j
 rw[if_pos e]
 rw[if_neg e]
 show _+0=_+_*(ts.getD i default).xs.getD k 0
 rw[show(ts.getD i default).xs.getD k 0=0 by rw[List.getD_eq_getElem?_getD,List.getElem?_eq_none (by omega)];rfl,Int.mul_zero]
theorem lN{ts ms}:(bC ts ms).length=10:=by simp[bC]
structure CtxOk(ctx:List Tm):Prop where
  ok: ∀t∈ctx,t.ok=true
  len:ctx.length≤1000
theorem CtxOk.get{ctx:List Tm}(h:CtxOk ctx){i:Nat}(hi:i<ctx.length):(ctx.getD i default).ok=true:=by rw[am hi];exact h.ok _ (List.getElem_mem hi)
theorem t8{ms:List Int}(h:ms.all co=true):ms.all dT=true:=by
 rw[List.all_eq_true]at h ⊢
 intro x hx
 have:=h x hx
 simp only[co,aN,decide_eq_true_eq]at this
 exact wc.2 (by omega)
end Go.Al
