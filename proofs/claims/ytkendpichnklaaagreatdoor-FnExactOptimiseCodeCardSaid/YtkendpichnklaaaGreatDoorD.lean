/- Contracts of the functions that copy, compare, mark and measure; the reference's functions for bQ. -/
import Derived.Test.YtkendpichnklaaaGreatDoorProg
import Derived.Test.YtkendpichnklaaaGreatDoorC
import Derived.Test.YtkendpichnklaaaGreatDoorRows
set_option linter.unusedVariables false
set_option linter.unusedSimpArgs false
set_option maxRecDepth 10000
set_option maxHeartbeats 4000000
open Go.Proofs
/- The table of the types that the functions of this seat use, and its proof. -/
namespace Go.Al
variable{L:Nat}(h1:4096≤L)(h2:L≤1073741824)
def tt:List (Nat×TI):=[
  (2,⟨4,false,0,1,8,[.int .i64 0],[]⟩),
  (3,⟨4,false,0,1,8,[.int .i64 0],[]⟩),
  (4,⟨5,false,0,1,1,[.bool false],[]⟩),
  (5,⟨4,false,0,1,1,[.int .u8 0],[]⟩),
  (9,⟨2,false,0,1,16,[.str ByteArray.empty],[]⟩),
  (22,⟨1,false,60,1,24,[.nils],[]⟩),
  (23,⟨1,false,75,1,24,[.nils],[]⟩),
  (24,⟨1,false,63,1,24,[.nils],[]⟩),
  (26,⟨3,true,0,4,96,[.nils,.nils,.nils,.nils],[(0,1),(1,1),(2,1),(3,1)]⟩),
  (28,⟨1,false,70,1,24,[.nils],[]⟩),
  (29,⟨1,false,73,1,24,[.nils],[]⟩),
  (30,⟨1,false,68,1,24,[.nils],[]⟩),
  (32,⟨3,true,0,4,96,[.nils,.nils,.nils,.nils],[(0,1),(1,1),(2,1),(3,1)]⟩),
  (58,⟨1,false,2,1,24,[.nils],[]⟩),
  (60,⟨3,true,0,2,32,[.int .i64 0,.nils],[(0,1),(1,1)]⟩),
  (63,⟨3,true,0,2,32,[.int .i64 0,.nils],[(0,1),(1,1)]⟩),
  (68,⟨3,true,0,2,32,[.int .i64 0,.nils],[(0,1),(1,1)]⟩),
  (70,⟨3,true,0,2,32,[.int .i64 0,.nils],[(0,1),(1,1)]⟩),
  (73,⟨3,true,0,2,16,[.int .i64 0,.int .i64 0],[(0,1),(1,1)]⟩),
  (75,⟨3,true,0,2,16,[.int .i64 0,.int .i64 0],[(0,1),(1,1)]⟩),
  (81,⟨1,false,9,1,24,[.nils],[]⟩),
  (88,⟨8,false,0,1,8,[.nilm],[]⟩),
  (89,⟨1,false,4,1,24,[.nils],[]⟩),
  (118,⟨6,false,0,1,8,[.nilp],[]⟩),
  (119,⟨1,false,5,1,24,[.nils],[]⟩),
  (121,⟨3,true,0,2,32,[.nilp,.nils],[(0,1),(1,1)]⟩),
  (138,⟨6,false,0,1,8,[.nilp],[]⟩),
  (148,⟨4,false,0,1,8,[.int .u64 0],[]⟩),
  (151,⟨4,false,0,1,8,[.int .u64 0],[]⟩),
  (157,⟨4,false,0,1,8,[.int .i64 0],[]⟩),
  (166,⟨4,false,0,1,4,[.int .u32 0],[]⟩),
  (172,⟨4,false,0,1,8,[.int .u64 0],[]⟩)
]
theorem tt2:TIok Tryz.prog 2 ⟨4,false,0,1,8,[.int .i64 0],[]⟩:=(by constructor<;>kernel_rfl)
theorem tt3:TIok Tryz.prog 3 ⟨4,false,0,1,8,[.int .i64 0],[]⟩:=(by constructor<;>kernel_rfl)
theorem tt4:TIok Tryz.prog 4 ⟨5,false,0,1,1,[.bool false],[]⟩:=(by constructor<;>kernel_rfl)
theorem tt5:TIok Tryz.prog 5 ⟨4,false,0,1,1,[.int .u8 0],[]⟩:=(by constructor<;>kernel_rfl)
theorem tt9:TIok Tryz.prog 9 ⟨2,false,0,1,16,[.str ByteArray.empty],[]⟩:=(by constructor<;>kernel_rfl)
theorem xL:TIok Tryz.prog 22 ⟨1,false,60,1,24,[.nils],[]⟩:=(by constructor<;>kernel_rfl)
theorem xK:TIok Tryz.prog 23 ⟨1,false,75,1,24,[.nils],[]⟩:=(by constructor<;>kernel_rfl)
theorem xJ:TIok Tryz.prog 24 ⟨1,false,63,1,24,[.nils],[]⟩:=(by constructor<;>kernel_rfl)
theorem xI:TIok Tryz.prog 26 ⟨3,true,0,4,96,[.nils,.nils,.nils,.nils],[(0,1),(1,1),(2,1),(3,1)]⟩:=(by constructor<;>kernel_rfl)
theorem xH:TIok Tryz.prog 28 ⟨1,false,70,1,24,[.nils],[]⟩:=(by constructor<;>kernel_rfl)
theorem xG:TIok Tryz.prog 29 ⟨1,false,73,1,24,[.nils],[]⟩:=(by constructor<;>kernel_rfl)
theorem xF:TIok Tryz.prog 30 ⟨1,false,68,1,24,[.nils],[]⟩:=(by constructor<;>kernel_rfl)
theorem xE:TIok Tryz.prog 32 ⟨3,true,0,4,96,[.nils,.nils,.nils,.nils],[(0,1),(1,1),(2,1),(3,1)]⟩:=(by constructor<;>kernel_rfl)
theorem xD:TIok Tryz.prog 58 ⟨1,false,2,1,24,[.nils],[]⟩:=(by constructor<;>kernel_rfl)
theorem xC:TIok Tryz.prog 60 ⟨3,true,0,2,32,[.int .i64 0,.nils],[(0,1),(1,1)]⟩:=(by constructor<;>kernel_rfl)
theorem xB:TIok Tryz.prog 63 ⟨3,true,0,2,32,[.int .i64 0,.nils],[(0,1),(1,1)]⟩:=(by constructor<;>kernel_rfl)
theorem xA:TIok Tryz.prog 68 ⟨3,true,0,2,32,[.int .i64 0,.nils],[(0,1),(1,1)]⟩:=(by constructor<;>kernel_rfl)
theorem xz:TIok Tryz.prog 70 ⟨3,true,0,2,32,[.int .i64 0,.nils],[(0,1),(1,1)]⟩:=(by constructor<;>kernel_rfl)
theorem xy:TIok Tryz.prog 73 ⟨3,true,0,2,16,[.int .i64 0,.int .i64 0],[(0,1),(1,1)]⟩:=(by constructor<;>kernel_rfl)
theorem xx:TIok Tryz.prog 75 ⟨3,true,0,2,16,[.int .i64 0,.int .i64 0],[(0,1),(1,1)]⟩:=(by constructor<;>kernel_rfl)
theorem xw:TIok Tryz.prog 81 ⟨1,false,9,1,24,[.nils],[]⟩:=(by constructor<;>kernel_rfl)
theorem xv:TIok Tryz.prog 88 ⟨8,false,0,1,8,[.nilm],[]⟩:=(by constructor<;>kernel_rfl)
theorem xu:TIok Tryz.prog 89 ⟨1,false,4,1,24,[.nils],[]⟩:=(by constructor<;>kernel_rfl)
theorem vY:TIok Tryz.prog 118 ⟨6,false,0,1,8,[.nilp],[]⟩:=(by constructor<;>kernel_rfl)
theorem vX:TIok Tryz.prog 119 ⟨1,false,5,1,24,[.nils],[]⟩:=(by constructor<;>kernel_rfl)
theorem vW:TIok Tryz.prog 121 ⟨3,true,0,2,32,[.nilp,.nils],[(0,1),(1,1)]⟩:=(by constructor<;>kernel_rfl)
theorem vV:TIok Tryz.prog 138 ⟨6,false,0,1,8,[.nilp],[]⟩:=(by constructor<;>kernel_rfl)
theorem vU:TIok Tryz.prog 148 ⟨4,false,0,1,8,[.int .u64 0],[]⟩:=(by constructor<;>kernel_rfl)
theorem vT:TIok Tryz.prog 151 ⟨4,false,0,1,8,[.int .u64 0],[]⟩:=(by constructor<;>kernel_rfl)
theorem vS:TIok Tryz.prog 157 ⟨4,false,0,1,8,[.int .i64 0],[]⟩:=(by constructor<;>kernel_rfl)
theorem vR:TIok Tryz.prog 166 ⟨4,false,0,1,4,[.int .u32 0],[]⟩:=(by constructor<;>kernel_rfl)
theorem vQ:TIok Tryz.prog 172 ⟨4,false,0,1,8,[.int .u64 0],[]⟩:=(by constructor<;>kernel_rfl)
theorem vP:TTok Tryz.prog tt:=⟨tt2,tt3,tt4,tt5,tt9,xL,xK,xJ,xI,xH,xG,xF,xE,xD,xC,xB,xA,xz,xy,xx,xw,xv,xu,vY,vX,vW,vV,vU,vT,vS,vR,vQ,aj⟩
theorem rR:TTplain tt=true:=by kernel_rfl
theorem uw:Tryz.prog.follows .mixedOrders=true:=by kernel_rfl
theorem af{σ:Sg}{Q:Exit→St→Prop}{s:St}{id:Nat}{l:List Oper}{y:Code}(h:AOps σ l.toArray (jz (AWP σ y Q) Q) l s):AWP σ (.seq (.region id l.toArray false) y) Q s:=AWP.seq (AWP.region h)
theorem jn{σ:Sg}{Q:Exit→St→Prop}{s:St}{all:Array Oper}(h:Q .normal s):AOps σ all Q [] s:=AOps.nil h
theorem bm{σ:Sg}{Q:Exit→St→Prop}{s:St}{all:Array Oper}{id:Nat}{l:List Oper}{y:Code}(h:AOps σ l.toArray (jz (AWP σ y Q) Q) l s):AOps σ all (jz (AWP σ (.seq (.region id l.toArray false) y) Q) Q) [] s:=AOps.nil (AWP.seq (AWP.region h))
theorem aS:(∀{α β:Type} {f:α→β} {l:List α},(l.map f).length=l.length)∧(∀{α:Type} [BEq α] [LawfulBEq α] {a b:α},(a==b)=true↔a=b)∧(∀{p:Prop} [Decidable p],(decide p=true)=p)∧(∀{p:Prop} [Decidable p],(decide p=false)↔¬p)∧(∀{b:Bool},((!b)=true)=(b=false))∧(∀{b:Bool},((!b)=false)=(b=true))∧((!true)=false)∧((!false)=true)∧(∀{a b:Int},¬a<b↔b≤a)∧(∀{a b:Int},¬a≤b↔b<a):=by
 refine⟨?_,?_,?_,?_,?_,?_,?_,?_,?_,?_⟩<;>intros<;>simp
theorem aA{σ:Sg}{Q:b0}{all:Array Oper}{l:List Oper}{e:List (Nat×A)}{H H':List (Nat×B)}(K:AOps σ all Q l ⟨e,H'⟩)(h:HN H H':=by repeat' (first|apply HN.cons rfl|exact HN.nil rfl|exact BN.row rfl|exact BN.map rfl|apply BN.box rfl|apply MN.cons rfl|exact MN.nil rfl|exact XN.d rfl|exact XN.rs rfl|exact mu)):AOps σ all Q l ⟨e,H⟩:=qN h K
theorem ld{σ:Sg}{Q:Exit→St→Prop}{c:Code}{e:List (Nat×A)}{H H':List (Nat×B)}(K:AWP σ c Q ⟨e,H'⟩)(h:HN H H':=by repeat' (first|apply HN.cons rfl|exact HN.nil rfl|exact BN.row rfl|exact BN.map rfl|apply BN.box rfl|apply MN.cons rfl|exact MN.nil rfl|exact XN.d rfl|exact XN.rs rfl|exact mu)):AWP σ c Q ⟨e,H⟩:=sF h K
def vf(e:List (Nat×A)):List Nat→Option (List (Nat×A))
  | []=>some []
  | k :: ks=>match lk e k,vf e ks with
    | some v,some r=>some ((k,v)::r)
    | _,_=>none
theorem mg{e:List (Nat×A)}: ∀{ks:List Nat} {e':List (Nat×A)},vf e ks=some e'→envSub e e'
 | [],e',h=>by cases h;trivial
 | k::ks,e',h=>by
  unfold vf at h
  split at h
  rename_i v r h1 h2
  cases h
  exact⟨h1,mg h2⟩
  cases h
theorem jf{σ:Sg}{Q:Exit→St→Prop}{all:Array Oper}{l:List Oper}{e e':List (Nat×A)}{H:List (Nat×B)}(ks:List Nat)(h:vf e ks=some e')(K:AOps σ all Q l ⟨e',H⟩):AOps σ all Q l ⟨e,H⟩:=nU e' (mg h) K
theorem jw{σ:Sg}{Q:Exit→St→Prop}{c:Code}{e e':List (Nat×A)}{H:List (Nat×B)}(ks:List Nat)(h:vf e ks=some e')(K:AWP σ c Q ⟨e',H⟩):AWP σ c Q ⟨e,H⟩:=oQ e' (mg h) K


noncomputable abbrev SG(L nt:Nat):Sg:=⟨Tryz.prog,tt,L,nt,[]⟩
theorem ll{L nt}(h1:4096≤L)(h2:L≤9223372036854775807):SgOk (SG L nt):=⟨vP,rR,h1,h2,uw⟩
theorem jB{L f:Nat}{fn:Func}{c:Code}{args:List A}{Q:A→List (Nat×B)→Prop}(nt:Nat)(h1:4096≤L)(h2:L≤1073741824)(hf:Tryz.prog.funcs[f]? = some fn)(hz:(fn.body,fn.ntmps,Nat.ble args.length nt)=(some c,nt,true))(h:SgOk (SG L nt)→As.fact L args→AWP (SG L nt) c (fun e s=>(e= .ret∨e= .normal)∧∃s2,Ent (SG L nt) s s2∧∃res,dw tt s2 fn.results.toList=some res∧Q res s2.H) ⟨bN 0 args,[]⟩)(hn:(fn.name== "runtime.NumGoroutine")=false:=by kernel_rfl):MC Tryz.prog L f args [] Q:=have hσ:=ll (nt:=nt) h1 (Nat.le_trans h2 (by decide));have hz:=Prod.mk.inj hz;have hy:=Prod.mk.inj hz.2;MC.body hσ hf hn hz.1 hy.1 (Nat.le_of_ble_eq_true hy.2) (h hσ)
theorem jH{L f:Nat}{fn:Func}{c:Code}{args:List A}{Hin:List (Nat×B)}{Q:A→List (Nat×B)→Prop}(nt:Nat)(ks:List Nat)(h1:4096≤L)(h2:L≤1073741824)(hf:Tryz.prog.funcs[f]? = some fn)(hz:(fn.body,fn.ntmps,ks,Nat.ble args.length nt)=(some c,nt,Hin.map (·.1),true))(h:SgOk ⟨Tryz.prog,tt,L,nt,ks⟩→As.fact L args→AWP ⟨Tryz.prog,tt,L,nt,ks⟩ c (fun e s=>(e= .ret∨e= .normal)∧∃s2,Ent ⟨Tryz.prog,tt,L,nt,ks⟩ s s2∧∃res,dw tt s2 fn.results.toList=some res∧Q res s2.H) ⟨bN 0 args,Hin⟩)(hn:(fn.name== "runtime.NumGoroutine")=false:=by kernel_rfl):MC Tryz.prog L f args Hin Q:=have hσ:=mF (js:=ks) (ll (nt:=nt) h1 (Nat.le_trans h2 (by decide)));have hz:=Prod.mk.inj hz;have hy:=Prod.mk.inj hz.2;have hx:=Prod.mk.inj hy.2;sE hσ hf hn hz.1 hy.1 hx.1 (Nat.le_of_ble_eq_true hx.2) (h hσ)
abbrev MQ{L:Nat}(h1:4096≤L)(h2:L≤1073741824)(f:Nat)(ds:List A)(Hin:List (Nat×B))(Q:A→List (Nat×B)→Prop):Prop:=MC Tryz.prog L f ds Hin Q
abbrev eI(n:Int):A:=.c (.d (.int .i64 n))
abbrev eB(b:Bool):A:=.c (.d (.bool b))
abbrev ki(xs:List Int):D:=.slc 1 (xs.map fun n=>[.int .i64 n])
structure Tm where
  c:Int
  xs:List Int
  deriving Inhabited
abbrev Tm.cells(t:Tm):List D:=[.int .i64 t.c,ki t.xs]
abbrev ptr(cs:List D):A:=.c (.d (.ptr cs 0))
def fN(x:Int):Bool:=decide (-1000000≤x)&&decide (x≤1000000)
def Tm.ok(t:Tm):Bool:=!(bif (bif !fN t.c then true else decide ((10:Int)<t.xs.length))then true else bif decide ((0:Int)<t.xs.length)then decide (t.xs.getD ((t.xs.length:Int)-1).toNat default=0)else false)&&t.xs.all fN
theorem ku{α:Type}{p:α→Bool}{xs:List α}(h: ∀j (hj:j<xs.length),p xs[j]=true):xs.all p=true:=by
 rw[List.all_eq_true];intro x hx
 obtain⟨j,hj,rfl⟩:=List.mem_iff_getElem.1 hx
 exact h j hj
theorem iJ{α:Type}{p:α→Bool}{xs:List α}(j:Nat)(hj:j<xs.length)(h:p xs[j]=false):xs.all p=false:=by
 rw[List.all_eq_false];exact⟨xs[j],List.getElem_mem _,by simp[h]⟩
theorem au{α:Type}[Inhabited α]{xs:List α}{j:Nat}(hj:j<xs.length):xs.getD j default=xs[j]:=by simp[hj]

variable{x lo hi:Int}
theorem qU:MQ h1 h2 39 [eI x,eI lo,eI hi] [] (Plain (eB (decide (lo≤x)&&decide (x≤hi)))):=by
 refine av ?_ Z
 refine jB 15 h1 h2 Tryz.func39 Z fun O hF=>?_
 refine af (js Z (bm (bp Z (aX 3 Z Z Z (fun hx=>aF hx Z (aF hx Z (aF hx Z (AN.nil)))) Z Z (ak (aI O Z Z Z Z Z) Z (js Z (jr ?_)))))))
 refine aD Z ?_
 rw[Bool.cond_false_right]
theorem n5:MQ h1 h2 102 [eI x] [] (Plain (eB (fN x))):=by
 refine av ?_ Z
 refine jB 5 h1 h2 Tryz.func102 Z fun O hF=>?_
 refine af (js Z (bm (js Z (ba Z (qU h1 h2) 5000 Z (js Z (jr ?_))))))
 refine aD Z ?_
 first|rfl|skip
variable{t:Tm}
theorem yj:MQ h1 h2 70 [ptr t.cells] [] (Plain (eB t.ok)):=by
 refine av ?_ Z
 refine jB 49 h1 h2 Tryz.func70 Z fun O hF=>?_
 have hl:t.xs.length≤L:=by simpa[As.fact,A.fact,M.fact,D.fact,Ds.fact]using hF.1.2.1.1
 refine af (js Z (bm (bp Z (bP Z (js Z (jn (aa (af (bp Z (ba Z (n5 h1 h2) 15000 Z (ag Z (aX 2 Z Z Z (fun hx=>aF hx Z (aF hx Z (AN.nil))) Z Z (ak (aK O Z Z Z Z Z) Z (js Z (aX 13 Z Z Z (fun hx=>aF hx Z (aF hx Z (aF hx Z (rP 9 Z Z Z Z (fun hx'=>aF hx' Z (aF hx' Z (aF hx' Z (aF hx' Z (aF hx' Z (ed hx' (vF Z) Z (ed hx' (vD Z) Z (aF hx' Z (aF hx' Z (AN.nil)))))))))) Z Z (ed hx (aI O Z Z Z Z Z) Z (AN.nil)))))) Z Z (ak (aK O Z Z Z Z Z) Z (jn (ao Z (fun z34=>?_) (fun z34=>?_)))))))))))))))))))
 try simp only[aS]at z34
 refine af (js Z (jr ?_))
 refine aD Z ?_
 simp only[Tm.ok,z34,Bool.not_true,Bool.false_and]
 try simp only[aS]at z34
 refine ac (aa (af (js Z (jn (ah (al (X:=Nat) (fun i=>⟨[(0,ptr t.cells),(3,eI t.xs.length),(4,eI i)],[]⟩) (fun i=>i≤t.xs.length∧∀j (h:j<t.xs.length),j<i→fN t.xs[j]=true) (fun i=>t.xs.length-i) 0 (Ent.env ⟨Z,Z,Z,aj⟩) ?_ (fun i hi=>?_)))))))
 exact⟨co _,fun j h hj=>absurd hj (Nat.not_lt_zero j)⟩
 refine aa (af (bb Z (jn (ao Z (fun z37=>?_) (fun z37=>?_)))))
 try simp only[aS]at z37
 refine ac (aa (ah (af (bp Z (js Z (er Z Z (js Z (ba Z (n5 h1 h2) 48000 Z (js Z (jn (ao Z (fun z48=>?_) (fun z48=>?_))))))))))))
 try simp only[aS]at z48
 refine af (js Z (jr ?_))
 refine aD Z ?_
 rw[Int.toNat_natCast,au (by omega)]at z48
 simp only[Tm.ok,iJ i (by omega) z48,Bool.and_false]
 try simp only[aS]at z48
 refine ac (ab (js Z (ji Z (js Z (jn ?_)))))
 refine⟨i+1,Ent.env ⟨Z,Z,Z,aj⟩,⟨by omega,fun j h hj=>?_⟩,by omega⟩
 by_cases e:j=i
 subst e;rw[Int.toNat_natCast,au h]at z48;exact z48
 exact hi.2 j h (by omega)
 try simp only[aS]at z37
 refine aM (af (js Z (jr ?_)))
 refine aD Z ?_
 simp only[Tm.ok,z34,Bool.not_false,Bool.true_and]
 rw[ku (fun j hj=>hi.2 j hj (by omega))]
abbrev ce(xs:List Int):B:=.row true 1 (xs.map fun n=>[.int .i64 n])
abbrev cq(xs:List Int):A:=.c (.d (ki xs))
variable{xs:List Int}
theorem yi:MQ h1 h2 121 [cq xs] [] (Rows (.c (.rs 0 0 xs.length)) [ce xs]):=by
 refine bd (jB 6 h1 h2 Tryz.func121 Z fun O hF=>?_)
 have hl:xs.length≤L:=by simpa[As.fact,A.fact,M.fact,D.fact,Ds.fact]using hF.1.1
 refine ?_
 refine af (js Z (bm (bc (HS.lit O Z Z Z) Z (js Z (bc (lq (own:=true) O Z (.row Z Z) (.slc (.inr (Scal.map (fun _=>rfl)))) (by simp) Z (by first|omega|(dsimp only[aQ,dF,List.length_nil];omega)|(simp only[aS]at *;omega)|(simp;omega)) (by first|omega|(dsimp only[aQ,dF,List.length_nil];omega)|(simp only[aS]at *;omega)|(simp;omega)) Z Z) Z (js Z (jr ?_)))))))
 refine⟨.inl Z,_,bt,_,Z,[5],by decide,Z,?_,?_⟩
 simp[A.lab,M.lab]
 rfl
theorem yg:MQ h1 h2 113 [cq xs] [] (Rows (.c (.rs 0 0 xs.length)) [ce xs]):=by
 refine bd (jB 6 h1 h2 Tryz.func113 Z fun O hF=>?_)
 have hl:xs.length≤L:=by simpa[As.fact,A.fact,M.fact,D.fact,Ds.fact]using hF.1.1
 refine ?_
 refine af (js Z (bm (bc (HS.lit O Z Z Z) Z (js Z (bc (lq (own:=true) O Z (.row Z Z) (.slc (.inr (Scal.map (fun _=>rfl)))) (by simp) Z (by first|omega|(dsimp only[aQ,dF,List.length_nil];omega)|(simp only[aS]at *;omega)|(simp;omega)) (by first|omega|(dsimp only[aQ,dF,List.length_nil];omega)|(simp only[aS]at *;omega)|(simp;omega)) Z Z) Z (js Z (jr ?_)))))))
 refine⟨.inl Z,_,bt,_,Z,[5],by decide,Z,?_,?_⟩
 simp[A.lab,M.lab]
 rfl
theorem c61:MQ h1 h2 78 [cq xs] [] (Rows (.c (.rs 0 0 xs.length)) [ce xs]):=by
 refine bd (jB 22 h1 h2 Tryz.func78 Z fun O hF=>?_)
 have hl:xs.length≤L:=by simpa[As.fact,A.fact,M.fact,D.fact,Ds.fact]using hF.1.1
 refine af (js Z (bm (js Z (bP Z (bc (fo O Z Z Z Z Z Z Z Z Z (by first|omega|(simp at *;omega)) (by first|omega|(simp at *;omega)) (by first|omega|(simp at *;omega)) (by first|omega|(dsimp only;omega)|(simp only[aS]at *;omega)) (by first|omega|(simp at *;omega)) Z Z Z) Z (js Z (jn (aa (af (js Z (jn (ah (al (X:=Nat×List Int) (fun x=>⟨[(0,cq xs),(3,.c (.rs 7 0 xs.length)),(4,eI x.1)],[(7,ce x.2)]⟩) (fun x=>x.1≤xs.length∧x.2.length=xs.length∧∀j,j<x.1→x.2[j]? = xs[j]?) (fun x=>xs.length-x.1) (0,List.replicate xs.length 0) (Ent.to ⟨Z,Z,Z,aj⟩ (by simp[ins,ce])) ?_ (fun x hi=>?_))))))))))))))
 exact⟨co _,List.length_replicate,fun j hj=>absurd hj (Nat.not_lt_zero j)⟩
 refine aa (af (ag Z (bP Z (js Z (jn (ao Z (fun z11=>?_) (fun z11=>?_)))))))
 try simp only[aS]at z11
 refine ac (aa (ah (ab (bp Z (er Z Z (js Z (aR Z Z (bc (bl (ex:=[.int .i64 (x.2.getD x.1 default)]) (xs':=(x.2.set x.1 (xs.getD x.1 default)).map fun n=>[.int .i64 n]) O Z Z Z Z Z Z Z Z Z Z Z Z Z Z (by simp[hi.2.1,show x.1<xs.length by omega]) (by simp[List.map_set])) Z (jn (ab (js Z (ji Z (js Z (jn ?_))))))))))))))
 refine⟨(x.1+1,x.2.set x.1 (xs.getD x.1 default)),Ent.to ⟨Z,Z,Z,aj⟩ Z,⟨by omega,by simp[hi.2.1],fun j hj=>?_⟩,by omega⟩
 rw[List.getElem?_set]
 split
 rename_i e;subst e;simp[hi.2.1,show x.1<xs.length by omega]
 exact hi.2.2 j (by omega)
 try simp only[aS]at z11
 refine aM (af (ag Z (jr ?_)))
 have e:x.2=xs:=List.ext_getElem? fun j=>by
  rcases Nat.lt_or_ge j x.1 with h|h
  ·
   exact hi.2.2 j h
  ·
   rw[List.getElem?_eq_none (by omega),List.getElem?_eq_none (by omega)]
 refine⟨.inl Z,_,bt,_,Z,[7],by decide,Z,Z,?_⟩
 rw[←e];rfl

theorem c15{ys:List Int}:MQ h1 h2 101 [cq xs,cq ys] [] (Plain (eB (decide (xs=ys)))):=by
 refine av ?_ Z
 refine jB 26 h1 h2 Tryz.func101 Z fun O hF=>?_
 have hl:xs.length≤L:=by simpa[As.fact,A.fact,M.fact,D.fact,Ds.fact]using hF.1.1
 have hl2:ys.length≤L:=by simpa[As.fact,A.fact,M.fact,D.fact,Ds.fact]using hF.2.1.1
 refine af (js Z (jn (aa (af (js Z (bP Z (js Z (bP Z (js Z (jn (ao Z (fun z10=>?_) (fun z10=>?_))))))))))))
 try simp only[aS]at z10
 refine af (js Z (jr ?_))
 refine aD Z ?_
 rw[decide_eq_false (fun e=>by subst e;simp at z10)]
 try simp only[aS]at z10
 refine ac (aa (af (js Z (jn (ah (al (X:=Nat) (fun i=>⟨[(0,cq xs),(1,cq ys),(5,eI i)],[]⟩) (fun i=>i≤xs.length∧∀j,j<i→xs[j]? = ys[j]?) (fun i=>xs.length-i) 0 (Ent.env ⟨Z,Z,Z,aj⟩) ?_ (fun i hi=>?_)))))))
 exact⟨co _,fun j hj=>absurd hj (Nat.not_lt_zero j)⟩
 refine aa (af (ag Z (bP Z (js Z (jn (ao Z (fun z14=>?_) (fun z14=>?_)))))))
 try simp only[aS]at z14
 refine ac (aa (ah (aa (gK [_,_,_,_,_,_,_,_,_] [aN,aN,ar [0,1],ar [0,1,2],aN,aN,ar [4,5],ar [4,5,6],ar (rg 0 8)] [] [_] (kc Z (kc Z (ai (vD Z) (kc Z (kc Z (kc Z (ai (vD Z) (kc Z (kc Z trivial))))))))) ?_))))
 refine ao Z (fun z25=>?_) (fun z25=>?_)
 try simp only[aS]at z25
 refine af (js Z (jr ?_))
 refine aD Z ?_
 rw[decide_eq_false (fun e=>by subst e;simp at z25)]
 try simp only[aS]at z25
 refine ac (ab (js Z (ji Z (js Z (jn ?_)))))
 refine⟨i+1,Ent.env ⟨Z,Z,Z,aj⟩,⟨by omega,fun j hj=>?_⟩,by omega⟩
 rcases Nat.lt_or_ge j i with h|h
 exact hi.2 j h
 obtain rfl:j=i:=by omega
 rw[Int.toNat_natCast,au (by omega),au (by omega)]at z25
 rw[List.getElem?_eq_getElem (by omega),List.getElem?_eq_getElem (by omega),z25]
 try simp only[aS]at z14
 refine aM (af (js Z (jr ?_)))
 refine aD Z ?_
 have e:xs=ys:=List.ext_getElem? fun j=>by
  rcases Nat.lt_or_ge j i with h|h
  ·
   exact hi.2 j h
  ·
   rw[List.getElem?_eq_none (by omega),List.getElem?_eq_none (by omega)]
 rw[decide_eq_true e]
deriving instance DecidableEq for Tm
abbrev xc(t:Tm):A:=.agg [.d (.int .i64 t.c),.d (ki t.xs)]
abbrev oV(ts:List Tm):D:=.slc 2 (ts.map Tm.cells)
abbrev ff(ts:List Tm):A:=.c (.d (oV ts))
abbrev bA(ts:List Tm):B:=.row true 2 (ts.map Tm.cells)

theorem c87:MQ h1 h2 46 [xc t] [] (Rows (.agg [.d (.int .i64 t.c),.rs 0 0 t.xs.length]) [ce t.xs]):=by
 refine bd (jB 12 h1 h2 Tryz.func46 Z fun O hF=>?_)
 refine af (jx Z (jl Z (bm (jl Z (bm (bb Z (jo Z (bm (ag Z (aC O (B0:=10000) Z Z Z Z (c61 h1 h2) (ae Z) Z Z Z Z Z Z (js Z (jo Z (bm (js Z (jo Z (jr ?_))))))))))))))))
 refine⟨.inl Z,_,bt,_,Z,[10000],by decide,Z,Z,Z⟩
theorem c92{s:Tm}:MQ h1 h2 63 [xc s,xc t] [] (Plain (eB (decide (s=t)))):=by
 refine av ?_ Z
 refine jB 16 h1 h2 Tryz.func63 Z fun O hF=>?_
 refine af (jx Z (jx Z (js Z (jn (aa (af (bp Z (js Z (jn (ao Z (fun z9=>?_) (fun z9=>?_)))))))))))
 try simp only[aS]at z9
 refine af (js Z (jr ?_))
 refine aD Z ?_
 rw[decide_eq_false (fun e=>z9 (by rw[e]))]
 try simp only[aS]at z9
 refine ac (aa (af (bp Z (ba Z (c15 h1 h2) 15000 Z (js Z (jn (ao Z (fun z15=>?_) (fun z15=>?_))))))))
 try simp only[aS]at z15
 refine af (js Z (jr ?_))
 refine aD Z ?_
 rw[decide_eq_false (fun e=>z15 (by rw[e]))]
 try simp only[aS]at z15
 refine ac (af (js Z (jr ?_)))
 refine aD Z ?_
 have e:s=t:=by cases s;cases t;simp_all
 rw[decide_eq_true e]
def eL(left:Int)(n:Nat):Int:=if left<n then -1 else left-n
def Tm.size(t:Tm):Nat:=t.xs.length

theorem c54{L:Nat}(h1:4096≤L)(h2:L≤9223372036854775807){xs:List Int}{left:Int}(hl0:0≤left)(hl1:left≤1048576):MC Tryz.prog L 68 [cq xs,eI left] [] (Plain (eI (eL left xs.length))):=by
 refine av ?_ Z
 have O:=ll (nt:=12) h1 h2
 refine MC.body O Tryz.func68 (by kernel_rfl) Z Z (Nat.le_of_ble_eq_true Z) (fun hF=>?_)
 have hl:xs.length≤L:=by simpa[As.fact,A.fact,M.fact,D.fact,Ds.fact]using hF.1.1
 refine af (js Z (bm (ag Z (bP Z (ji Z (js Z (jn (aa (af (ag Z (jn (ao Z (fun z10=>?_) (fun z10=>?_)))))))))))))
 try simp only[aS]at z10
 refine af (js Z (jr ?_))
 refine aD Z ?_
 rw[show eL left xs.length= -1 from if_pos (by omega)]
 try simp only[aS]at z10
 refine ac (af (ag Z (jr ?_)))
 refine aD Z ?_
 rw[show eL left xs.length=left-xs.length from if_neg (by omega)]
theorem c80{L:Nat}(h1:4096≤L)(h2:L≤9223372036854775807){t:Tm}{left:Int}(hl0:0≤left)(hl1:left≤1048576):MC Tryz.prog L 35 [xc t,eI left] [] (Plain (eI (eL left t.size))):=by
 refine av ?_ Z
 have O:=ll (nt:=12) h1 h2
 refine MC.body O Tryz.func35 (by kernel_rfl) Z Z (Nat.le_of_ble_eq_true Z) (fun hF=>?_)
 refine af (jx Z (js Z (bm (bb Z (ba Z (c54 h1 h2 hl0 hl1) 9000 Z (js Z (jn (aa (af (ag Z (jn (ao Z (fun z10=>?_) (fun z10=>?_)))))))))))))
 try simp only[aS]at z10
 refine af (js Z (jr ?_))
 refine aD Z ?_
 have:eL left t.size= -1:=by unfold eL Tm.size at *;split at z10<;>simp_all<;>omega
 rw[this]
 try simp only[aS]at z10
 refine ac (af (ag Z (jr ?_)))
 refine aD Z ?_
 rfl
def szs{α:Type}(f:α→Nat)(xs:List α):Nat:=xs.length+(xs.map f).sum
theorem iN{α:Type}[Inhabited α](f:α→Nat)(xs:List α)(i:Nat)(h:i<xs.length):((xs.take (i+1)).map f).sum=((xs.take i).map f).sum+f (xs.getD i default):=by
 rw[List.take_add_one,List.map_append,List.sum_append,List.getElem?_eq_getElem h]
 simp[h]
theorem rv{α:Type}(f:α→Nat)(xs:List α)(i:Nat):((xs.take i).map f).sum≤(xs.map f).sum:=by
 conv=>rhs;rw[←List.take_append_drop i xs,List.map_append,List.sum_append]
 omega
theorem xm{L:Nat}(h1:4096≤L)(h2:L≤9223372036854775807){ts:List Tm}{left:Int}(hl0:0≤left)(hl1:left≤1048576):MC Tryz.prog L 11 [ff ts,eI left] [] (Plain (eI (eL left (Al.szs Tm.size ts)))):=by
 refine av ?_ Z
 have O:=ll (nt:=27) h1 h2
 refine MC.body O Tryz.func11 (by kernel_rfl) Z Z (Nat.le_of_ble_eq_true Z) (fun hF=>?_)
 have hl:ts.length≤L:=by simpa[As.fact,A.fact,M.fact,D.fact,Ds.fact]using hF.1.1
 refine af (js Z (bm (ag Z (bP Z (ji Z (js Z (jn (aa (af (ag Z (jn (ao Z (fun z11=>?_) (fun z11=>?_)))))))))))))
 try simp only[aS]at z11
 refine af (js Z (jr ?_))
 refine aD Z ?_
 rw[show eL left (Al.szs Tm.size ts)= -1 from if_pos (by unfold Al.szs;omega)]
 try simp only[aS]at z11
 refine ac (aa (af (js Z (jn (ah (al (X:=Nat) (fun i=>⟨[(0,ff ts),(1,eI (left-ts.length-((ts.take i).map Tm.size).sum)),(5,eI i)],[]⟩) (fun i=>i≤ts.length∧(0:Int)≤left-ts.length-((ts.take i).map Tm.size).sum) (fun i=>ts.length-i) 0 (Ent.env ⟨Z,by simp[aw],Z,aj⟩) ?_ (fun i hi=>?_)))))))
 exact⟨co _,by simp;omega⟩
 refine aa (af (ag Z (bP Z (js Z (jn (ao Z (fun z15=>?_) (fun z15=>?_)))))))
 try simp only[aS]at z15
 refine ac (aa (ah (af (ag Z (er Z Z (ag Z (ba Z (c80 h1 h2 hi.2 (by omega)) 24000 Z (js Z (bm (ag Z (jn (ao Z (fun z25=>?_) (fun z25=>?_)))))))))))))
 try simp only[aS]at z25
 refine af (js Z (jr ?_))
 refine aD Z ?_
 have e:=iN Tm.size ts i (by omega)
 have e3:=rv Tm.size ts (i+1)
 rw[Int.toNat_natCast]at z25
 rw[show eL left (Al.szs Tm.size ts)= -1 from if_pos (by unfold eL at z25;unfold Al.szs;split at z25<;>omega)]
 try simp only[aS]at z25
 refine ac (ab (js Z (ji Z (js Z (jn ?_)))))
 have e:=iN Tm.size ts i (by omega)
 have e2:eL (left-ts.length-((ts.take i).map Tm.size).sum) (ts.getD i default).size=left-ts.length-((ts.take (i+1)).map Tm.size).sum:=by
  unfold eL at z25 ⊢
  rw[Int.toNat_natCast]at z25
  split at z25<;>omega
 refine⟨i+1,Ent.env ⟨Z,?_,Z,aj⟩,⟨by omega,?_⟩,by omega⟩
 rw[←e2];rfl
 rw[←e2];rw[Int.toNat_natCast]at z25;omega
 try simp only[aS]at z15
 refine aM (af (ag Z (jr ?_)))
 refine aD Z ?_
 obtain rfl:i=ts.length:=by omega
 have e4:=hi.2
 rw[List.take_length]at e4 ⊢
 rw[show eL left (Al.szs Tm.size ts)=left-ts.length-(ts.map Tm.size).sum from by unfold eL Al.szs;rw[if_neg (by omega)];omega]

theorem xo{xs ys:List Tm}:MQ h1 h2 26 [ff xs,ff ys] [] (Plain (eB (decide (xs=ys)))):=by
 refine av ?_ Z
 refine jB 27 h1 h2 Tryz.func26 Z fun O hF=>?_
 have hl:xs.length≤L:=by simpa[As.fact,A.fact,M.fact,D.fact,Ds.fact]using hF.1.1
 have hl2:ys.length≤L:=by simpa[As.fact,A.fact,M.fact,D.fact,Ds.fact]using hF.2.1.1
 refine af (js Z (jn (aa (af (js Z (bP Z (js Z (bP Z (js Z (jn (ao Z (fun z10=>?_) (fun z10=>?_))))))))))))
 try simp only[aS]at z10
 refine af (js Z (jr ?_))
 refine aD Z ?_
 rw[decide_eq_false (fun e=>by subst e;simp at z10)]
 try simp only[aS]at z10
 refine ac (aa (af (js Z (jn (ah (al (X:=Nat) (fun i=>⟨[(0,ff xs),(1,ff ys),(5,eI i)],[]⟩) (fun i=>i≤xs.length∧∀j,j<i→xs[j]? = ys[j]?) (fun i=>xs.length-i) 0 (Ent.env ⟨Z,Z,Z,aj⟩) ?_ (fun i hi=>?_)))))))
 exact⟨co _,fun j hj=>absurd hj (Nat.not_lt_zero j)⟩
 refine aa (af (ag Z (bP Z (js Z (jn (ao Z (fun z14=>?_) (fun z14=>?_)))))))
 try simp only[aS]at z14
 refine ac (aa (ah (aa (gK [_,_,_,_,_,_,_,_,_,_] [aN,aN,ar [0,1],ar [0,1,2],aN,aN,ar [4,5],ar [4,5,6],pe (rg 0 8) 0,pn (rg 0 9) 1 1] [8] [_,_] (kc Z (kc Z (ai (vD Z) (kc Z (kc Z (kc Z (ai (vD Z) (kc Z (ai (aG O (B0:=26000) Z Z Z Z (c92 h1 h2) (ae Z) Z Z Z Z Z) (kc Z trivial)))))))))) ?_))))
 refine ao Z (fun z26=>?_) (fun z26=>?_)
 try simp only[aS]at z26
 refine af (js Z (jr ?_))
 refine aD Z ?_
 rw[decide_eq_false (fun e=>by subst e;simp at z26)]
 try simp only[aS]at z26
 refine ac (ab (js Z (ji Z (js Z (jn ?_)))))
 refine⟨i+1,Ent.env ⟨Z,Z,Z,aj⟩,⟨by omega,fun j hj=>?_⟩,by omega⟩
 rcases Nat.lt_or_ge j i with h|h
 exact hi.2 j h
 obtain rfl:j=i:=by omega
 rw[Int.toNat_natCast,au (by omega),au (by omega)]at z26
 rw[List.getElem?_eq_getElem (by omega),List.getElem?_eq_getElem (by omega),z26]
 try simp only[aS]at z14
 refine aM (af (js Z (jr ?_)))
 refine aD Z ?_
 have e:xs=ys:=List.ext_getElem? fun j=>by
  rcases Nat.lt_or_ge j i with h|h
  ·
   exact hi.2 j h
  ·
   rw[List.getElem?_eq_none (by omega),List.getElem?_eq_none (by omega)]
 rw[decide_eq_true e]
variable{ts:List Tm}
theorem xl:MQ h1 h2 16 [ff ts] [] (Rows (.c (.rs 0 0 ts.length)) [bA ts]):=by
 refine bd (jB 23 h1 h2 Tryz.func16 Z fun O hF=>?_)
 have hl:ts.length≤L:=by simpa[As.fact,A.fact,M.fact,D.fact,Ds.fact]using hF.1.1
 refine af (js Z (bm (js Z (bP Z (bc (fo O Z Z Z Z Z Z Z Z Z (by first|omega|(simp at *;omega)) (by first|omega|(simp at *;omega)) (by first|omega|(simp at *;omega)) (by first|omega|(dsimp only;omega)|(simp only[aS]at *;omega)) (by first|omega|(simp at *;omega)) Z Z Z) Z (js Z (jn (aa (af (js Z (jn (ah (al (X:=Nat×List Tm) (fun x=>⟨[(0,ff ts),(3,.c (.rs 7 0 ts.length)),(4,eI x.1)],[(7,bA x.2)]⟩) (fun x=>x.1≤ts.length∧x.2.length=ts.length∧∀j,j<x.1→x.2[j]? = ts[j]?) (fun x=>ts.length-x.1) (0,List.replicate ts.length ⟨0,[]⟩) ((Ent.rowLe 7 Z (NLess.replicate (uj (.cons (.nil (sz:=1)) .nil)))).trans (Ent.to ⟨Z,Z,Z,aj⟩ (by simp[ins,em,bA]))) ?_ (fun x hi=>?_))))))))))))))
 exact⟨co _,List.length_replicate,fun j hj=>absurd hj (Nat.not_lt_zero j)⟩
 refine aa (af (ag Z (bP Z (js Z (jn (ao Z (fun z11=>?_) (fun z11=>?_)))))))
 try simp only[aS]at z11
 refine ac (aa (ah (ab (bp Z (er Z Z (js Z (aC O (B0:=21000) Z Z Z Z (c87 h1 h2) (ae Z) Z Z Z Z Z Z (aR Z Z (bc (gq (ex:=(x.2.getD x.1 default).cells) (xs':=(x.2.set x.1 (ts.getD x.1 default)).map Tm.cells) O Z Z Z Z Z Z Z (.d Z (.rs Z (by simp) .nil)) Z Z Z Z Z Z (by simp[hi.2.1,show x.1<ts.length by omega]) (by simp[List.map_set])) Z (jn (ab (js Z (ji Z (js Z (jn ?_)))))))))))))))
 refine⟨(x.1+1,x.2.set x.1 (ts.getD x.1 default)),Ent.to ⟨Z,Z,Z,aj⟩ Z,⟨by omega,by simp[hi.2.1],fun j hj=>?_⟩,by omega⟩
 rw[List.getElem?_set]
 split
 rename_i e;subst e;simp[hi.2.1,show x.1<ts.length by omega]
 exact hi.2.2 j (by omega)
 try simp only[aS]at z11
 refine aM (af (ag Z (jr ?_)))
 have e:x.2=ts:=List.ext_getElem? fun j=>by
  rcases Nat.lt_or_ge j x.1 with h|h
  ·
   exact hi.2.2 j h
  ·
   rw[List.getElem?_eq_none (by omega),List.getElem?_eq_none (by omega)]
 refine⟨.inl Z,_,bt,_,Z,[7],by decide,Z,Z,?_⟩
 rw[←e];rfl
structure Sm where
  kind:Int
  var:Int
  event:Int
  sum:Tm
  index:Tm
  facts:List Tm
  deriving Inhabited,DecidableEq
theorem n9{left:Int}(h:0≤left)(n:Nat):eL left n≤left:=by unfold eL;split<;>omega
theorem gv{left:Int}{a:Nat}(b:Nat)(h:0≤eL left a):eL (eL left a) b=eL left (a+b):=by unfold eL at *;split at h<;>repeat' (first|omega|split)
theorem l9{left:Int}{a:Nat}(b:Nat)(h:eL left a<0):eL left (a+b)= -1:=by unfold eL at *;split at h<;>repeat' (first|omega|split)

structure Pm where
  pre:List Tm
  body:List Sm
  post:List Tm
  deriving Inhabited,DecidableEq
structure Sx where
  vars:List Int
  cells:List Int
  deriving Inhabited,DecidableEq
def bn{α:Type}(f:Int→α→α)(sz:α→Nat):Int→List α→List α
  | _,[]=>[]
  | k,a::r=>f k a::bn f sz (k+sz a) r
def bv{α:Type}(sz:α→Nat)(l:List α):Nat:=(l.map sz).sum
def mk{α:Type}(f:Int→α→α)(sz:α→Nat)(k:Int)(i:Nat)(l:List α):List α:=bn f sz k (l.take i)++l.drop i
section
variable{α:Type}{f:Int→α→α}{sz:α→Nat}
theorem aT: ∀{k:Int} {l:List α},(bn f sz k l).length=l.length
 | _,[]=>rfl
 | _,a::r=>by simp[bn,aT]
theorem gE{k:Int}{i:Nat}{l:List α}:(mk f sz k i l).length=l.length:=by
 simp[mk,aT];omega
theorem kb{k:Int}{l:List α}:mk f sz k 0 l=l:=by simp[mk,bn]
theorem lZ{k:Int}{i:Nat}{l:List α}(h:l.length≤i):mk f sz k i l=bn f sz k l:=by
 simp[mk,List.take_of_length_le h,List.drop_of_length_le h]
theorem ko{k:Int}{i:Nat}{l:List α}(h:i<l.length):(mk f sz k i l)[i]? = some l[i]:=by
 rw[mk,List.getElem?_append_right (by simp[aT];omega)]
 simp[aT,Nat.min_eq_left (Nat.le_of_lt h)]
theorem kQ: ∀{k:Int} {l:List α} {a:α},bn f sz k (l++[a])=bn f sz k l++[f (k+bv sz l) a]
 | k,[],a=>by simp[bn,bv]
 | k,b::r,a=>by
  have:k+(sz b:Int)+(bv sz r:Int)=k+(bv sz (b::r):Int):=by simp[bv];omega
  simp[bn,kQ,this]
theorem fH{l:List α}{i:Nat}(h:i<l.length):bv sz (l.take (i+1))=bv sz (l.take i)+sz l[i]:=by
 rw[List.take_succ_eq_append_getElem h]
 simp only[bv,List.map_append,List.sum_append,List.map_cons,List.map_nil,List.sum_cons,List.sum_nil];omega
theorem jj{l:List α}{i:Nat}:bv sz (l.take i)≤bv sz l:=by
 have:bv sz l=bv sz (l.take i)+bv sz (l.drop i):=by rw[bv,bv,bv,←List.sum_append,←List.map_append,List.take_append_drop]
 omega
theorem iC{k:Int}{i:Nat}{l:List α}(h:i<l.length):(mk f sz k i l).set i (f (k+bv sz (l.take i)) l[i])=mk f sz k (i+1) l:=by
 have h1:(bn f sz k (l.take i)).length=i:=by rw[aT,List.length_take];omega
 rw[mk,List.set_append_right _ _ (by omega),h1,Nat.sub_self,mk,List.take_succ_eq_append_getElem h,kQ,List.drop_eq_getElem_cons h,List.set_cons_zero]
 simp only[dO,List.singleton_append]
end
abbrev mI:Int→Int→Int:=fun k _=>k
abbrev dj:Int→Nat:=fun _=>1
theorem nu{l:List Int}:bv dj l=l.length:=by
 induction l with
 | nil=>rfl
 | cons a r ih=>
  have:dj a=1:=rfl
  simp only[bv,List.map_cons,List.sum_cons,dF]at ih ⊢;omega
theorem lH{k:Int}{xs:List Int}{j:Nat}(h:j<xs.length):(bn mI dj k xs)[j]? = some (k+j):=by
 have h1:=ko (f:=mI) (sz:=dj) (k:=k) (l:=xs) h
 have h2:=iC (f:=mI) (sz:=dj) (k:=k) (l:=xs) h
 have h3:(mk mI dj k (j+1) xs)[j]? = some (k+j):=by
  rw[←h2,List.getElem?_set]
  have e:bv dj (xs.take j)=j:=by rw[nu,List.length_take];omega
  simp[gE,h,e]
 have h4:(mk mI dj k (j+1) xs)[j]? = (bn mI dj k (xs.take (j+1)))[j]? := by
  rw[mk,List.getElem?_append_left (by rw[aT,List.length_take];omega)]
 have key: ∀{k:Int} {l:List Int} {n j:Nat},j<n→(bn mI dj k (l.take n))[j]? = (bn mI dj k l)[j]? := by
  intro k l
  induction l generalizing k with
  | nil=>intro n j _;simp
  | cons a r ih=>
   intro n j hj
   cases n with
   | zero=>omega
   | succ n=>
    cases j with
    | zero=>simp[bn]
    | succ j=>simp only[List.take_succ_cons,bn,List.getElem?_cons_succ];exact ih (by omega)
 rw[←key (Nat.lt_succ_self j),←h4,h3]
abbrev mT:Int→Tm→Tm:=fun k t=>⟨k,bn mI dj (k+1) t.xs⟩
abbrev nT:Tm→Nat:=fun t=>1+t.xs.length
variable{k:Int}
theorem yN(hk0:0≤k)(hk1:k≤1073741824):MQ h1 h2 66 [.c (.rs 0 0 xs.length),eI k] [(0,ce xs)] (fA (eI (k+xs.length)) [(0,ce (bn mI dj k xs))]):=by
 refine jH 19 [0] h1 h2 Tryz.func66 Z fun O hF=>?_
 refine gJ 0 Z (fun hB=>?_)
 have hl:xs.length≤L:=by simpa[B.fact]using hB.1
 refine af (js Z (jn (aa (af (js Z (jn (ah (al (X:=Nat) (fun i=>⟨[(0,.c (.rs 0 0 xs.length)),(1,eI (k+i)),(5,eI i)],[(0,ce (mk mI dj k i xs))]⟩) (fun i=>i≤xs.length) (fun i=>xs.length-i) 0 (Ent.to ⟨Z,by simp[bN,aw],Z,aj⟩ (by simp[kb])) ?_ (fun i hi=>?_)))))))))
 exact co _
 refine aa (af (ag Z (aR Z Z (js Z (jn (ao Z (fun z9=>?_) (fun z9=>?_)))))))
 try simp only[aS]at z9
 refine ac (aa (ah (af (bb Z (aR Z Z (bc (bl (ex:=[.int .i64 (xs.getD i default)]) (xs':=(mk mI dj k (i+1) xs).map fun n=>[.int .i64 n]) O Z Z Z Z Z Z Z Z Z Z Z Z Z Z (by simp[ko (f:=mI) (sz:=dj) (k:=k) (show i<xs.length by omega),show i<xs.length by omega]) (by rw[←iC (show i<xs.length by omega),nu,List.length_take,Nat.min_eq_left hi];simp[List.map_set])) Z (jn (ab (js Z (ji Z (js Z (jn (ab (js Z (ji Z (js Z (jn ?_)))))))))))))))))
 refine⟨i+1,Ent.to ⟨Z,?_,Z,aj⟩ Z,by omega,by omega⟩
 show some (eI (k+i+1))=some (eI (k+(i+1:Nat)))
 rw[Int.natCast_add,←Int.add_assoc];rfl
 try simp only[aS]at z9
 refine aM (af (ag Z (jr ?_)))
 refine aD Z ?_
 obtain rfl:i=xs.length:=by omega
 rw[lZ (cm _)]
 exact⟨Z,Z⟩
theorem c21(hk0:0≤k)(hk1:k≤1073741824):MQ h1 h2 67 [cq xs,eI k] [] (Plain (eI (if xs=bn mI dj k xs then k+xs.length else -1))):=by
 refine av ?_ Z
 refine jB 21 h1 h2 Tryz.func67 Z fun O hF=>?_
 have hl:xs.length≤L:=by simpa[As.fact,A.fact,M.fact,D.fact,Ds.fact]using hF.1.1
 refine af (js Z (jn (aa (af (js Z (jn (ah (al (X:=Nat) (fun i=>⟨[(0,cq xs),(1,eI (k+i)),(5,eI i)],[]⟩) (fun i=>i≤xs.length∧∀j,j<i→xs[j]? = some (k+j)) (fun i=>xs.length-i) 0 (Ent.env ⟨Z,by simp[bN,aw],Z,aj⟩) ?_ (fun i hi=>?_)))))))))
 exact⟨co _,fun j hj=>absurd hj (Nat.not_lt_zero j)⟩
 refine aa (af (ag Z (bP Z (js Z (jn (ao Z (fun z9=>?_) (fun z9=>?_)))))))
 try simp only[aS]at z9
 refine ac (aa (ah (aa (af (ag Z (er Z Z (bb Z (jn (ao Z (fun z17=>?_) (fun z17=>?_))))))))))
 try simp only[aS]at z17
 refine af (js Z (jr ?_))
 refine aD Z ?_
 rw[if_neg (fun e=>z17 ?_)]
 have h1:=lH (k:=k) (show i<xs.length by omega)
 rw[←e,List.getElem?_eq_getElem (by omega)]at h1
 rw[Int.toNat_natCast,au (by omega)];simpa using h1
 try simp only[aS]at z17
 refine ac (ab (js Z (ji Z (js Z (jn (ab (js Z (ji Z (js Z (jn ?_))))))))))
 refine⟨i+1,Ent.env ⟨Z,?_,Z,aj⟩,⟨by omega,fun j hj=>?_⟩,by omega⟩
 show some (eI (k+i+1))=some (eI (k+(i+1:Nat)))
 rw[Int.natCast_add,←Int.add_assoc];rfl
 rcases Nat.lt_or_ge j i with h|h
 exact hi.2 j h
 obtain rfl:j=i:=by omega
 rw[Int.toNat_natCast,au (by omega)]at z17
 rw[List.getElem?_eq_getElem (by omega)];simpa using z17
 try simp only[aS]at z9
 refine aM (af (ag Z (jr ?_)))
 refine aD Z ?_
 obtain rfl:i=xs.length:=by omega
 rw[if_pos (List.ext_getElem? fun j=>?_)]
 rcases Nat.lt_or_ge j xs.length with h|h
 rw[lH h];exact hi.2 j h
 rw[List.getElem?_eq_none (by omega),List.getElem?_eq_none (by rw[aT];omega)]

theorem xZ:MQ h1 h2 66 [.c (.d (ki [])),eI k] [] (Plain (eI k)):=by
 refine av ?_ Z
 refine jB 19 h1 h2 Tryz.func66 Z fun O hF=>?_
 refine af (js Z (jn (aa (af (js Z (jn (ah (al (X:=Nat) (fun i=>⟨[(0,.c (.d (ki []))),(1,eI k),(5,eI 0)],[]⟩) (fun i=>True) (fun i=>0) 0 (Ent.env ⟨Z,Z,Z,aj⟩) ?_ (fun i hi=>?_)))))))))
 trivial
 refine aa (af (ag Z (bP Z (js Z (jn (ao Z (fun z9=>?_) (fun z9=>?_)))))))
 try simp only[aS]at z9
 exact absurd z9 (by simp)
 try simp only[aS]at z9
 refine aM (af (ag Z (jr ?_)))
 refine aD Z ?_
 first|rfl|skip
theorem um:MQ h1 h2 29 [.c (.d (oV [])),eI k] [] (Plain (eI k)):=by
 refine av ?_ Z
 refine jB 27 h1 h2 Tryz.func29 Z fun O hF=>?_
 refine af (js Z (jn (aa (af (js Z (jn (ah (al (X:=Nat) (fun i=>⟨[(0,.c (.d (oV []))),(1,eI k),(5,eI 0)],[]⟩) (fun i=>True) (fun i=>0) 0 (Ent.env ⟨Z,Z,Z,aj⟩) ?_ (fun i hi=>?_)))))))))
 trivial
 refine aa (af (ag Z (bP Z (js Z (jn (ao Z (fun z9=>?_) (fun z9=>?_)))))))
 try simp only[aS]at z9
 exact absurd z9 (by simp)
 try simp only[aS]at z9
 refine aM (af (ag Z (jr ?_)))
 refine aD Z ?_
 first|rfl|skip
theorem xa(hk0:0≤k)(hk1:k+bv nT ts≤1073741824):MQ h1 h2 29 [.c (.rs 0 0 ts.length),eI k] [(0,bA ts)] (fA (eI (k+bv nT ts)) [(0,bA (bn mT nT k ts))]):=by
 refine jH 27 [0] h1 h2 Tryz.func29 Z fun O hF=>?_
 refine gJ 0 Z (fun hB=>?_)
 have hl:ts.length≤L:=by simpa[B.fact]using hB.1
 refine af (js Z (jn (aa (af (js Z (jn (ah (al (X:=Nat) (fun i=>⟨[(0,.c (.rs 0 0 ts.length)),(1,eI (k+bv nT (ts.take i))),(5,eI i)],[(0,bA (mk mT nT k i ts))]⟩) (fun i=>i≤ts.length) (fun i=>ts.length-i) 0 (Ent.to ⟨Z,by simp[bN,aw,bv],Z,aj⟩ (by simp[kb])) ?_ (fun i hi=>?_)))))))))
 exact co _
 refine aa (af (ag Z (aR Z Z (js Z (jn (ao Z (fun z9=>?_) (fun z9=>?_)))))))
 try simp only[aS]at z9
 refine ac (aa (ah (af (bb Z (aR Z Z (js Z ?_))))))
 have hcs:=fH (sz:=nT) (show i<ts.length by omega)
 have hcl:=jj (sz:=nT) (l:=ts) (i:=i+1)
 have hg:=ko (f:=mT) (sz:=nT) (k:=k) (show i<ts.length by omega)
 have hs:=iC (f:=mT) (sz:=nT) (k:=k) (show i<ts.length by omega)
 rw[←au (show i<ts.length by omega)]at hcs hg hs
 obtain⟨t,ht⟩: ∃t,t=ts.getD i default:=⟨_,rfl⟩
 rw[←ht]at hcs hg hs
 simp only[nT]at hcs
 have hgl:i<(mk mT nT k i ts).length:=by rw[gE];omega
 refine bc (bl (ex:=Tm.cells t) (xs':=((mk mT nT k i ts).set i ⟨k+bv nT (ts.take i),t.xs⟩).map Tm.cells) O Z Z Z Z Z Z Z Z Z Z Z Z Z Z (by simp[hg]) (by rw[List.map_set];simp)) Z (bm (js Z (ji Z (js Z (jn (ab (ag Z (aR Z Z (js Z (ak (aW O (ex:=Tm.cells ⟨k+bv nT (ts.take i),t.xs⟩) Z Z Z Z (by simp[hgl]) Z) Z (js Z (k6 O (l:=0) (j:=1) (z:=1) (ex:=Tm.cells ⟨k+bv nT (ts.take i),t.xs⟩) (ys:=(t.xs).map (fun n=>[D.int .i64 n])) (ys':=(bn mI dj (k+bv nT (ts.take i)+1) t.xs).map (fun n=>[D.int .i64 n])) (xs':=(mk mT nT k (i+1) ts).map Tm.cells) Z Z Z Z (.rp (.d Z .nil)) (.rp (.d Z .nil)) Z (by simp[hgl]) Z (yN (xs:=t.xs) (k:=(k+bv nT (ts.take i)+1)) h1 h2 (by omega) (by omega)).1 (fun _=>by rw[aQ];exact yN (xs:=t.xs) h1 h2 (by omega) (by omega)) (fun hys=>?_) Z (by simp[aT]) Z Z Z Z (by rw[←hs];simp[List.map_set]) ?_))))))))))))
 have hy:t.xs=[]:=by simpa using hys
 rw[hy]
 exact(xZ h1 h2 (k:=(k+bv nT (ts.take i)+1))).plain (by simp[bv,hy])
 refine js Z (jn (ab (js Z (ji Z (js Z (jn ?_))))))
 refine⟨i+1,Ent.to ⟨Z,?_,Z,aj⟩ Z,by omega,by omega⟩
 rw[hcs]
 exact congrArg (fun z=>some (eI z)) (by omega)
 try simp only[aS]at z9
 refine aM (af (ag Z (jr ?_)))
 refine aD Z ?_
 obtain rfl:i=ts.length:=by omega
 rw[lZ (cm _),List.take_length]
 exact⟨Z,Z⟩
def Tm.term(t:Tm):Bool:=t.ok&&decide ((t.xs.length:Int)≤4)
def bQ(ts:List Tm)(n:Int):Bool:=ts.all Tm.term&&decide ((ts.length:Int)≤n)
def yR(k:Int):Int:=if k=1 then 2 else if k=7 then 2 else if k=8 then 1 else 0
def Tm.zero(t:Tm):Bool:=decide (t.c=0)&&decide ((t.xs.length:Int)=0)

theorem uG{a b:Int}(h1: -1000000≤a∧a≤1000000)(h2: -1000000000≤b∧b≤1000000000): -1000000000000000≤a*b∧a*b≤1000000000000000:=by
 have h3:a.natAbs≤1000000:=by omega
 have h4:b.natAbs≤1000000000:=by omega
 have h5:=Nat.mul_le_mul h3 h4
 rw[←Int.natAbs_mul]at h5
 omega
theorem xf{x:Int}:fN x=true↔ -1000000≤x∧x≤1000000:=by simp[fN]
abbrev ra(t:Tm):A:=.agg (t.cells.map .d)
def cH(lo hi x:Int):Bool:=decide (lo≤x)&&decide (x≤hi)

theorem n6:MQ h1 h2 79 [eI x,eI lo,eI hi] [] (Plain (eB (cH lo hi x))):=by
 refine av ?_ Z
 refine jB 15 h1 h2 Tryz.func79 Z fun O hF=>?_
 refine af (js Z (bm (bp Z (aX 3 Z Z Z (fun hx=>aF hx Z (aF hx Z (aF hx Z (AN.nil)))) Z Z (ak (aI O Z Z Z Z Z) Z (js Z (jr ?_)))))))
 refine aD Z ?_
 rw[Bool.cond_false_right];rfl
theorem yh:MQ h1 h2 124 [cq xs,eI lo,eI hi] [] (Plain (eB (xs.all (cH lo hi)))):=by
 refine av ?_ Z
 refine jB 21 h1 h2 Tryz.func124 Z fun O hF=>?_
 have hl:xs.length≤L:=by simpa[As.fact,A.fact,M.fact,D.fact,Ds.fact]using hF.1.1
 refine af (js Z (jn (aa (af (js Z (bP Z (js Z (jn (ah (al (X:=Nat) (fun i=>⟨[(1,eI lo),(2,eI hi),(9,cq xs),(10,eI xs.length),(11,eI i)],[]⟩) (fun i=>i≤xs.length∧∀j (h:j<xs.length),j<i→cH lo hi xs[j]=true) (fun i=>xs.length-i) 0 (Ent.env ⟨Z,Z,Z,Z,Z,aj⟩) ?_ (fun i hi=>?_)))))))))))
 exact⟨co _,fun j h hj=>absurd hj (Nat.not_lt_zero j)⟩
 refine af (js Z (jn (aa (ao Z (fun z12=>?_) (fun z12=>?_)))))
 try simp only[aS]at z12
 refine ac (aa (ah (af (er Z Z (ag Z (bm (bb Z (ba Z (n6 h1 h2) 19000 Z (js Z (jn (ao Z (fun z19=>?_) (fun z19=>?_))))))))))))
 try simp only[aS]at z19
 refine af (js Z (jr ?_))
 refine aD Z ?_
 rw[Int.toNat_natCast,au (by omega)]at z19
 rw[iJ i (by omega) z19]
 try simp only[aS]at z19
 refine ac (ab (ji Z (js Z (jn ?_))))
 refine⟨i+1,Ent.env ⟨Z,Z,Z,Z,Z,aj⟩,⟨by omega,fun j h hj=>?_⟩,by omega⟩
 by_cases e:j=i
 subst e;rw[Int.toNat_natCast,au h]at z19;exact z19
 exact hi.2 j h (by omega)
 try simp only[aS]at z12
 refine aM (af (js Z (jr ?_)))
 refine aD Z ?_
 rw[ku (fun j hj=>hi.2 j hj (by omega))]
theorem p8:MQ h1 h2 107 [eI x] [] (Plain (eB (fN x))):=by
 refine av ?_ Z
 refine jB 5 h1 h2 Tryz.func107 Z fun O hF=>?_
 refine af (js Z (bm (js Z (ba Z (n6 h1 h2) 5000 Z (js Z (jr ?_))))))
 refine aD Z ?_
 first|rfl|skip
theorem sT(t:Tm):(bif bif bif decide ((t.xs.length:Int)≤10)then fN t.c else false then t.xs.all fN else false then bif decide ((t.xs.length:Int)=0)then true else !decide (t.xs.getD ((t.xs.length:Int)-1).toNat default=0)else false)=t.ok:=by
 unfold Tm.ok
 cases fN t.c<;>cases t.xs.all fN<;>simp
 by_cases h0:t.xs=[]
 simp[h0]
 have h1:0<t.xs.length:=List.length_pos_iff.2 h0
 by_cases h2:(t.xs.length:Int)≤10
 have h3: ¬(10:Int)<t.xs.length:=by omega
 simp[h0,h1,h2,h3]
 have h3:(10:Int)<t.xs.length:=by omega
 simp[h2,h3]
theorem x7:MQ h1 h2 112 [ra t] [] (Plain (eB t.ok)):=by
 refine av ?_ Z
 refine jB 32 h1 h2 Tryz.func112 Z fun O hF=>?_
 have hl:t.xs.length≤L:=by simpa[As.fact,A.fact,M.fact,Ms.fact,D.fact,Ds.fact]using hF.1.2.1.1
 refine af (jx Z (js Z (bm (ag Z (bP Z (js Z (jf [3,2,1,0] Z (bm (bb Z (jf [9,3,2,1,0] Z (aX 3 Z Z Z (fun hx=>aF hx Z (aF hx Z (cd O hx Z Z Z Z (p8 h1 h2) (ae Z) Z Z Z Z Z Z Z (B0:=13000) Z (AN.nil)))) Z Z (ak (aI O Z Z Z Z Z) Z (js Z (jf [14,3,2,1,0] Z (aX 3 Z Z Z (fun hx=>aF hx Z (aF hx Z (cd O hx Z Z Z Z (yh h1 h2) (ae Z) Z Z Z Z Z Z Z (B0:=18000) Z (AN.nil)))) Z Z (ak (aI O Z Z Z Z Z) Z (js Z (jf [19,3,2,1,0] Z (aX 11 Z Z Z (fun hx=>aF hx Z (aF hx Z (aF hx Z (rP 7 Z Z Z Z (fun hx'=>aF hx' Z (aF hx' Z (aF hx' Z (ed hx' (aL O Z Z (by first|omega|(simp only[aS]at *;omega)) (by first|omega|(simp only[aS]at *;omega))) Z (ed hx' (im O Z Z Z Z Z Z Z Z (by first|omega|(simp only[aS]at *;omega)) (mn (by first|omega|(simp only[aS]at *;omega)) (by first|omega|(simp only[aS]at *;omega)))) Z (aF hx' Z (aF hx' Z (AN.nil)))))))) Z Z (ed hx (aK O Z Z Z Z Z) Z (AN.nil)))))) Z Z (ak (aI O Z Z Z Z Z) Z (js Z (jf [2,1,0] Z (jr ?_)))))))))))))))))))))))
 refine aD Z ?_
 exact congrArg eB (sT t)
theorem ya:MQ h1 h2 86 [ra t] [] (Plain (eB t.term)):=by
 refine av ?_ Z
 refine jB 11 h1 h2 Tryz.func86 Z fun O hF=>?_
 refine af (jx Z (js Z (bm (js Z (ba Z (x7 h1 h2) 5000 Z (js Z (aX 4 Z Z Z (fun hx=>aF hx Z (aF hx Z (ed hx (bK O Z Z Z Z Z Z Z Z) Z (aF hx Z (AN.nil))))) Z Z (ak (aI O Z Z Z Z Z) Z (js Z (jr ?_))))))))))
 refine aD Z ?_
 rw[Bool.cond_false_right];rfl
theorem yb:MQ h1 h2 85 [ra t] [] (Plain (eB !t.term)):=by
 refine av ?_ Z
 refine jB 6 h1 h2 Tryz.func85 Z fun O hF=>?_
 refine af (jx Z (js Z (bm (js Z (ba Z (ya h1 h2) 5000 Z (ag Z (jr ?_)))))))
 refine aD Z ?_
 first|rfl|skip
def n4(ts:List Tm):Int:=if ts.all Tm.term=true then -1 else(ts.findIdx fun t=>!t.term:Nat)
theorem sq{ts:List Tm}(h: ∀j (hj:j<ts.length),Tm.term ts[j]=true):n4 ts= -1:=by rw[n4,if_pos (ku h)]
theorem tz{ts:List Tm}{i:Nat}(hi:i<ts.length)(h: ∀j (hj:j<ts.length),j<i→Tm.term ts[j]=true)(hn:Tm.term ts[i]=false):n4 ts=i:=by
 rw[n4,if_neg (by rw[iJ i hi hn];decide)]
 exact congrArg Nat.cast ((List.findIdx_eq hi).2 ⟨by simp[hn],fun j hj=>by simp[h j (by omega) hj]⟩)
theorem so{ts:List Tm}:decide (n4 ts≥0)= !ts.all Tm.term:=by
 unfold n4
 cases h:ts.all Tm.term<;>simp
theorem x0:MQ h1 h2 111 [ff ts,.c (.fn 85 [])] [] (Plain (eI (n4 ts))):=by
 refine av ?_ Z
 refine jB 19 h1 h2 Tryz.func111 Z fun O hF=>?_
 have hl:ts.length≤L:=by simpa[As.fact,A.fact,M.fact,D.fact,Ds.fact]using hF.1.1
 refine af (js Z (jn (aa (af (js Z (bP Z (js Z (jn (ah (al (X:=Nat) (fun i=>⟨[(0,ff ts),(1,.c (.fn 85 [])),(7,eI ts.length),(8,eI i)],[]⟩) (fun i=>i≤ts.length∧∀j (h:j<ts.length),j<i→Tm.term ts[j]=true) (fun i=>ts.length-i) 0 (Ent.env ⟨Z,Z,Z,Z,aj⟩) ?_ (fun i hi=>?_)))))))))))
 exact⟨co _,fun j h hj=>absurd hj (Nat.not_lt_zero j)⟩
 refine af (js Z (jn (aa (ao Z (fun z9=>?_) (fun z9=>?_)))))
 try simp only[aS]at z9
 refine ac (aa (ah (af (ag Z (bm (bb Z (er Z Z (js Z (ba Z (yb h1 h2) 17000 Z (jn (ao Z (fun z16=>?_) (fun z16=>?_))))))))))))
 try simp only[aS]at z16
 refine af (ag Z (jr ?_))
 refine aD Z ?_
 rw[Int.toNat_natCast,au (by omega)]at z16
 rw[tz (by omega) hi.2 z16]
 try simp only[aS]at z16
 refine ac (ab (ji Z (js Z (jn ?_))))
 refine⟨i+1,Ent.env ⟨Z,Z,Z,Z,aj⟩,⟨by omega,fun j h hj=>?_⟩,by omega⟩
 by_cases e:j=i
 subst e;rw[Int.toNat_natCast,au h]at z16;exact z16
 exact hi.2 j h (by omega)
 try simp only[aS]at z9
 refine aM (af (js Z (jr ?_)))
 refine aD Z ?_
 rw[sq (fun j hj=>hi.2 j hj (by omega))]
theorem yc:MQ h1 h2 84 [ff ts,.c (.fn 85 [])] [] (Plain (eB !ts.all Tm.term)):=by
 refine av ?_ Z
 refine jB 9 h1 h2 Tryz.func84 Z fun O hF=>?_
 refine af (js Z (bm (ag Z (aP O Z Z Z Z (x0 h1 h2) (.cons (.c .d) (.cons (.c (.fn .nil)) .nil)) Z Z Z Z Z (B0:=8000) Z (ag Z (jr ?_))))))
 refine aD Z ?_
 exact congrArg eB so
theorem qa{n:Int}:MQ h1 h2 50 [ff ts,eI n] [] (Plain (eB (bQ ts n))):=by
 refine av ?_ Z
 refine jB 14 h1 h2 Tryz.func50 Z fun O hF=>?_
 refine af (js Z (bm (js Z (bP Z (bb Z (aX 3 Z Z Z (fun hx=>aF hx Z (cd O hx Z Z Z Z (yc h1 h2) (.cons (.c .d) (.cons (.c (.fn .nil)) .nil)) Z Z Z Z Z Z Z (B0:=12000) Z (aF hx Z (AN.nil)))) Z Z (ak (aI O Z Z Z Z Z) Z (js Z (jr ?_)))))))))
 refine aD Z ?_
 rw[Bool.cond_false_right,Bool.not_not,Bool.and_comm];rfl
theorem vE:MQ h1 h2 108 [eI x] [] (Plain (eB (cH 0 3 x))):=by
 refine av ?_ Z
 refine jB 5 h1 h2 Tryz.func108 Z fun O hF=>?_
 refine af (js Z (bm (js Z (ba Z (n6 h1 h2) 5000 Z (js Z (jr ?_))))))
 refine aD Z ?_
 first|rfl|skip
theorem x5:MQ h1 h2 110 [eI x] [] (Plain (eB (cH 0 3 x))):=by
 refine av ?_ Z
 refine jB 5 h1 h2 Tryz.func110 Z fun O hF=>?_
 refine af (js Z (bm (js Z (ba Z (n6 h1 h2) 5000 Z (js Z (jr ?_))))))
 refine aD Z ?_
 first|rfl|skip
structure Nd where
  kind:Int
  fact:Int
  term:Tm
  mul:List Int
  deriving Inhabited,DecidableEq
structure Sq where
  facts:List Tm
  goal:Tm
  deriving Inhabited,DecidableEq
def vm(xs:List Int):List Int:=(xs.reverse.dropWhile (· == 0)).reverse
def yG(c:Int)(xs:List Int):Tm×Bool:=if(Tm.mk c (vm xs)).ok=true then(⟨c,vm xs⟩,true)else(⟨0,[]⟩,false)
def xN(a:Tm)(m:Int)(b:Tm)(n:Int):List Int:=(List.range 10).map fun i=>m*a.xs.getD i 0+n*b.xs.getD i 0
def xM(a:Tm)(m:Int)(b:Tm)(n:Int):Tm×Bool:=yG (m*a.c+n*b.c) (xN a m b n)
def vq(t:Tm):Tm×Bool:=xM t (-1) ⟨1,[]⟩ (-1)
structure Small(t:Tm):Prop where
  c:fN t.c=true
  xs:t.xs.all fN=true
def dl(k:Int):Int:=if k=1 then -1 else if k=2 then 1 else 0
def vw:List Nd→Int→Option Nat
  | [],need=>if need≤0 then some 0 else none
  | s::r,need=>if need≤0 then some 0 else(vw r (need+dl s.kind)).map (· + 1)
def xT(p:List Nd)(k:Nat):Int:=match vw (p.drop k) 1 with
  | some n=>k+n
  | none=> -1
def ve(p:List Nd)(k:Nat):Nat→Int×Bool
  | 0=>(-1,false)
  | i+1=>if(p.getD i default).kind=1∨xT p i≤k then ve p k i else(i,decide (i+1=k))
def q7(xs:List Int):Nat:=xs.foldl (fun g x=>Nat.gcd g x.natAbs) 0
def mx(a b:Int):Int:=if a>b then a else b
def ro(t:Tm):Tm×Bool:=if q7 t.xs<2 then(⟨0,[]⟩,false)else
  yG (if t.c.tmod (q7 t.xs)<0 then t.c.tdiv (q7 t.xs)-1 else t.c.tdiv (q7 t.xs)) (t.xs.map fun x=>x.tdiv (q7 t.xs))
def u4(n:Nd)(ctx:List Tm)(first:Bool):List Tm:=if n.kind=3 then ctx++[(ro (ctx.getD n.fact.toNat default)).1]else if first=true then ctx++[n.term]else ctx++[(vq n.term).1]
def sM(f:Tm→Int):List Tm→List Int→Int
  | t::ts,m::ms=>m*f t+sM f ts ms
  | _,_=>0
abbrev vz(k:Nat):Tm→Int:=fun t=>t.xs.getD k 0
def wu(ts:List Tm)(ms:List Int):List Int:=(List.range 10).map fun k=>sM (vz k) ts ms
def tI(ctx:List Tm)(ms:List Int):Bool:=decide (ctx.length=ms.length)&&((wu ctx ms).all (fun x=>decide (x=0))&&decide (sM Tm.c ctx ms<0))
def ry(n:Nd)(ctx:List Tm):Bool:=if n.kind=1 then tI ctx n.mul else if 20≤ctx.length then false else if n.kind=2 then(vq n.term).2 else if n.fact≥ctx.length then false else(ro (ctx.getD n.fact.toNat default)).2

def vp(ts:List Tm)(ms:List Int)(i j:Nat):List Int:=(List.range 10).map fun k=>sM (vz k) (ts.take i) (ms.take i)+(if k<j then ms.getD i default*(ts.getD i default).xs.getD k 0 else 0)
structure CtxOk(ctx:List Tm):Prop where
  ok: ∀t∈ctx,t.ok=true
  len:ctx.length≤1000
structure CS where
  all:List (List Tm)
  has:List Bool
  right:List Bool
  flaw:Int
structure CSok(p:List Nd)(k:Nat)(z:CS):Prop where
  all:z.all.length=k
  has:z.has.length=k
  right:z.right.length=k
  flaw: -1≤z.flaw∧z.flaw<k
  ctx: ∀j,j<k→z.has.getD j default=true→CtxOk (z.all.getD j default)
  good: ∀j,j<k→z.right.getD j default=true→z.has.getD j default=true∧ry (p.getD j default) (z.all.getD j default)=true
abbrev bL(b:Bool):List D:=[.bool b]
abbrev gZ(bs:List Bool):D:=.slc 1 (bs.map bL)
structure Con where
  all:List (List Tm)
  has:List Bool
  flaw:Int
  ok:Bool
theorem g2{a b:Bool}:(bif !a then true else !b)= !(a&&b):=by cases a<;>cases b<;>rfl
abbrev jc(bs:List Bool):B:=.row true 1 (bs.map bL)
theorem ur{n:Int}:MQ h1 h2 80 [eI n] [] (Plain (eI n)):=by
 refine av ?_ Z
 refine jB 4 h1 h2 Tryz.func80 Z fun O hF=>?_
 refine af (js Z (bm (ag Z (jr ?_))))
 refine aD Z ?_
 first|rfl|skip
theorem u9{n:Nat}(hn:n≤1073741824):MQ h1 h2 51 [eI k,eI n] [] (Plain (eB (cH 0 ((n:Int)-1) k))):=by
 refine av ?_ Z
 refine jB 10 h1 h2 Tryz.func51 Z fun O hF=>?_
 refine af (js Z (bm (ag Z (ba Z (ur (n:=n) h1 h2) 8000 Z ?_))))
 first|refine ji Z ?_|refine aR Z Z ?_
 refine ba Z (n6 h1 h2) 10000 Z (js Z (jr ?_))
 refine aD Z ?_
 first|rfl|skip
theorem uo(hx: -1000000≤x∧x≤1000000):MQ h1 h2 89 [eI x] [] (Plain (eI x.natAbs)):=by
 refine av ?_ Z
 refine jB 7 h1 h2 Tryz.func89 Z fun O hF=>?_
 refine af (js Z (bm (ag Z (ji Z (ag Z (jr ?_))))))
 refine aD Z ?_
 exact congrArg eI (show(if 0-x>x then 0-x else x)=(x.natAbs:Int) by split<;>omega)
theorem wB:MQ h1 h2 87 [ra t] [] (Rows (.agg [.d (.int .i64 t.c),.rs 0 0 t.xs.length]) [ce t.xs]):=by
 refine bd (jB 9 h1 h2 Tryz.func87 Z fun O hF=>?_)
 refine af (jx Z (jl Z (jn (aa (gK [_,_,_,_,_,_,_] [pn [] 0 1,pn [0] 0 1,aN,ar [2],pe [2,3] 0,pn (rg 0 5) 1 1,pe (rg 0 6) 1] [4,6] [_,_,_] (ai (kc Z (V Z)) (ai (kc Z (V Z)) (kc Z (kc Z (ai (bM O (B0:=8000) Z Z Z Z (yg (xs:=t.xs) h1 h2) (ae Z) Z Z Z Z Z) (kc Z (ai (eS Z Z Z) trivial))))))) ?_)))))
 refine f9 ?_
 refine⟨.inl Z,_,bt,_,Z,[8000],by decide,Z,Z,Z⟩
theorem yy{t:Tm}:t.ok=true↔fN t.c=true∧t.xs.all fN=true∧t.xs.length≤10∧(t.xs=[]∨t.xs.getD (t.xs.length-1) default≠0):=by
 unfold Tm.ok
 have hz:((t.xs.length:Int)-1).toNat=t.xs.length-1:=by omega
 rw[hz]
 cases h1:fN t.c<;>cases h2:t.xs.all fN<;>simp
 by_cases h3:t.xs.length≤10
 have h4: ¬(10:Int)<t.xs.length:=by omega
 by_cases h5:t.xs=[]
 simp[h5]
 have h6:0<t.xs.length:=List.length_pos_iff.2 h5
 simp[h3,h5]
 intro _;omega
 have h4:(10:Int)<t.xs.length:=by omega
 simp[h3,h4]
inductive Pf where
  | close (n:Nd)
  | tight (n:Nd) (a:Pf)
  | split (n:Nd) (a b:Pf)
structure Ex where
  es:List (Int×List Tm)
  flaw:Int
def fl(b:Nat→Bool):Nat→Nat→Int→Int
  | _,0,f=>f
  | k,n+1,f=>fl b (k+1) n (if b k=true∧f<0 then(k:Int)else f)
structure Eqs(p:List Nd)(c0:List Tm)(H:Nat→Bool)(A:Nat→List Tm)(R:Nat→Bool):Prop where
  h0:0<p.length→H 0=true∧A 0=c0
  h: ∀j,0<j→j<p.length→H j=R (ve p j j).1.toNat
  a: ∀j,0<j→j<p.length→H j=true→A j=u4 (p.getD (ve p j j).1.toNat default) (A (ve p j j).1.toNat) (ve p j j).2
  r: ∀j,j<p.length→R j=(H j&&ry (p.getD j default) (A j))
theorem li:MQ h1 h2 52 [ff ts] [] (Rows (.c (.rs 0 0 ts.length)) [bA ts]):=by
 refine bd (jB 19 h1 h2 Tryz.func52 Z fun O hF=>?_)
 have hl:ts.length≤L:=by simpa[As.fact,A.fact,M.fact,D.fact,Ds.fact]using hF.1.1
 refine af (js Z (bm (js Z (jn (aa (af (js Z (bP Z (js Z (jn (ah (al (X:=Nat) (fun i=>⟨[(3,.c (.rs 900 0 i)),(6,ff ts),(7,eI ts.length),(8,eI i)],[(900,bA (ts.take i))]⟩) (fun i=>i≤ts.length) (fun i=>ts.length-i) 0 ((jT 3 900 2 true Z Z).trans (Ent.to ⟨Z,Z,Z,Z,aj⟩ Z)) ?_ (fun i hi=>?_)))))))))))))
 exact co _
 refine af (js Z (jn (aa (ao Z (fun z9=>?_) (fun z9=>?_)))))
 try simp only[aS]at z9
 refine ac (aa (ah (af (fO Z Z (js Z (jl Z (aA ?_)))))))
 refine jo Z (aA ?_)
 refine jn (ab (ag Z (aC O (B0:=15000) Z Z Z Z (wB (t:=ts.getD i default) h1 h2) (ae Z) Z Z Z Z Z Z (aA ?_))))
 refine bc (jy (ds:=Tm.cells (ts.getD i default)) O Z Z Z Z Z Z Z Z Z Z (.d Z (.rs Z (aQ _).symm .nil)) Z Z Z) Z (aA ?_)
 refine aA ?_
 refine bc (bE (zs:=(ts.take (i+1)).map Tm.cells) (n:=i+1) O Z Z Z Z Z Z Z Z Z Z Z Z Z Z Z Z (.row Z (by simp;omega)) Z Z (by decide) Z (by simp;omega) (by simp;omega) (by rw[List.take_succ_eq_append_getElem (by omega),List.map_append,au (by omega)];rfl) (by simp;omega)) Z (aA ?_)
 refine aA ?_
 refine js Z (jn (ab (ji Z (js Z (jn ?_)))))
 refine⟨i+1,((aq [16] (e':=[(3,_),(6,_),(7,_),(8,_)]) Z Z ⟨Z,Z,Z,Z,aj⟩ Z).trans (am 16 900 Z Z)),by omega,by omega⟩
 try simp only[aS]at z9
 refine aM (af (ag Z (jr ?_)))
 obtain rfl:i=ts.length:=by omega
 rw[List.take_length]
 refine⟨.inl Z,_,bt,_,Z,[900],by decide,Z,Z,Z⟩
theorem qm: ∀{k:Int} {xs:List Int},bn mI dj k (bn mI dj k xs)=bn mI dj k xs
 | _,[]=>rfl
 | k,x::xs=>by
  show k::bn mI dj (k+1) (bn mI dj (k+1) xs)=k::bn mI dj (k+1) xs
  rw[qm]
theorem oE(xs:List Int)(k:Int):(if bn mI dj k xs=bn mI dj k (bn mI dj k xs)then k+((bn mI dj k xs).length:Int)else -1)=k+xs.length:=by
 rw[if_pos qm.symm,aT]
theorem fW{α:Type}[Inhabited α]{f:Int→α→α}{sz:α→Nat}: ∀{l:List α} {k:Int} {i:Nat},i<l.length→(bn f sz k l).getD i default=f (k+bv sz (l.take i)) (l.getD i default)
 | [],_,_,h=>by simp at h
 | a::r,k,0,_=>by simp[bn,bv]
 | a::r,k,i+1,h=>by
  have:=fW (f:=f) (sz:=sz) (l:=r) (k:=k+sz a) (i:=i) (by simpa using h)
  simp only[bn,List.getD_cons_succ,List.take_succ_cons]at this ⊢
  rw[this]
  have e:k+(sz a:Int)+(bv sz (r.take i):Int)=k+(bv sz (a::r.take i):Int):=by simp[bv];omega
  rw[e]
theorem xn(hk0:0≤k)(hk1:k+bv nT ts≤1073741824):MQ h1 h2 32 [ff (bn mT nT k ts),eI k] [] (Plain (eI (k+bv nT ts))):=by
 refine av ?_ Z
 refine jB 31 h1 h2 Tryz.func32 Z fun O hF=>?_
 have hlm:=aT (f:=mT) (sz:=nT) (k:=k) (l:=ts)
 have hl:(bn mT nT k ts).length≤L:=by simpa[As.fact,A.fact,M.fact,D.fact,Ds.fact]using hF.1.1
 refine af (js Z (jn (aa (af (js Z (jn (ah (al (X:=Nat) (fun i=>⟨[(0,ff (bn mT nT k ts)),(1,eI (k+bv nT (ts.take i))),(5,eI i)],[]⟩) (fun i=>i≤ts.length) (fun i=>ts.length-i) 0 (Ent.env ⟨Z,by simp[bN,aw,bv],Z,aj⟩) ?_ (fun i hi=>?_)))))))))
 exact co _
 refine aa (af (ag Z ?_))
 first|refine bP Z ?_|refine js Z ?_|refine aR Z Z ?_
 refine js Z (jf [9,0,1,5] Z (jn (ao Z (fun z9=>?_) (fun z9=>?_))))
 refine ac (aa (ah (aa (af ?_))))
 have hil:i<ts.length:=by have h9:=bZ z9;omega
 have hg:=fW (f:=mT) (sz:=nT) (k:=k) hil
 have hcs:=fH (sz:=nT) hil
 have hcl:=jj (sz:=nT) (l:=ts) (i:=i+1)
 rw[←au hil]at hcs
 obtain⟨t,ht⟩: ∃t,t=ts.getD i default:=⟨_,rfl⟩
 rw[←ht]at hg hcs
 simp only[nT]at hcs
 obtain⟨K,hK⟩: ∃K,K=k+(bv nT (ts.take i):Int):=⟨_,rfl⟩
 rw[←hK]at hg ⊢
 refine ag Z (ak ((ax O Z Z Z Z Z Z Z Z (bJ (by omega))).cast (v':=ptr (Tm.cells (mT K t))) (by rw[hg])) Z (bp Z (jf [18,9,0,1,5] Z (jn (ao Z (fun z18=>?_) (fun z18=>?_))))))
 exact absurd z18 (by simp)
 refine ac (af (js Z ?_))
 first|refine ji Z ?_|refine aR Z Z ?_
 refine js Z (jf [1,18,9,0,5] Z (bm (ag Z (ak ((ax O Z Z Z Z Z Z Z Z (bJ (by omega))).cast (v':=ptr (Tm.cells (mT K t))) (by rw[hg])) Z (bb Z (jf [26,25,1,18,9,0,5] Z (ba Z ((c21 (xs:=bn mI dj (K+1) t.xs) (k:=K+1) h1 h2 (by omega) (by omega)).plain (congrArg eI (oE t.xs (K+1)))) 28000 Z (js Z (jf [1,18,9,0,5] Z (bm (ag Z (jn (ao Z (fun z29=>?_) (fun z29=>?_))))))))))))))
 exact absurd (bZ z29) (by omega)
 refine ac (ab (js Z ?_))
 first|refine ji Z ?_|refine aR Z Z ?_
 refine js Z (jf [5,29,28,1,18,9,0] Z (jn ?_))
 refine⟨i+1,Ent.env ⟨Z,?_,Z,aj⟩,by omega,by omega⟩
 rw[hcs]
 exact congrArg (fun z=>some (eI z)) (by omega)
 refine aM (af (ag Z (jr ?_)))
 refine aD Z ?_
 have h9:=cS z9
 obtain rfl:i=ts.length:=by omega
 rw[List.take_length]
theorem mr(ts:List Tm):bv nT ts=szs Tm.size ts:=by
 unfold bv szs
 induction ts with
 | nil=>rfl
 | cons t r ih=>
  simp only[List.map_cons,List.sum_cons,dF]at ih ⊢
  have:nT t=1+Tm.size t:=rfl
  omega
theorem oA{left:Int}{n:Nat}(h:0≤eL left n)(h0:0≤left):(n:Int)≤left:=by
 unfold eL at h
 split at h<;>omega
theorem qA{L S:Nat}{xs:List Int}(h:D.fact L (ki xs))(hl:xs.length≤S):D.fact S (ki xs):=by
 simp only[D.fact,aQ,dz,Ds.fact]at h ⊢
 exact⟨hl,h.2⟩
theorem ma{α:Type}(f:α→Nat): ∀{xs:List α} {x:α},x∈xs→f x≤(xs.map f).sum
 | y::r,x,h=>by
  simp only[List.map_cons,List.sum_cons]
  rcases List.mem_cons.1 h with rfl|h
  omega
  have:=ma f h;omega
theorem kH{L S:Nat}{ts:List Tm}(h:D.fact L (oV ts))(hl:szs Tm.size ts≤S):D.fact S (oV ts):=by
 unfold szs at hl
 simp only[D.fact,aQ,dz]at h ⊢
 refine⟨by omega,fun t ht=>?_⟩
 have h1:=h.2 t ht
 have h2:=ma Tm.size ht
 have h3:Tm.size t=t.xs.length:=rfl
 exact⟨h1.1,qA h1.2.1 (by omega),aj⟩
end Go.Al
/- What the laws of the certificates share: the types of their arguments; what came in reads as it did. -/
namespace Go.Proofs.YtkendpichnklaaaGreatDoor
open Go.ChangeShapes Go.WideShapes Go.ChangeAt Go.RowKit Go.Al

theorem ownK:ownKnob Tryz.prog.godebug=none:=by kernel_rfl
theorem kidsK:Kids Tryz.prog (· < Tryz.prog.types.size):=kids_rows (by kernel_rfl) (by kernel_rfl)
theorem fullK: ∀t e,t<Tryz.prog.types.size→Tryz.prog.underlying t=some (.slice e)→0<Tryz.prog.cellsOf e:=slices_full_of Tryz.prog (by kernel_rfl)

abbrev tyI:List Ty:=[.int .i64]
abbrev tyT:List Ty:=[.int .i64,.slc tyI]
theorem of2:TyOf Tryz.prog 2 tyI:=.int Tryz.underlying2
theorem xS:TyOf Tryz.prog 58 [.slc tyI]:=.slc Tryz.underlying58 of2 (by kernel_rfl) (by decide)
theorem xR:TyOf Tryz.prog 60 tyT:=.struct Tryz.underlying60 (show FieldsAre Tryz.prog _ (tyI++([.slc tyI]++[])) 0 from .cons rfl (by kernel_rfl) of2 (.cons rfl (by kernel_rfl) xS .nil)) (by kernel_rfl)
theorem of22:TyOf Tryz.prog 22 [.slc tyT]:=.slc Tryz.underlying22 xR (by kernel_rfl) (by decide)
theorem fits_int{d:D}(h:Fits (.int .i64) d): ∃n,d= .int .i64 n:=by cases h;exact⟨_,rfl⟩
theorem fits_all{α:Type}{es:List Ty}{g:α→List D}(hg: ∀e,FitsL es e→∃a,e=g a): ∀{xs:List (List D)},FitsA es xs→∃ys:List α,xs=ys.map g
 | _,.nil=>⟨[],rfl⟩
 | _,.cons h1 h2=>by
  obtain⟨a,rfl⟩:=hg _ h1
  obtain⟨ys,rfl⟩:=fits_all hg h2
  exact⟨a::ys,Z⟩
theorem qz{d:D}(h:Fits (.slc tyI) d): ∃xs,d=ki xs:=by
 cases h with
 | slc h=>
  obtain⟨xs,rfl⟩:=fits_all (g:=fun n=>[D.int .i64 n]) (fun e he=>by
   cases he with
   | cons h1 h2=>
     cases h2
     obtain⟨n,rfl⟩:=fits_int h1
     exact⟨n,Z⟩) h
  exact⟨xs,Z⟩
theorem qy{e:List D}(h:FitsL tyT e): ∃t:Tm,e=t.cells:=by
 cases h with
 | cons h1 h2=>
  cases h2 with
  | cons h2 h3=>
   cases h3
   obtain⟨n,rfl⟩:=fits_int h1
   obtain⟨xs,rfl⟩:=qz h2
   exact⟨⟨n,xs⟩,Z⟩
theorem fits_terms{d:D}(h:Fits (.slc tyT) d): ∃ts,d=oV ts:=by
 cases h with
 | slc h=>
  obtain⟨xs,rfl⟩:=fits_all (g:=Tm.cells) (fun e he=>qy he) h
  exact⟨xs,Z⟩
theorem rdl_rms{L:Nat}{w:World}{ok:Nat→Prop}{m:Nat→Go.Al.Loc}: ∀{ds:List D} {vs:List Value} {F:List Nat},RDL L w ok ds vs F→F=[]→RMs L w ok m (ds.map .d) vs
 | _,_,_,.nil,_=>.nil
 | _,_,_,.cons (F1:=F1) (F2:=F2) h1 h2,hF=>by
  obtain⟨rfl,rfl⟩:=List.append_eq_nil_iff.1 hF
  exact .cons (.d h1) (rdl_rms h2 Z)
section
variable{H:Type}{enc:TypeId×Value→H}{P:Program}{w w':World}
theorem s6(hs: ∀b,b<w.heap.size→Same w w' b){p:MemPlace}(hp:p.block<w.heap.size):w.sameAt w' p:=by
 cases p with
 | cell b o=>exact(hs b hp).cell
 | map b=>exact hs b hp
theorem trodAll_same(hs: ∀b,b<w.heap.size→Same w w' b){base:Nat}{sp:Nat→Bool}{held:Bool}: ∀{ts:List TypeId} {vs:List Value} {ds:List (DataW H)} {ps:List MemPlace},(∀p∈ps,p.block<w.heap.size)→DataW.TrodAll enc P w base sp held ts vs ds ps→DataW.TrodAll enc P w' base sp held ts vs ds ps
 | [],[],[],_,_,h=>h
 | _::_,_::_,_::_,_,hl,⟨p,q,⟨n,h1⟩,h2,e⟩=>
  ⟨p,q,⟨n,DataW.trod_carry n _ _ _ h1 (fun x hx=>s6 hs (hl x (by rw[e];exact List.mem_append_left _ hx)))⟩,trodAll_same hs (fun x hx=>hl x (by rw[e];exact List.mem_append_right _ hx)) h2,e⟩
theorem oG(hf:Go.Al.Frame w w' [])(may:MemPlace→Prop):w.keptBut w' may:=by
 refine⟨hf.os,hf.output,fun i hi=>?_⟩
 have h:=hf.block i hi (by simp)
 unfold Same at h
 rw[h]
 cases hx:w.heap[i]? with
 | none=>trivial
 | some o=>
  cases o with
  | cells c t fr=>exact⟨Z,Z,Z,fun _ _=>rfl⟩
  | map es clock=>exact .inr ⟨Z,Z⟩
  | _=>rfl
theorem oF(hf:Go.Al.Frame w w' []){a:Addr}(ha:a.block<w.heap.size):w'.frozen? a=w.frozen? a:=by
 have h:=hf.block a.block ha (by simp)
 unfold Same at h
 unfold World.frozen?
 rw[h]
theorem post_of_old{f:Func}{s:ChangeSpec}{apart fresh handsOn again:Bool}{args:Array Value}{v:Value}{ds gs:List (DataW H)}{before pa pv:List MemPlace}
    (hW:DataW.Whole enc P f.params.toList s.vars apart w args.toList ds gs before)
    (hres: ∀(b:Nat) (sp:Nat→Bool) (hd:Bool),DataW.TrodAll enc P w' b sp hd f.resultTypes.toList (v.resultList f.resultTypes.size) (s.fn H (ds++gs)).results [])
    (hargs: ∀sp:Nat→Bool,(∀p∈before,sp p.block=true)→DataW.TrodAll enc P w' 0 sp true f.params.toList args.toList (s.fn H (ds++gs)).args pa)
    (hvars: ∀sp:Nat→Bool,(∀p∈before,sp p.block=true)→DataW.TrodVars enc P w' sp s.vars (s.fn H (ds++gs)).vars pv)
    (hps:before=pa++pv) (hf:Go.Al.Frame w w' [])
    (hok: ∀(j:Nat) (t:TypeId) (r:Value),f.resultTypes[j]? = some t→(v.resultList f.resultTypes.size)[j]? = some r→Value.okWide P w' .any 0 t r) :
    s.post enc P f apart fresh handsOn again w args v w':=by
 have hlt:=hW.lt
 have hold: ∀p∈before,(fun b=>decide (b<w.heap.size)) p.block=true:=fun p hp=>by simpa using hlt p hp
 refine⟨ds,gs,before,[],pa,pv,hW,hres _ _ _,hargs _ hold,hvars _ hold,World.keptBut_mono (fun p hp=>⟨hp,?_⟩) (oG hf (· ∈before)),fun _=>?_⟩
 rw[hps,List.mem_append]at hp
 exact Or.inr hp
 obtain⟨_,_,_,_,_,hz,hn⟩:=hW
 refine⟨hok,_,_,([]++pa)++pv,⟨[]++pa,pv,trodAll_append (hargs _ (fun _ _=>rfl)) (hres _ _ _),hvars _ (fun _ _=>rfl),Z,?_,?_⟩,?_⟩
 intro b off hp
 have hp':MemPlace.cell b off∈before:=by rw[hps];simpa using hp
 rw[oF hf (hlt _ hp')]
 exact hz b off hp'
 intro ha
 have:=hn ha
 rw[hps]at this
 simpa using this
 intro p hp _
 rw[hps]
 simpa using hp
end

end Go.Proofs.YtkendpichnklaaaGreatDoor
namespace Go.Al
variable{L:Nat}(h1:4096≤L)(h2:L≤1073741824)
structure NdAt(n:Nat)(x:Nd):Prop where
  close:x.kind=1→n+1≤x.mul.length∧x.mul.length≤20
  fact:x.kind=3→0≤x.fact∧x.fact≤19
  kind:x.kind=1∨x.kind=2∨x.kind=3
structure MvOk(bv to:Int→Int)(x:Nd):Prop where
  kind:x.kind=1∨x.kind=2∨x.kind=3
  fact:x.kind=3→0≤x.fact∧x.fact≤19
  len:x.kind=1→x.mul.length≤20
  cntb:x.kind=1→0≤bv x.mul.length∧bv x.mul.length≤1000
  rng:x.kind=1→∀i:Nat,i<x.mul.length→to i<bv x.mul.length
end Go.Al
