/- Contracts of the functions that copy, compare, mark and measure; the reference's functions for terms. -/
import Derived.Test.YtdlhjplhmmfnnaaGreatDoorProg
import Derived.Test.YtdlhjplhmmfnnaaGreatDoorC
set_option linter.unusedVariables false
set_option linter.unusedSimpArgs false
set_option maxRecDepth 10000
open Go.Proofs
/- The table of the types that the functions of this seat use, and its proof. -/
namespace Go.Al
variable{L:Nat}(h1:4096≤L)(h2:L≤1073741824)
def tt:List (Nat×TI):=[
  (2,⟨4,false,0,1,8,[.int .i64 0],[]⟩),
  (3,⟨4,false,0,1,8,[.int .i64 0],[]⟩),
  (4,⟨5,false,0,1,1,[.bool false],[]⟩),
  (5,⟨4,false,0,1,1,[.int .u8 0],[]⟩),
  (9,⟨2,false,0,1,16,[.str ByteArray.empty],[]⟩),
  (21,⟨4,false,0,1,4,[.int .i32 0],[]⟩),
  (22,⟨1,false,65,1,24,[.nils],[]⟩),
  (23,⟨1,false,71,1,24,[.nils],[]⟩),
  (24,⟨1,false,69,1,24,[.nils],[]⟩),
  (26,⟨3,true,0,4,96,[.nils,.nils,.nils,.nils],[(0,1),(1,1),(2,1),(3,1)]⟩),
  (27,⟨1,false,42,1,24,[.nils],[]⟩),
  (29,⟨3,true,0,6,136,[.str ByteArray.empty,.nils,.nils,.nils,.nils,.nils],[(0,1),(1,4),(5,1)]⟩),
  (42,⟨1,false,78,1,24,[.nils],[]⟩),
  (58,⟨1,false,9,1,24,[.nils],[]⟩),
  (63,⟨1,false,2,1,24,[.nils],[]⟩),
  (65,⟨3,true,0,2,32,[.int .i64 0,.nils],[(0,1),(1,1)]⟩),
  (69,⟨3,true,0,2,32,[.int .i64 0,.nils],[(0,1),(1,1)]⟩),
  (71,⟨3,true,0,2,16,[.int .i64 0,.int .i64 0],[(0,1),(1,1)]⟩),
  (78,⟨3,true,0,5,72,[.int .i64 0,.int .i64 0,.int .i64 0,.nils,.nils],[(0,1),(1,1),(2,2),(4,1)]⟩),
  (84,⟨6,false,0,1,8,[.nilp],[]⟩),
  (85,⟨1,false,5,1,24,[.nils],[]⟩),
  (87,⟨3,true,0,2,32,[.nilp,.nils],[(0,1),(1,1)]⟩),
  (131,⟨6,false,0,1,8,[.nilp],[]⟩),
  (170,⟨4,false,0,1,8,[.int .u64 0],[]⟩),
  (179,⟨4,false,0,1,4,[.int .u32 0],[]⟩),
  (183,⟨4,false,0,1,8,[.int .u64 0],[]⟩),
  (202,⟨3,true,0,2,2,[.int .u8 0,.int .u8 0],[(0,1),(1,1)]⟩),
  (211,⟨3,true,0,1,16,[.str ByteArray.empty],[(0,1)]⟩)
]
theorem tt2:TIok Tryz.prog 2 ⟨4,false,0,1,8,[.int .i64 0],[]⟩:=(by constructor<;>kernel_rfl)
theorem tt3:TIok Tryz.prog 3 ⟨4,false,0,1,8,[.int .i64 0],[]⟩:=(by constructor<;>kernel_rfl)
theorem tt4:TIok Tryz.prog 4 ⟨5,false,0,1,1,[.bool false],[]⟩:=(by constructor<;>kernel_rfl)
theorem tt5:TIok Tryz.prog 5 ⟨4,false,0,1,1,[.int .u8 0],[]⟩:=(by constructor<;>kernel_rfl)
theorem tt9:TIok Tryz.prog 9 ⟨2,false,0,1,16,[.str ByteArray.empty],[]⟩:=(by constructor<;>kernel_rfl)
theorem Ba:TIok Tryz.prog 21 ⟨4,false,0,1,4,[.int .i32 0],[]⟩:=(by constructor<;>kernel_rfl)
theorem A9:TIok Tryz.prog 22 ⟨1,false,65,1,24,[.nils],[]⟩:=(by constructor<;>kernel_rfl)
theorem A8:TIok Tryz.prog 23 ⟨1,false,71,1,24,[.nils],[]⟩:=(by constructor<;>kernel_rfl)
theorem A7:TIok Tryz.prog 24 ⟨1,false,69,1,24,[.nils],[]⟩:=(by constructor<;>kernel_rfl)
theorem A6:TIok Tryz.prog 26 ⟨3,true,0,4,96,[.nils,.nils,.nils,.nils],[(0,1),(1,1),(2,1),(3,1)]⟩:=(by constructor<;>kernel_rfl)
theorem A5:TIok Tryz.prog 27 ⟨1,false,42,1,24,[.nils],[]⟩:=(by constructor<;>kernel_rfl)
theorem A4:TIok Tryz.prog 29 ⟨3,true,0,6,136,[.str ByteArray.empty,.nils,.nils,.nils,.nils,.nils],[(0,1),(1,4),(5,1)]⟩:=(by constructor<;>kernel_rfl)
theorem A3:TIok Tryz.prog 42 ⟨1,false,78,1,24,[.nils],[]⟩:=(by constructor<;>kernel_rfl)
theorem A2:TIok Tryz.prog 58 ⟨1,false,9,1,24,[.nils],[]⟩:=(by constructor<;>kernel_rfl)
theorem A1:TIok Tryz.prog 63 ⟨1,false,2,1,24,[.nils],[]⟩:=(by constructor<;>kernel_rfl)
theorem A0:TIok Tryz.prog 65 ⟨3,true,0,2,32,[.int .i64 0,.nils],[(0,1),(1,1)]⟩:=(by constructor<;>kernel_rfl)
theorem AZ:TIok Tryz.prog 69 ⟨3,true,0,2,32,[.int .i64 0,.nils],[(0,1),(1,1)]⟩:=(by constructor<;>kernel_rfl)
theorem AY:TIok Tryz.prog 71 ⟨3,true,0,2,16,[.int .i64 0,.int .i64 0],[(0,1),(1,1)]⟩:=(by constructor<;>kernel_rfl)
theorem AX:TIok Tryz.prog 78 ⟨3,true,0,5,72,[.int .i64 0,.int .i64 0,.int .i64 0,.nils,.nils],[(0,1),(1,1),(2,2),(4,1)]⟩:=(by constructor<;>kernel_rfl)
theorem AW:TIok Tryz.prog 84 ⟨6,false,0,1,8,[.nilp],[]⟩:=(by constructor<;>kernel_rfl)
theorem AV:TIok Tryz.prog 85 ⟨1,false,5,1,24,[.nils],[]⟩:=(by constructor<;>kernel_rfl)
theorem AU:TIok Tryz.prog 87 ⟨3,true,0,2,32,[.nilp,.nils],[(0,1),(1,1)]⟩:=(by constructor<;>kernel_rfl)
theorem zc:TIok Tryz.prog 131 ⟨6,false,0,1,8,[.nilp],[]⟩:=(by constructor<;>kernel_rfl)
theorem zb:TIok Tryz.prog 170 ⟨4,false,0,1,8,[.int .u64 0],[]⟩:=(by constructor<;>kernel_rfl)
theorem za:TIok Tryz.prog 179 ⟨4,false,0,1,4,[.int .u32 0],[]⟩:=(by constructor<;>kernel_rfl)
theorem y9:TIok Tryz.prog 183 ⟨4,false,0,1,8,[.int .u64 0],[]⟩:=(by constructor<;>kernel_rfl)
theorem y8:TIok Tryz.prog 202 ⟨3,true,0,2,2,[.int .u8 0,.int .u8 0],[(0,1),(1,1)]⟩:=(by constructor<;>kernel_rfl)
theorem y7:TIok Tryz.prog 211 ⟨3,true,0,1,16,[.str ByteArray.empty],[(0,1)]⟩:=(by constructor<;>kernel_rfl)
theorem y6:TTok Tryz.prog tt:=⟨tt2,tt3,tt4,tt5,tt9,Ba,A9,A8,A7,A6,A5,A4,A3,A2,A1,A0,AZ,AY,AX,AW,AV,AU,zc,zb,za,y9,y8,y7,ao⟩
theorem tY:TTplain tt=true:=by kernel_rfl
theorem xt:Tryz.prog.follows .mixedOrders=true:=by kernel_rfl
theorem ae{σ:Sg}{Q:Exit→St→Prop}{s:St}{id:Nat}{l:List Oper}{y:Code}(h:AOps σ l.toArray (jJ (AWP σ y Q) Q) l s):AWP σ (.seq (.region id l.toArray false) y) Q s:=AWP.seq (AWP.region h)
theorem jn{σ:Sg}{Q:Exit→St→Prop}{s:St}{all:Array Oper}(h:Q .normal s):AOps σ all Q [] s:=AOps.nil h
theorem be{σ:Sg}{Q:Exit→St→Prop}{s:St}{all:Array Oper}{id:Nat}{l:List Oper}{y:Code}(h:AOps σ l.toArray (jJ (AWP σ y Q) Q) l s):AOps σ all (jJ (AWP σ (.seq (.region id l.toArray false) y) Q) Q) [] s:=AOps.nil (AWP.seq (AWP.region h))
theorem aQ:(∀{α β:Type} {f:α→β} {l:List α},(l.map f).length=l.length)∧(∀{α:Type} [BEq α] [LawfulBEq α] {a b:α},(a==b)=true↔a=b)∧(∀{p:Prop} [Decidable p],(decide p=true)=p)∧(∀{p:Prop} [Decidable p],(decide p=false)↔¬p)∧(∀{b:Bool},((!b)=true)=(b=false))∧(∀{b:Bool},((!b)=false)=(b=true))∧((!true)=false)∧((!false)=true)∧(∀{a b:Int},¬a<b↔b≤a)∧(∀{a b:Int},¬a≤b↔b<a):=by
 refine⟨?_,?_,?_,?_,?_,?_,?_,?_,?_,?_⟩<;>intros<;>simp
theorem aB{σ:Sg}{Q:cg}{all:Array Oper}{l:List Oper}{e:List (Nat×A)}{H H':List (Nat×B)}(K:AOps σ all Q l ⟨e,H'⟩)(h:HN H H':=by repeat' (first|apply HN.cons rfl|exact HN.nil rfl|exact BN.row rfl|exact BN.map rfl|apply BN.box rfl|apply MN.cons rfl|exact MN.nil rfl|exact XN.d rfl|exact XN.rs rfl|exact nb)):AOps σ all Q l ⟨e,H⟩:=r7 h K
theorem nv{σ:Sg}{Q:Exit→St→Prop}{c:Code}{e:List (Nat×A)}{H H':List (Nat×B)}(K:AWP σ c Q ⟨e,H'⟩)(h:HN H H':=by repeat' (first|apply HN.cons rfl|exact HN.nil rfl|exact BN.row rfl|exact BN.map rfl|apply BN.box rfl|apply MN.cons rfl|exact MN.nil rfl|exact XN.d rfl|exact XN.rs rfl|exact nb)):AWP σ c Q ⟨e,H⟩:=uD h K
def yu(e:List (Nat×A)):List Nat→Option (List (Nat×A))
  | []=>some []
  | k :: ks=>match lk e k,yu e ks with
    | some v,some r=>some ((k,v)::r)
    | _,_=>none
theorem m7{e:List (Nat×A)}: ∀{ks:List Nat} {e':List (Nat×A)},yu e ks=some e'→envSub e e'
 | [],e',h=>by cases h;trivial
 | k::ks,e',h=>by
  unfold yu at h
  split at h
  rename_i v r h1 h2
  cases h
  exact⟨h1,m7 h2⟩
  cases h
theorem jf{σ:Sg}{Q:Exit→St→Prop}{all:Array Oper}{l:List Oper}{e e':List (Nat×A)}{H:List (Nat×B)}(ks:List Nat)(h:yu e ks=some e')(K:AOps σ all Q l ⟨e',H⟩):AOps σ all Q l ⟨e,H⟩:=oN e' (m7 h) K
theorem jw{σ:Sg}{Q:Exit→St→Prop}{c:Code}{e e':List (Nat×A)}{H:List (Nat×B)}(ks:List Nat)(h:yu e ks=some e')(K:AWP σ c Q ⟨e',H⟩):AWP σ c Q ⟨e,H⟩:=ql e' (m7 h) K


noncomputable abbrev SG(L nt:Nat):Sg:=⟨Tryz.prog,tt,L,nt,[]⟩
theorem xp{L nt}(h1:4096≤L)(h2:L≤9223372036854775807):SgOk (SG L nt):=⟨y6,tY,h1,h2,xt⟩
theorem jB{L f:Nat}{fn:Func}{c:Code}{args:List A}{Q:A→List (Nat×B)→Prop}(nt:Nat)(h1:4096≤L)(h2:L≤1073741824)(hf:Tryz.prog.funcs[f]? = some fn)(hz:(fn.body,fn.ntmps,Nat.ble args.length nt)=(some c,nt,true))(h:SgOk (SG L nt)→As.fact L args→AWP (SG L nt) c (fun e s=>(e= .ret∨e= .normal)∧∃s2,Ent (SG L nt) s s2∧∃res,dw tt s2 fn.results.toList=some res∧Q res s2.H) ⟨bD 0 args,[]⟩)(hn:(fn.name== "runtime.NumGoroutine")=false:=by kernel_rfl):MC Tryz.prog L f args [] Q:=have hσ:=xp (nt:=nt) h1 (Nat.le_trans h2 (by decide));have hz:=Prod.mk.inj hz;have hy:=Prod.mk.inj hz.2;MC.body hσ hf hn hz.1 hy.1 (Nat.le_of_ble_eq_true hy.2) (h hσ)
theorem jH{L f:Nat}{fn:Func}{c:Code}{args:List A}{Hin:List (Nat×B)}{Q:A→List (Nat×B)→Prop}(nt:Nat)(ks:List Nat)(h1:4096≤L)(h2:L≤1073741824)(hf:Tryz.prog.funcs[f]? = some fn)(hz:(fn.body,fn.ntmps,ks,Nat.ble args.length nt)=(some c,nt,Hin.map (·.1),true))(h:SgOk ⟨Tryz.prog,tt,L,nt,ks⟩→As.fact L args→AWP ⟨Tryz.prog,tt,L,nt,ks⟩ c (fun e s=>(e= .ret∨e= .normal)∧∃s2,Ent ⟨Tryz.prog,tt,L,nt,ks⟩ s s2∧∃res,dw tt s2 fn.results.toList=some res∧Q res s2.H) ⟨bD 0 args,Hin⟩)(hn:(fn.name== "runtime.NumGoroutine")=false:=by kernel_rfl):MC Tryz.prog L f args Hin Q:=have hσ:=nk (js:=ks) (xp (nt:=nt) h1 (Nat.le_trans h2 (by decide)));have hz:=Prod.mk.inj hz;have hy:=Prod.mk.inj hz.2;have hx:=Prod.mk.inj hy.2;uA hσ hf hn hz.1 hy.1 hx.1 (Nat.le_of_ble_eq_true hx.2) (h hσ)
abbrev MQ{L:Nat}(h1:4096≤L)(h2:L≤1073741824)(f:Nat)(ds:List A)(Hin:List (Nat×B))(Q:A→List (Nat×B)→Prop):Prop:=MC Tryz.prog L f ds Hin Q
abbrev eI(n:Int):A:=.c (.d (.int .i64 n))
abbrev eB(b:Bool):A:=.c (.d (.bool b))
abbrev cf(xs:List Int):D:=.slc 1 (xs.map fun n=>[.int .i64 n])
structure Tm where
  c:Int
  xs:List Int
  deriving Inhabited
abbrev Tm.cells(t:Tm):List D:=[.int .i64 t.c,cf t.xs]
abbrev ptr(cs:List D):A:=.c (.d (.ptr cs 0))
def jF(x:Int):Bool:=decide (-1000000≤x)&&decide (x≤1000000)
def Tm.ok(t:Tm):Bool:=!(bif (bif !jF t.c then true else decide ((10:Int)<t.xs.length))then true else bif decide ((0:Int)<t.xs.length)then decide (t.xs.getD ((t.xs.length:Int)-1).toNat default=0)else false)&&t.xs.all jF
theorem gU{α:Type}{p:α→Bool}{xs:List α}(h: ∀j (hj:j<xs.length),p xs[j]=true):xs.all p=true:=by
 rw[List.all_eq_true];intro x hx
 obtain⟨j,hj,rfl⟩:=List.mem_iff_getElem.1 hx
 exact h j hj
theorem fJ{α:Type}{p:α→Bool}{xs:List α}(j:Nat)(hj:j<xs.length)(h:p xs[j]=false):xs.all p=false:=by
 rw[List.all_eq_false];exact⟨xs[j],List.getElem_mem _,by simp[h]⟩
theorem getD_lt{α:Type}[Inhabited α]{xs:List α}{j:Nat}(hj:j<xs.length):xs.getD j default=xs[j]:=by simp[hj]

variable{x lo hi:Int}
theorem lI:MQ h1 h2 26 [eI x,eI lo,eI hi] [] (Plain (eB (decide (lo≤x)&&decide (x≤hi)))):=by
 refine au ?_ Z
 refine jB 15 h1 h2 Tryz.func26 Z fun O hF=>?_
 refine ae (js Z (be (aM Z (ar 3 Z Z Z (fun hx=>aq hx Z (aq hx Z (aq hx Z (AN.nil)))) Z Z (aa (aj O Z Z Z Z Z) Z (js Z (jr ?_)))))))
 refine ay Z ?_
 rw[Bool.cond_false_right]
theorem uQ:MQ h1 h2 155 [eI x] [] (Plain (eB (jF x))):=by
 refine au ?_ Z
 refine jB 5 h1 h2 Tryz.func155 Z fun O hF=>?_
 refine ae (js Z (be (js Z (aO Z (lI h1 h2) 5000 Z (js Z (jr ?_))))))
 refine ay Z ?_
 first|rfl|skip
variable{t:Tm}
theorem uR:MQ h1 h2 154 [ptr t.cells] [] (Plain (eB t.ok)):=by
 refine au ?_ Z
 refine jB 49 h1 h2 Tryz.func154 Z fun O hF=>?_
 have hl:t.xs.length≤L:=by simpa[As.fact,A.fact,M.fact,D.fact,Ds.fact]using hF.1.2.1.1
 refine ae (js Z (be (aM Z (cm Z (js Z (jn (ag (ae (aM Z (aO Z (uQ h1 h2) 15000 Z (ac Z (ar 2 Z Z Z (fun hx=>aq hx Z (aq hx Z (AN.nil))) Z Z (aa (al O Z Z Z Z Z) Z (js Z (ar 13 Z Z Z (fun hx=>aq hx Z (aq hx Z (aq hx Z (pS 9 Z Z Z Z (fun hx'=>aq hx' Z (aq hx' Z (aq hx' Z (aq hx' Z (aq hx' Z (bf hx' (vF Z) Z (bf hx' (vD Z) Z (aq hx' Z (aq hx' Z (AN.nil)))))))))) Z Z (bf hx (aj O Z Z Z Z Z) Z (AN.nil)))))) Z Z (aa (al O Z Z Z Z Z) Z (jn (ak Z (fun z34=>?_) (fun z34=>?_)))))))))))))))))))
 try simp only[aQ]at z34
 refine ae (js Z (jr ?_))
 refine ay Z ?_
 simp only[Tm.ok,z34,Bool.not_true,Bool.false_and]
 try simp only[aQ]at z34
 refine af (ag (ae (js Z (jn (am (av (X:=Nat) (fun i=>⟨[(0,ptr t.cells),(3,eI t.xs.length),(4,eI i)],[]⟩) (fun i=>i≤t.xs.length∧∀j (h:j<t.xs.length),j<i→jF t.xs[j]=true) (fun i=>t.xs.length-i) 0 (Ent.env ⟨Z,Z,Z,ao⟩) ?_ (fun i hi=>?_)))))))
 exact⟨ca _,fun j h hj=>absurd hj (Nat.not_lt_zero j)⟩
 refine ag (ae (aF Z (jn (ak Z (fun z37=>?_) (fun z37=>?_)))))
 try simp only[aQ]at z37
 refine af (ag (am (ae (aM Z (js Z (lA Z Z (js Z (aO Z (uQ h1 h2) 48000 Z (js Z (jn (ak Z (fun z48=>?_) (fun z48=>?_))))))))))))
 try simp only[aQ]at z48
 refine ae (js Z (jr ?_))
 refine ay Z ?_
 rw[Int.toNat_natCast,getD_lt (by omega)]at z48
 simp only[Tm.ok,fJ i (by omega) z48,Bool.and_false]
 try simp only[aQ]at z48
 refine af (ab (js Z (ji Z (js Z (jn ?_)))))
 refine⟨i+1,Ent.env ⟨Z,Z,Z,ao⟩,⟨by omega,fun j h hj=>?_⟩,by omega⟩
 by_cases e:j=i
 subst e;rw[Int.toNat_natCast,getD_lt h]at z48;exact z48
 exact hi.2 j h (by omega)
 try simp only[aQ]at z37
 refine aJ (ae (js Z (jr ?_)))
 refine ay Z ?_
 simp only[Tm.ok,z34,Bool.not_false,Bool.true_and]
 rw[gU (fun j hj=>hi.2 j hj (by omega))]
abbrev cL(xs:List Int):B:=.row true 1 (xs.map fun n=>[.int .i64 n])
abbrev cd(xs:List Int):A:=.c (.d (cf xs))
variable{xs:List Int}
theorem y2:MQ h1 h2 153 [cd xs] [] (Rows (.c (.rs 0 0 xs.length)) [cL xs]):=by
 refine cK (jB 6 h1 h2 Tryz.func153 Z fun O hF=>?_)
 have hl:xs.length≤L:=by simpa[As.fact,A.fact,M.fact,D.fact,Ds.fact]using hF.1.1
 refine ?_
 refine ae (js Z (be (aY (HS.lit O Z Z Z) Z (js Z (aY (cZ (own:=true) O Z (.row Z Z) (.slc (.inr (Scal.map (fun _=>rfl)))) (by simp) Z (by first|omega|(dsimp only[bd,db,List.length_nil];omega)|(simp only[aQ]at *;omega)|(simp;omega)) (by first|omega|(dsimp only[bd,db,List.length_nil];omega)|(simp only[aQ]at *;omega)|(simp;omega)) Z Z) Z (js Z (jr ?_)))))))
 refine⟨.inl Z,_,cY,_,Z,[5],by decide,Z,?_,?_⟩
 simp[A.lab,M.lab]
 rfl
theorem yZ:MQ h1 h2 132 [cd xs] [] (Rows (.c (.rs 0 0 xs.length)) [cL xs]):=by
 refine cK (jB 6 h1 h2 Tryz.func132 Z fun O hF=>?_)
 have hl:xs.length≤L:=by simpa[As.fact,A.fact,M.fact,D.fact,Ds.fact]using hF.1.1
 refine ?_
 refine ae (js Z (be (aY (HS.lit O Z Z Z) Z (js Z (aY (cZ (own:=true) O Z (.row Z Z) (.slc (.inr (Scal.map (fun _=>rfl)))) (by simp) Z (by first|omega|(dsimp only[bd,db,List.length_nil];omega)|(simp only[aQ]at *;omega)|(simp;omega)) (by first|omega|(dsimp only[bd,db,List.length_nil];omega)|(simp only[aQ]at *;omega)|(simp;omega)) Z Z) Z (js Z (jr ?_)))))))
 refine⟨.inl Z,_,cY,_,Z,[5],by decide,Z,?_,?_⟩
 simp[A.lab,M.lab]
 rfl

theorem Cg{ys:List Int}:MQ h1 h2 152 [cd xs,cd ys] [] (Plain (eB (decide (xs=ys)))):=by
 refine au ?_ Z
 refine jB 26 h1 h2 Tryz.func152 Z fun O hF=>?_
 have hl:xs.length≤L:=by simpa[As.fact,A.fact,M.fact,D.fact,Ds.fact]using hF.1.1
 have hl2:ys.length≤L:=by simpa[As.fact,A.fact,M.fact,D.fact,Ds.fact]using hF.2.1.1
 refine ae (js Z (jn (ag (ae (js Z (cm Z (js Z (cm Z (js Z (jn (ak Z (fun z10=>?_) (fun z10=>?_))))))))))))
 try simp only[aQ]at z10
 refine ae (js Z (jr ?_))
 refine ay Z ?_
 rw[decide_eq_false (fun e=>by subst e;simp at z10)]
 try simp only[aQ]at z10
 refine af (ag (ae (js Z (jn (am (av (X:=Nat) (fun i=>⟨[(0,cd xs),(1,cd ys),(5,eI i)],[]⟩) (fun i=>i≤xs.length∧∀j,j<i→xs[j]? = ys[j]?) (fun i=>xs.length-i) 0 (Ent.env ⟨Z,Z,Z,ao⟩) ?_ (fun i hi=>?_)))))))
 exact⟨ca _,fun j hj=>absurd hj (Nat.not_lt_zero j)⟩
 refine ag (ae (ac Z (cm Z (js Z (jn (ak Z (fun z14=>?_) (fun z14=>?_)))))))
 try simp only[aQ]at z14
 refine af (ag (am (ag (lC [_,_,_,_,_,_,_,_,_] [bC,bC,bb [0,1],bb [0,1,2],bC,bC,bb [4,5],bb [4,5,6],bb (rg 0 8)] [] [_] (kc Z (kc Z (ai (vD Z) (kc Z (kc Z (kc Z (ai (vD Z) (kc Z (kc Z trivial))))))))) ?_))))
 refine ak Z (fun z25=>?_) (fun z25=>?_)
 try simp only[aQ]at z25
 refine ae (js Z (jr ?_))
 refine ay Z ?_
 rw[decide_eq_false (fun e=>by subst e;simp at z25)]
 try simp only[aQ]at z25
 refine af (ab (js Z (ji Z (js Z (jn ?_)))))
 refine⟨i+1,Ent.env ⟨Z,Z,Z,ao⟩,⟨by omega,fun j hj=>?_⟩,by omega⟩
 rcases Nat.lt_or_ge j i with h|h
 exact hi.2 j h
 obtain rfl:j=i:=by omega
 rw[Int.toNat_natCast,getD_lt (by omega),getD_lt (by omega)]at z25
 rw[List.getElem?_eq_getElem (by omega),List.getElem?_eq_getElem (by omega),z25]
 try simp only[aQ]at z14
 refine aJ (ae (js Z (jr ?_)))
 refine ay Z ?_
 have e:xs=ys:=List.ext_getElem? fun j=>by
  rcases Nat.lt_or_ge j i with h|h
  ·
   exact hi.2 j h
  ·
   rw[List.getElem?_eq_none (by omega),List.getElem?_eq_none (by omega)]
 rw[decide_eq_true e]
deriving instance DecidableEq for Tm
abbrev Cj(t:Tm):A:=.agg [.d (.int .i64 t.c),.d (cf t.xs)]
abbrev qo(ts:List Tm):D:=.slc 2 (ts.map Tm.cells)
abbrev gB(ts:List Tm):A:=.c (.d (qo ts))
abbrev cV(ts:List Tm):B:=.row true 2 (ts.map Tm.cells)

theorem B9{s:Tm}:MQ h1 h2 102 [Cj s,Cj t] [] (Plain (eB (decide (s=t)))):=by
 refine au ?_ Z
 refine jB 16 h1 h2 Tryz.func102 Z fun O hF=>?_
 refine ae (jx Z (jx Z (js Z (jn (ag (ae (aM Z (js Z (jn (ak Z (fun z9=>?_) (fun z9=>?_)))))))))))
 try simp only[aQ]at z9
 refine ae (js Z (jr ?_))
 refine ay Z ?_
 rw[decide_eq_false (fun e=>z9 (by rw[e]))]
 try simp only[aQ]at z9
 refine af (ag (ae (aM Z (aO Z (Cg h1 h2) 15000 Z (js Z (jn (ak Z (fun z15=>?_) (fun z15=>?_))))))))
 try simp only[aQ]at z15
 refine ae (js Z (jr ?_))
 refine ay Z ?_
 rw[decide_eq_false (fun e=>z15 (by rw[e]))]
 try simp only[aQ]at z15
 refine af (ae (js Z (jr ?_)))
 refine ay Z ?_
 have e:s=t:=by cases s;cases t;simp_all
 rw[decide_eq_true e]

theorem AO{xs ys:List Tm}:MQ h1 h2 51 [gB xs,gB ys] [] (Plain (eB (decide (xs=ys)))):=by
 refine au ?_ Z
 refine jB 27 h1 h2 Tryz.func51 Z fun O hF=>?_
 have hl:xs.length≤L:=by simpa[As.fact,A.fact,M.fact,D.fact,Ds.fact]using hF.1.1
 have hl2:ys.length≤L:=by simpa[As.fact,A.fact,M.fact,D.fact,Ds.fact]using hF.2.1.1
 refine ae (js Z (jn (ag (ae (js Z (cm Z (js Z (cm Z (js Z (jn (ak Z (fun z10=>?_) (fun z10=>?_))))))))))))
 try simp only[aQ]at z10
 refine ae (js Z (jr ?_))
 refine ay Z ?_
 rw[decide_eq_false (fun e=>by subst e;simp at z10)]
 try simp only[aQ]at z10
 refine af (ag (ae (js Z (jn (am (av (X:=Nat) (fun i=>⟨[(0,gB xs),(1,gB ys),(5,eI i)],[]⟩) (fun i=>i≤xs.length∧∀j,j<i→xs[j]? = ys[j]?) (fun i=>xs.length-i) 0 (Ent.env ⟨Z,Z,Z,ao⟩) ?_ (fun i hi=>?_)))))))
 exact⟨ca _,fun j hj=>absurd hj (Nat.not_lt_zero j)⟩
 refine ag (ae (ac Z (cm Z (js Z (jn (ak Z (fun z14=>?_) (fun z14=>?_)))))))
 try simp only[aQ]at z14
 refine af (ag (am (ag (lC [_,_,_,_,_,_,_,_,_,_] [bC,bC,bb [0,1],bb [0,1,2],bC,bC,bb [4,5],bb [4,5,6],pe (rg 0 8) 0,pn (rg 0 9) 1 1] [8] [_,_] (kc Z (kc Z (ai (vD Z) (kc Z (kc Z (kc Z (ai (vD Z) (kc Z (ai (aP O (B0:=26000) Z Z Z Z (B9 h1 h2) (ah Z) Z Z Z Z Z) (kc Z trivial)))))))))) ?_))))
 refine ak Z (fun z26=>?_) (fun z26=>?_)
 try simp only[aQ]at z26
 refine ae (js Z (jr ?_))
 refine ay Z ?_
 rw[decide_eq_false (fun e=>by subst e;simp at z26)]
 try simp only[aQ]at z26
 refine af (ab (js Z (ji Z (js Z (jn ?_)))))
 refine⟨i+1,Ent.env ⟨Z,Z,Z,ao⟩,⟨by omega,fun j hj=>?_⟩,by omega⟩
 rcases Nat.lt_or_ge j i with h|h
 exact hi.2 j h
 obtain rfl:j=i:=by omega
 rw[Int.toNat_natCast,getD_lt (by omega),getD_lt (by omega)]at z26
 rw[List.getElem?_eq_getElem (by omega),List.getElem?_eq_getElem (by omega),z26]
 try simp only[aQ]at z14
 refine aJ (ae (js Z (jr ?_)))
 refine ay Z ?_
 have e:xs=ys:=List.ext_getElem? fun j=>by
  rcases Nat.lt_or_ge j i with h|h
  ·
   exact hi.2 j h
  ·
   rw[List.getElem?_eq_none (by omega),List.getElem?_eq_none (by omega)]
 rw[decide_eq_true e]
structure Sm where
  kind:Int
  var:Int
  event:Int
  sum:Tm
  index:Tm
  facts:List Tm
  deriving Inhabited,DecidableEq
structure Pm where
  pre:List Tm
  body:List Sm
  post:List Tm
  deriving Inhabited,DecidableEq
structure Sx where
  vars:List Int
  cells:List Int
  deriving Inhabited,DecidableEq
def aR{α:Type}(f:Int→α→α)(sz:α→Nat):Int→List α→List α
  | _,[]=>[]
  | k,a::r=>f k a::aR f sz (k+sz a) r
def cnt{α:Type}(sz:α→Nat)(l:List α):Nat:=(l.map sz).sum
def mk{α:Type}(f:Int→α→α)(sz:α→Nat)(k:Int)(i:Nat)(l:List α):List α:=aR f sz k (l.take i)++l.drop i
section
variable{α:Type}{f:Int→α→α}{sz:α→Nat}
theorem aD: ∀{k:Int} {l:List α},(aR f sz k l).length=l.length
 | _,[]=>rfl
 | _,a::r=>by simp[aR,aD]
theorem el{k:Int}{i:Nat}{l:List α}:(mk f sz k i l).length=l.length:=by
 simp[mk,aD];omega
theorem gh{k:Int}{l:List α}:mk f sz k 0 l=l:=by simp[mk,aR]
theorem jd{k:Int}{i:Nat}{l:List α}(h:l.length≤i):mk f sz k i l=aR f sz k l:=by
 simp[mk,List.take_of_length_le h,List.drop_of_length_le h]
theorem gO{k:Int}{i:Nat}{l:List α}(h:i<l.length):(mk f sz k i l)[i]? = some l[i]:=by
 rw[mk,List.getElem?_append_right (by simp[aD];omega)]
 simp[aD,Nat.min_eq_left (Nat.le_of_lt h)]
theorem lg: ∀{k:Int} {l:List α} {a:α},aR f sz k (l++[a])=aR f sz k l++[f (k+cnt sz l) a]
 | k,[],a=>by simp[aR,cnt]
 | k,b::r,a=>by
  have:k+(sz b:Int)+(cnt sz r:Int)=k+(cnt sz (b::r):Int):=by simp[cnt];omega
  simp[aR,lg,this]
theorem c6{l:List α}{i:Nat}(h:i<l.length):cnt sz (l.take (i+1))=cnt sz (l.take i)+sz l[i]:=by
 rw[List.take_succ_eq_append_getElem h]
 simp only[cnt,List.map_append,List.sum_append,List.map_cons,List.map_nil,List.sum_cons,List.sum_nil];omega
theorem fd{l:List α}{i:Nat}:cnt sz (l.take i)≤cnt sz l:=by
 have:cnt sz l=cnt sz (l.take i)+cnt sz (l.drop i):=by rw[cnt,cnt,cnt,←List.sum_append,←List.map_append,List.take_append_drop]
 omega
theorem fG{k:Int}{i:Nat}{l:List α}(h:i<l.length):(mk f sz k i l).set i (f (k+cnt sz (l.take i)) l[i])=mk f sz k (i+1) l:=by
 have h1:(aR f sz k (l.take i)).length=i:=by rw[aD,List.length_take];omega
 rw[mk,List.set_append_right _ _ (by omega),h1,Nat.sub_self,mk,List.take_succ_eq_append_getElem h,lg,List.drop_eq_getElem_cons h,List.set_cons_zero]
 simp only[dh,List.singleton_append]
end
abbrev mI:Int→Int→Int:=fun k _=>k
abbrev cv:Int→Nat:=fun _=>1
theorem ot{l:List Int}:cnt cv l=l.length:=by
 induction l with
 | nil=>rfl
 | cons a r ih=>
  have:cv a=1:=rfl
  simp only[cnt,List.map_cons,List.sum_cons,db]at ih ⊢;omega
theorem md{k:Int}{xs:List Int}{j:Nat}(h:j<xs.length):(aR mI cv k xs)[j]? = some (k+j):=by
 have h1:=gO (f:=mI) (sz:=cv) (k:=k) (l:=xs) h
 have h2:=fG (f:=mI) (sz:=cv) (k:=k) (l:=xs) h
 have h3:(mk mI cv k (j+1) xs)[j]? = some (k+j):=by
  rw[←h2,List.getElem?_set]
  have e:cnt cv (xs.take j)=j:=by rw[ot,List.length_take];omega
  simp[el,h,e]
 have h4:(mk mI cv k (j+1) xs)[j]? = (aR mI cv k (xs.take (j+1)))[j]? := by
  rw[mk,List.getElem?_append_left (by rw[aD,List.length_take];omega)]
 have key: ∀{k:Int} {l:List Int} {n j:Nat},j<n→(aR mI cv k (l.take n))[j]? = (aR mI cv k l)[j]? := by
  intro k l
  induction l generalizing k with
  | nil=>intro n j _;simp
  | cons a r ih=>
   intro n j hj
   cases n with
   | zero=>omega
   | succ n=>
    cases j with
    | zero=>simp[aR]
    | succ j=>simp only[List.take_succ_cons,aR,List.getElem?_cons_succ];exact ih (by omega)
 rw[←key (Nat.lt_succ_self j),←h4,h3]
abbrev mT:Int→Tm→Tm:=fun k t=>⟨k,aR mI cv (k+1) t.xs⟩
abbrev nT:Tm→Nat:=fun t=>1+t.xs.length
variable{k:Int}
theorem yi(hk0:0≤k)(hk1:k≤1073741824):MQ h1 h2 106 [.c (.rs 0 0 xs.length),eI k] [(0,cL xs)] (fW (eI (k+xs.length)) [(0,cL (aR mI cv k xs))]):=by
 refine jH 19 [0] h1 h2 Tryz.func106 Z fun O hF=>?_
 refine eo 0 Z (fun hB=>?_)
 have hl:xs.length≤L:=by simpa[B.fact]using hB.1
 refine ae (js Z (jn (ag (ae (js Z (jn (am (av (X:=Nat) (fun i=>⟨[(0,.c (.rs 0 0 xs.length)),(1,eI (k+i)),(5,eI i)],[(0,cL (mk mI cv k i xs))]⟩) (fun i=>i≤xs.length) (fun i=>xs.length-i) 0 (Ent.to ⟨Z,by simp[bD,az],Z,ao⟩ (by simp[gh])) ?_ (fun i hi=>?_)))))))))
 exact ca _
 refine ag (ae (ac Z (aU Z Z (js Z (jn (ak Z (fun z9=>?_) (fun z9=>?_)))))))
 try simp only[aQ]at z9
 refine af (ag (am (ae (aF Z (aU Z Z (aY (bV (ex:=[.int .i64 (xs.getD i default)]) (xs':=(mk mI cv k (i+1) xs).map fun n=>[.int .i64 n]) O Z Z Z Z Z Z Z Z Z Z Z Z Z Z (by simp[gO (f:=mI) (sz:=cv) (k:=k) (show i<xs.length by omega),show i<xs.length by omega]) (by rw[←fG (show i<xs.length by omega),ot,List.length_take,Nat.min_eq_left hi];simp[List.map_set])) Z (jn (ab (js Z (ji Z (js Z (jn (ab (js Z (ji Z (js Z (jn ?_)))))))))))))))))
 refine⟨i+1,Ent.to ⟨Z,?_,Z,ao⟩ Z,by omega,by omega⟩
 show some (eI (k+i+1))=some (eI (k+(i+1:Nat)))
 rw[Int.natCast_add,←Int.add_assoc];rfl
 try simp only[aQ]at z9
 refine aJ (ae (ac Z (jr ?_)))
 refine ay Z ?_
 obtain rfl:i=xs.length:=by omega
 rw[jd (bQ _)]
 exact⟨Z,Z⟩
theorem AP(hk0:0≤k)(hk1:k≤1073741824):MQ h1 h2 107 [cd xs,eI k] [] (Plain (eI (if xs=aR mI cv k xs then k+xs.length else -1))):=by
 refine au ?_ Z
 refine jB 21 h1 h2 Tryz.func107 Z fun O hF=>?_
 have hl:xs.length≤L:=by simpa[As.fact,A.fact,M.fact,D.fact,Ds.fact]using hF.1.1
 refine ae (js Z (jn (ag (ae (js Z (jn (am (av (X:=Nat) (fun i=>⟨[(0,cd xs),(1,eI (k+i)),(5,eI i)],[]⟩) (fun i=>i≤xs.length∧∀j,j<i→xs[j]? = some (k+j)) (fun i=>xs.length-i) 0 (Ent.env ⟨Z,by simp[bD,az],Z,ao⟩) ?_ (fun i hi=>?_)))))))))
 exact⟨ca _,fun j hj=>absurd hj (Nat.not_lt_zero j)⟩
 refine ag (ae (ac Z (cm Z (js Z (jn (ak Z (fun z9=>?_) (fun z9=>?_)))))))
 try simp only[aQ]at z9
 refine af (ag (am (ag (ae (ac Z (lA Z Z (aF Z (jn (ak Z (fun z17=>?_) (fun z17=>?_))))))))))
 try simp only[aQ]at z17
 refine ae (js Z (jr ?_))
 refine ay Z ?_
 rw[if_neg (fun e=>z17 ?_)]
 have h1:=md (k:=k) (show i<xs.length by omega)
 rw[←e,List.getElem?_eq_getElem (by omega)]at h1
 rw[Int.toNat_natCast,getD_lt (by omega)];simpa using h1
 try simp only[aQ]at z17
 refine af (ab (js Z (ji Z (js Z (jn (ab (js Z (ji Z (js Z (jn ?_))))))))))
 refine⟨i+1,Ent.env ⟨Z,?_,Z,ao⟩,⟨by omega,fun j hj=>?_⟩,by omega⟩
 show some (eI (k+i+1))=some (eI (k+(i+1:Nat)))
 rw[Int.natCast_add,←Int.add_assoc];rfl
 rcases Nat.lt_or_ge j i with h|h
 exact hi.2 j h
 obtain rfl:j=i:=by omega
 rw[Int.toNat_natCast,getD_lt (by omega)]at z17
 rw[List.getElem?_eq_getElem (by omega)];simpa using z17
 try simp only[aQ]at z9
 refine aJ (ae (ac Z (jr ?_)))
 refine ay Z ?_
 obtain rfl:i=xs.length:=by omega
 rw[if_pos (List.ext_getElem? fun j=>?_)]
 rcases Nat.lt_or_ge j xs.length with h|h
 rw[md h];exact hi.2 j h
 rw[List.getElem?_eq_none (by omega),List.getElem?_eq_none (by rw[aD];omega)]

theorem xk:MQ h1 h2 106 [.c (.d (cf [])),eI k] [] (Plain (eI k)):=by
 refine au ?_ Z
 refine jB 19 h1 h2 Tryz.func106 Z fun O hF=>?_
 refine ae (js Z (jn (ag (ae (js Z (jn (am (av (X:=Nat) (fun i=>⟨[(0,.c (.d (cf []))),(1,eI k),(5,eI 0)],[]⟩) (fun i=>True) (fun i=>0) 0 (Ent.env ⟨Z,Z,Z,ao⟩) ?_ (fun i hi=>?_)))))))))
 trivial
 refine ag (ae (ac Z (cm Z (js Z (jn (ak Z (fun z9=>?_) (fun z9=>?_)))))))
 try simp only[aQ]at z9
 exact absurd z9 (by simp)
 try simp only[aQ]at z9
 refine aJ (ae (ac Z (jr ?_)))
 refine ay Z ?_
 first|rfl|skip
theorem Bt:MQ h1 h2 55 [.c (.d (qo [])),eI k] [] (Plain (eI k)):=by
 refine au ?_ Z
 refine jB 27 h1 h2 Tryz.func55 Z fun O hF=>?_
 refine ae (js Z (jn (ag (ae (js Z (jn (am (av (X:=Nat) (fun i=>⟨[(0,.c (.d (qo []))),(1,eI k),(5,eI 0)],[]⟩) (fun i=>True) (fun i=>0) 0 (Ent.env ⟨Z,Z,Z,ao⟩) ?_ (fun i hi=>?_)))))))))
 trivial
 refine ag (ae (ac Z (cm Z (js Z (jn (ak Z (fun z9=>?_) (fun z9=>?_)))))))
 try simp only[aQ]at z9
 exact absurd z9 (by simp)
 try simp only[aQ]at z9
 refine aJ (ae (ac Z (jr ?_)))
 refine ay Z ?_
 first|rfl|skip
variable{ts:List Tm}
theorem AA(hk0:0≤k)(hk1:k+cnt nT ts≤1073741824):MQ h1 h2 55 [.c (.rs 0 0 ts.length),eI k] [(0,cV ts)] (fW (eI (k+cnt nT ts)) [(0,cV (aR mT nT k ts))]):=by
 refine jH 27 [0] h1 h2 Tryz.func55 Z fun O hF=>?_
 refine eo 0 Z (fun hB=>?_)
 have hl:ts.length≤L:=by simpa[B.fact]using hB.1
 refine ae (js Z (jn (ag (ae (js Z (jn (am (av (X:=Nat) (fun i=>⟨[(0,.c (.rs 0 0 ts.length)),(1,eI (k+cnt nT (ts.take i))),(5,eI i)],[(0,cV (mk mT nT k i ts))]⟩) (fun i=>i≤ts.length) (fun i=>ts.length-i) 0 (Ent.to ⟨Z,by simp[bD,az,cnt],Z,ao⟩ (by simp[gh])) ?_ (fun i hi=>?_)))))))))
 exact ca _
 refine ag (ae (ac Z (aU Z Z (js Z (jn (ak Z (fun z9=>?_) (fun z9=>?_)))))))
 try simp only[aQ]at z9
 refine af (ag (am (ae (aF Z (aU Z Z (js Z ?_))))))
 have hcs:=c6 (sz:=nT) (show i<ts.length by omega)
 have hcl:=fd (sz:=nT) (l:=ts) (i:=i+1)
 have hg:=gO (f:=mT) (sz:=nT) (k:=k) (show i<ts.length by omega)
 have hs:=fG (f:=mT) (sz:=nT) (k:=k) (show i<ts.length by omega)
 rw[←getD_lt (show i<ts.length by omega)]at hcs hg hs
 obtain⟨t,ht⟩: ∃t,t=ts.getD i default:=⟨_,rfl⟩
 rw[←ht]at hcs hg hs
 simp only[nT]at hcs
 have hgl:i<(mk mT nT k i ts).length:=by rw[el];omega
 refine aY (bV (ex:=Tm.cells t) (xs':=((mk mT nT k i ts).set i ⟨k+cnt nT (ts.take i),t.xs⟩).map Tm.cells) O Z Z Z Z Z Z Z Z Z Z Z Z Z Z (by simp[hg]) (by rw[List.map_set];simp)) Z (be (js Z (ji Z (js Z (jn (ab (ac Z (aU Z Z (js Z (aa (bv O (ex:=Tm.cells ⟨k+cnt nT (ts.take i),t.xs⟩) Z Z Z Z (by simp[hgl]) Z) Z (js Z (eG O (l:=0) (j:=1) (z:=1) (ex:=Tm.cells ⟨k+cnt nT (ts.take i),t.xs⟩) (ys:=(t.xs).map (fun n=>[D.int .i64 n])) (ys':=(aR mI cv (k+cnt nT (ts.take i)+1) t.xs).map (fun n=>[D.int .i64 n])) (xs':=(mk mT nT k (i+1) ts).map Tm.cells) Z Z Z Z (.rp (.d Z .nil)) (.rp (.d Z .nil)) Z (by simp[hgl]) Z (yi (xs:=t.xs) (k:=(k+cnt nT (ts.take i)+1)) h1 h2 (by omega) (by omega)).1 (fun _=>by rw[bd];exact yi (xs:=t.xs) h1 h2 (by omega) (by omega)) (fun hys=>?_) Z (by simp[aD]) Z Z Z Z (by rw[←hs];simp[List.map_set]) ?_))))))))))))
 have hy:t.xs=[]:=by simpa using hys
 rw[hy]
 exact(xk h1 h2 (k:=(k+cnt nT (ts.take i)+1))).plain (by simp[cnt,hy])
 refine js Z (jn (ab (js Z (ji Z (js Z (jn ?_))))))
 refine⟨i+1,Ent.to ⟨Z,?_,Z,ao⟩ Z,by omega,by omega⟩
 rw[hcs]
 exact congrArg (fun z=>some (eI z)) (by omega)
 try simp only[aQ]at z9
 refine aJ (ae (ac Z (jr ?_)))
 refine ay Z ?_
 obtain rfl:i=ts.length:=by omega
 rw[jd (bQ _),List.take_length]
 exact⟨Z,Z⟩
def Tm.term(t:Tm):Bool:=t.ok&&decide ((t.xs.length:Int)≤4)
def terms(ts:List Tm)(n:Int):Bool:=ts.all Tm.term&&decide ((ts.length:Int)≤n)
def below(k:Int):Int:=if k=1 then 2 else if k=7 then 2 else if k=8 then 1 else 0
def Tm.zero(t:Tm):Bool:=decide (t.c=0)&&decide ((t.xs.length:Int)=0)

theorem yX:MQ h1 h2 157 [ptr t.cells] [] (Plain (eB t.zero)):=by
 refine au ?_ Z
 refine jB 16 h1 h2 Tryz.func157 Z fun O hF=>?_
 refine ae (js Z (be (aM Z (ac Z (ar 6 Z Z Z (fun hx=>aq hx Z (aq hx Z (aq hx Z (aq hx Z (bf hx (bF O Z Z Z Z Z Z Z Z) Z (aq hx Z (AN.nil))))))) Z Z (aa (aj O Z Z Z Z Z) Z (js Z (jr ?_))))))))
 refine ay Z ?_
 rw[Bool.cond_false_right];rfl
def Be(s:Sm):Bool:=bif bif bif bif decide (s.kind=2)then true else decide (s.kind=4)then true else decide (s.kind=6)then true else decide (s.kind=7)then true else decide (s.kind=8)
def Bg(s:Sm):Bool:=bif decide (s.kind=3)then true else decide (s.kind=4)
def yF(s:Sm):Bool:=bif decide (s.kind=2)then true else decide (s.kind=3)
def sB1(s:Sm):Bool:=bif bif bif !(decide (0≤s.kind)&&decide (s.kind≤8))then true else !s.sum.term then true else !s.index.term then true else !terms s.facts 6
def sB2(s:Sm):Bool:=bif bif bif !Be s then !s.sum.zero else false then true else bif !Bg s then !s.index.zero else false then true else bif !decide (s.kind=8)then decide ((0:Int)<s.facts.length)else false
def sB3(s:Sm):Bool:=bif bif yF s then !(decide (0≤s.var)&&decide (s.var≤3))else false then true else bif !yF s then !decide (s.var=0)else false
def ze(s:Sm):Bool:=bif sB1 s then false else bif sB2 s then false else bif sB3 s then false else bif decide (s.kind=5)then(decide (0≤s.event)&&decide (s.event≤3))else decide (s.event=0)
def big(x:Int):Bool:=decide (-1000000000≤x)&&decide (x≤1000000000)
def wz(xs:List Int)(n:Int):Bool:=xs.all big&&decide ((xs.length:Int)=n)
theorem AE{x:Int}:jF x=true↔ -1000000≤x∧x≤1000000:=by simp[jF]
abbrev i7(t:Tm):A:=.agg (t.cells.map .d)
def cQ(lo hi x:Int):Bool:=decide (lo≤x)&&decide (x≤hi)

theorem iu:MQ h1 h2 12 [eI x,eI lo,eI hi] [] (Plain (eB (cQ lo hi x))):=by
 refine au ?_ Z
 refine jB 15 h1 h2 Tryz.func12 Z fun O hF=>?_
 refine ae (js Z (be (aM Z (ar 3 Z Z Z (fun hx=>aq hx Z (aq hx Z (aq hx Z (AN.nil)))) Z Z (aa (aj O Z Z Z Z Z) Z (js Z (jr ?_)))))))
 refine ay Z ?_
 rw[Bool.cond_false_right];rfl
theorem y1:MQ h1 h2 129 [cd xs,eI lo,eI hi] [] (Plain (eB (xs.all (cQ lo hi)))):=by
 refine au ?_ Z
 refine jB 21 h1 h2 Tryz.func129 Z fun O hF=>?_
 have hl:xs.length≤L:=by simpa[As.fact,A.fact,M.fact,D.fact,Ds.fact]using hF.1.1
 refine ae (js Z (jn (ag (ae (js Z (cm Z (js Z (jn (am (av (X:=Nat) (fun i=>⟨[(1,eI lo),(2,eI hi),(9,cd xs),(10,eI xs.length),(11,eI i)],[]⟩) (fun i=>i≤xs.length∧∀j (h:j<xs.length),j<i→cQ lo hi xs[j]=true) (fun i=>xs.length-i) 0 (Ent.env ⟨Z,Z,Z,Z,Z,ao⟩) ?_ (fun i hi=>?_)))))))))))
 exact⟨ca _,fun j h hj=>absurd hj (Nat.not_lt_zero j)⟩
 refine ae (js Z (jn (ag (ak Z (fun z12=>?_) (fun z12=>?_)))))
 try simp only[aQ]at z12
 refine af (ag (am (ae (lA Z Z (ac Z (be (aF Z (aO Z (iu h1 h2) 19000 Z (js Z (jn (ak Z (fun z19=>?_) (fun z19=>?_))))))))))))
 try simp only[aQ]at z19
 refine ae (js Z (jr ?_))
 refine ay Z ?_
 rw[Int.toNat_natCast,getD_lt (by omega)]at z19
 rw[fJ i (by omega) z19]
 try simp only[aQ]at z19
 refine af (ab (ji Z (js Z (jn ?_))))
 refine⟨i+1,Ent.env ⟨Z,Z,Z,Z,Z,ao⟩,⟨by omega,fun j h hj=>?_⟩,by omega⟩
 by_cases e:j=i
 subst e;rw[Int.toNat_natCast,getD_lt h]at z19;exact z19
 exact hi.2 j h (by omega)
 try simp only[aQ]at z12
 refine aJ (ae (js Z (jr ?_)))
 refine ay Z ?_
 rw[gU (fun j hj=>hi.2 j hj (by omega))]
theorem xl:MQ h1 h2 128 [eI x] [] (Plain (eB (jF x))):=by
 refine au ?_ Z
 refine jB 5 h1 h2 Tryz.func128 Z fun O hF=>?_
 refine ae (js Z (be (js Z (aO Z (iu h1 h2) 5000 Z (js Z (jr ?_))))))
 refine ay Z ?_
 first|rfl|skip
theorem uX(t:Tm):(bif bif bif decide ((t.xs.length:Int)≤10)then jF t.c else false then t.xs.all jF else false then bif decide ((t.xs.length:Int)=0)then true else !decide (t.xs.getD ((t.xs.length:Int)-1).toNat default=0)else false)=t.ok:=by
 unfold Tm.ok
 cases jF t.c<;>cases t.xs.all jF<;>simp
 by_cases h0:t.xs=[]
 simp[h0]
 have h1:0<t.xs.length:=List.length_pos_iff.2 h0
 by_cases h2:(t.xs.length:Int)≤10
 have h3: ¬(10:Int)<t.xs.length:=by omega
 simp[h0,h1,h2,h3]
 have h3:(10:Int)<t.xs.length:=by omega
 simp[h2,h3]
theorem sC:MQ h1 h2 80 [i7 t] [] (Plain (eB t.ok)):=by
 refine au ?_ Z
 refine jB 32 h1 h2 Tryz.func80 Z fun O hF=>?_
 have hl:t.xs.length≤L:=by simpa[As.fact,A.fact,M.fact,Ms.fact,D.fact,Ds.fact]using hF.1.2.1.1
 refine ae (jx Z (js Z (be (ac Z (cm Z (js Z (jf [3,2,1,0] Z (be (aF Z (jf [9,3,2,1,0] Z (ar 3 Z Z Z (fun hx=>aq hx Z (aq hx Z (bj O hx Z Z Z Z (xl h1 h2) (ah Z) Z Z Z Z Z Z Z (B0:=13000) Z (AN.nil)))) Z Z (aa (aj O Z Z Z Z Z) Z (js Z (jf [14,3,2,1,0] Z (ar 3 Z Z Z (fun hx=>aq hx Z (aq hx Z (bj O hx Z Z Z Z (y1 h1 h2) (ah Z) Z Z Z Z Z Z Z (B0:=18000) Z (AN.nil)))) Z Z (aa (aj O Z Z Z Z Z) Z (js Z (jf [19,3,2,1,0] Z (ar 11 Z Z Z (fun hx=>aq hx Z (aq hx Z (aq hx Z (pS 7 Z Z Z Z (fun hx'=>aq hx' Z (aq hx' Z (aq hx' Z (bf hx' (ax O Z Z (by first|omega|(simp only[aQ]at *;omega)) (by first|omega|(simp only[aQ]at *;omega))) Z (bf hx' (ig O Z Z Z Z Z Z Z Z (by first|omega|(simp only[aQ]at *;omega)) (m8 (by first|omega|(simp only[aQ]at *;omega)) (by first|omega|(simp only[aQ]at *;omega)))) Z (aq hx' Z (aq hx' Z (AN.nil)))))))) Z Z (bf hx (al O Z Z Z Z Z) Z (AN.nil)))))) Z Z (aa (aj O Z Z Z Z Z) Z (js Z (jf [2,1,0] Z (jr ?_)))))))))))))))))))))))
 refine ay Z ?_
 exact congrArg eB (uX t)
theorem BD:MQ h1 h2 142 [i7 t] [] (Plain (eB t.term)):=by
 refine au ?_ Z
 refine jB 11 h1 h2 Tryz.func142 Z fun O hF=>?_
 refine ae (jx Z (js Z (be (js Z (aO Z (sC h1 h2) 5000 Z (js Z (ar 4 Z Z Z (fun hx=>aq hx Z (aq hx Z (bf hx (bF O Z Z Z Z Z Z Z Z) Z (aq hx Z (AN.nil))))) Z Z (aa (aj O Z Z Z Z Z) Z (js Z (jr ?_))))))))))
 refine ay Z ?_
 rw[Bool.cond_false_right];rfl
theorem Bv:MQ h1 h2 171 [i7 t] [] (Plain (eB t.zero)):=by
 refine au ?_ Z
 refine jB 12 h1 h2 Tryz.func171 Z fun O hF=>?_
 refine ae (jx Z (js Z (be (aM Z (ar 4 Z Z Z (fun hx=>aq hx Z (aq hx Z (bf hx (bF O Z Z Z Z Z Z Z Z) Z (aq hx Z (AN.nil))))) Z Z (aa (aj O Z Z Z Z Z) Z (js Z (jr ?_))))))))
 refine ay Z ?_
 rw[Bool.cond_false_right];rfl
theorem BE:MQ h1 h2 141 [i7 t] [] (Plain (eB !t.term)):=by
 refine au ?_ Z
 refine jB 6 h1 h2 Tryz.func141 Z fun O hF=>?_
 refine ae (jx Z (js Z (be (js Z (aO Z (BD h1 h2) 5000 Z (ac Z (jr ?_)))))))
 refine ay Z ?_
 first|rfl|skip
def pd(ts:List Tm):Int:=if ts.all Tm.term=true then -1 else(ts.findIdx fun t=>!t.term:Nat)
theorem uq{ts:List Tm}(h: ∀j (hj:j<ts.length),Tm.term ts[j]=true):pd ts= -1:=by rw[pd,if_pos (gU h)]
theorem vM{ts:List Tm}{i:Nat}(hi:i<ts.length)(h: ∀j (hj:j<ts.length),j<i→Tm.term ts[j]=true)(hn:Tm.term ts[i]=false):pd ts=i:=by
 rw[pd,if_neg (by rw[fJ i hi hn];decide)]
 exact congrArg Nat.cast ((List.findIdx_eq hi).2 ⟨by simp[hn],fun j hj=>by simp[h j (by omega) hj]⟩)
theorem uo{ts:List Tm}:decide (pd ts≥0)= !ts.all Tm.term:=by
 unfold pd
 cases h:ts.all Tm.term<;>simp
theorem By:MQ h1 h2 167 [gB ts,.c (.fn 141 [])] [] (Plain (eI (pd ts))):=by
 refine au ?_ Z
 refine jB 19 h1 h2 Tryz.func167 Z fun O hF=>?_
 have hl:ts.length≤L:=by simpa[As.fact,A.fact,M.fact,D.fact,Ds.fact]using hF.1.1
 refine ae (js Z (jn (ag (ae (js Z (cm Z (js Z (jn (am (av (X:=Nat) (fun i=>⟨[(0,gB ts),(1,.c (.fn 141 [])),(7,eI ts.length),(8,eI i)],[]⟩) (fun i=>i≤ts.length∧∀j (h:j<ts.length),j<i→Tm.term ts[j]=true) (fun i=>ts.length-i) 0 (Ent.env ⟨Z,Z,Z,Z,ao⟩) ?_ (fun i hi=>?_)))))))))))
 exact⟨ca _,fun j h hj=>absurd hj (Nat.not_lt_zero j)⟩
 refine ae (js Z (jn (ag (ak Z (fun z9=>?_) (fun z9=>?_)))))
 try simp only[aQ]at z9
 refine af (ag (am (ae (ac Z (be (aF Z (lA Z Z (js Z (aO Z (BE h1 h2) 17000 Z (jn (ak Z (fun z16=>?_) (fun z16=>?_))))))))))))
 try simp only[aQ]at z16
 refine ae (ac Z (jr ?_))
 refine ay Z ?_
 rw[Int.toNat_natCast,getD_lt (by omega)]at z16
 rw[vM (by omega) hi.2 z16]
 try simp only[aQ]at z16
 refine af (ab (ji Z (js Z (jn ?_))))
 refine⟨i+1,Ent.env ⟨Z,Z,Z,Z,ao⟩,⟨by omega,fun j h hj=>?_⟩,by omega⟩
 by_cases e:j=i
 subst e;rw[Int.toNat_natCast,getD_lt h]at z16;exact z16
 exact hi.2 j h (by omega)
 try simp only[aQ]at z9
 refine aJ (ae (js Z (jr ?_)))
 refine ay Z ?_
 rw[uq (fun j hj=>hi.2 j hj (by omega))]
theorem BF:MQ h1 h2 140 [gB ts,.c (.fn 141 [])] [] (Plain (eB !ts.all Tm.term)):=by
 refine au ?_ Z
 refine jB 9 h1 h2 Tryz.func140 Z fun O hF=>?_
 refine ae (js Z (be (ac Z (aZ O Z Z Z Z (By h1 h2) (.cons (.c .d) (.cons (.c (.fn .nil)) .nil)) Z Z Z Z Z (B0:=8000) Z (ac Z (jr ?_))))))
 refine ay Z ?_
 exact congrArg eB uo
theorem rC{n:Int}:MQ h1 h2 90 [gB ts,eI n] [] (Plain (eB (terms ts n))):=by
 refine au ?_ Z
 refine jB 14 h1 h2 Tryz.func90 Z fun O hF=>?_
 refine ae (js Z (be (js Z (cm Z (aF Z (ar 3 Z Z Z (fun hx=>aq hx Z (bj O hx Z Z Z Z (BF h1 h2) (.cons (.c .d) (.cons (.c (.fn .nil)) .nil)) Z Z Z Z Z Z Z (B0:=12000) Z (aq hx Z (AN.nil)))) Z Z (aa (aj O Z Z Z Z Z) Z (js Z (jr ?_)))))))))
 refine ay Z ?_
 rw[Bool.cond_false_right,Bool.not_not,Bool.and_comm];rfl
theorem yV:MQ h1 h2 135 [eI x] [] (Plain (eB (cQ 0 3 x))):=by
 refine au ?_ Z
 refine jB 5 h1 h2 Tryz.func135 Z fun O hF=>?_
 refine ae (js Z (be (js Z (aO Z (iu h1 h2) 5000 Z (js Z (jr ?_))))))
 refine ay Z ?_
 first|rfl|skip
theorem Bz:MQ h1 h2 137 [eI x] [] (Plain (eB (cQ 0 3 x))):=by
 refine au ?_ Z
 refine jB 5 h1 h2 Tryz.func137 Z fun O hF=>?_
 refine ae (js Z (be (js Z (aO Z (iu h1 h2) 5000 Z (js Z (jr ?_))))))
 refine ay Z ?_
 first|rfl|skip
inductive Tr where
  | node (s:Sm) (at_:Int) (kids:List Tr)
mutual
def Tr.d:Tr→D
  | .node s a ks=>.ptr [.int .i64 s.kind,.int .i64 s.var,.int .i64 s.event,.int .i64 s.sum.c,cf s.sum.xs,.int .i64 s.index.c,cf s.index.xs,qo s.facts,.int .i64 a,.slc 1 (Trs.d ks)] 0
def Trs.d:List Tr→List (List D)
  | []=>[]
  | t::r=>[t.d]::Trs.d r
end
abbrev tB(r:Option (Tr×Nat)):Bool:=match r with|some _=>true|none=>false
structure RS where
  vars:List Int
  cells:List Int
  events:List Int
  fuel:Int
  steps:Int
  out:Int
structure RSok(r:RS):Prop where
  vars:wz r.vars 4=true
  cells:wz r.cells 8=true
  lo:0≤r.steps
  hi:r.steps≤r.fuel
  fuel:r.fuel≤2000
  events:(r.events.length:Int)≤r.steps
structure RSle(r r':RS):Prop where
  ok:RSok r'
  fuel:r'.fuel=r.fuel
  steps:r.steps≤r'.steps

mutual
/-- Each element is valid, and has the statements behind it that it dV. -/
def Tr.ok:Tr→Prop
  | .node s _ ks=>ze s=true∧(ks.length:Int)=below s.kind∧Trs.ok ks
def Trs.ok:List Tr→Prop
  | []=>True
  | t::r=>t.ok∧Trs.ok r
end
def r0(s:Sx)(f:Int):RS:=⟨s.vars,s.cells,[],f,0,0⟩
structure Rs where
  v:List Int
  c:List Int
  ev:List Int
  out:Int
  st:Int
structure Cf where
  n:Nat
  ws:List Nat
  v:List Int
  c:List Int
  ev:List Int
  st:Int

structure Nd where
  kind:Int
  fact:Int
  term:Tm
  mul:List Int
  deriving Inhabited,DecidableEq
structure Sq where
  facts:List Tm
  goal:Tm
  deriving Inhabited,DecidableEq
abbrev Nd.cells(n:Nd):List D:=[.int .i64 n.kind,.int .i64 n.fact,.int .i64 n.term.c,cf n.term.xs,cf n.mul]
abbrev yj(n:Nd):A:=.agg (n.cells.map .d)
abbrev wa(ns:List Nd):D:=.slc 5 (ns.map Nd.cells)
abbrev dF(ns:List Nd):A:=.c (.d (wa ns))
abbrev ky(ns:List Nd):B:=.row true 5 (ns.map Nd.cells)
abbrev mN:Int→Nd→Nd:=fun k n=>⟨k,k+1,⟨k+1+1,aR mI cv (k+1+1+1) n.term.xs⟩,aR mI cv (k+1+1+1+n.term.xs.length) n.mul⟩
abbrev nN:Nd→Nat:=fun n=>3+n.term.xs.length+n.mul.length

theorem c93{s t:Nd}:MQ h1 h2 105 [yj s,yj t] [] (Plain (eB (decide (s=t)))):=by
 refine au ?_ Z
 refine jB 27 h1 h2 Tryz.func105 Z fun O hF=>?_
 refine ae (jx Z (jx Z (js Z (jn (ag (ae (aM Z (js Z (jn (ak Z (fun z9=>?_) (fun z9=>?_)))))))))))
 try simp only[aQ]at z9
 refine ae (js Z (jr ?_))
 refine ay Z ?_
 rw[decide_eq_false (fun e=>z9 (by rw[e]))]
 try simp only[aQ]at z9
 refine af (ag (ae (aM Z (js Z (jn (ak Z (fun z14=>?_) (fun z14=>?_)))))))
 try simp only[aQ]at z14
 refine ae (js Z (jr ?_))
 refine ay Z ?_
 rw[decide_eq_false (fun e=>z14 (by rw[e]))]
 try simp only[aQ]at z14
 refine af (ag (ae (aM Z (aO Z (B9 h1 h2) 20000 Z (js Z (jn (ak Z (fun z20=>?_) (fun z20=>?_))))))))
 try simp only[aQ]at z20
 refine ae (js Z (jr ?_))
 refine ay Z ?_
 rw[decide_eq_false (fun e=>z20 (by rw[e]))]
 try simp only[aQ]at z20
 refine af (ag (ae (aM Z (aO Z (Cg h1 h2) 26000 Z (js Z (jn (ak Z (fun z26=>?_) (fun z26=>?_))))))))
 try simp only[aQ]at z26
 refine ae (js Z (jr ?_))
 refine ay Z ?_
 rw[decide_eq_false (fun e=>z26 (by rw[e]))]
 try simp only[aQ]at z26
 refine af (ae (js Z (jr ?_)))
 refine ay Z ?_
 have e:s=t:=by cases s;cases t;simp_all
 rw[decide_eq_true e]
theorem c37{xs ys:List Nd}:MQ h1 h2 54 [.c (.d (wa xs)),.c (.d (wa ys))] [] (Plain (eB (decide (xs=ys)))):=by
 refine au ?_ Z
 refine jB 27 h1 h2 Tryz.func54 Z fun O hF=>?_
 have hl:xs.length≤L:=by simpa[As.fact,A.fact,M.fact,D.fact,Ds.fact]using hF.1.1
 have hl2:ys.length≤L:=by simpa[As.fact,A.fact,M.fact,D.fact,Ds.fact]using hF.2.1.1
 refine ae (js Z (jn (ag (ae (js Z (cm Z (js Z (cm Z (js Z (jn (ak Z (fun z10=>?_) (fun z10=>?_))))))))))))
 try simp only[aQ]at z10
 refine ae (js Z (jr ?_))
 refine ay Z ?_
 rw[decide_eq_false (fun e=>by subst e;simp at z10)]
 try simp only[aQ]at z10
 refine af (ag (ae (js Z (jn (am (av (X:=Nat) (fun i=>⟨[(0,.c (.d (wa xs))),(1,.c (.d (wa ys))),(5,eI i)],[]⟩) (fun i=>i≤xs.length∧∀j,j<i→xs[j]? = ys[j]?) (fun i=>xs.length-i) 0 (Ent.env ⟨Z,Z,Z,ao⟩) ?_ (fun i hi=>?_)))))))
 exact⟨ca _,fun j hj=>absurd hj (Nat.not_lt_zero j)⟩
 refine ag (ae (ac Z (cm Z (js Z (jn (ak Z (fun z14=>?_) (fun z14=>?_)))))))
 try simp only[aQ]at z14
 refine af (ag (am (ag (lC [_,_,_,_,_,_,_,_,_,_] [bC,bC,bb [0,1],bb [0,1,2],bC,bC,bb [4,5],bb [4,5,6],pe (rg 0 8) 0,pn (rg 0 9) 1 1] [8] [_,_] (kc Z (kc Z (ai (vD Z) (kc Z (kc Z (kc Z (ai (vD Z) (kc Z (ai (aP O (B0:=26000) Z Z Z Z (c93 h1 h2) (ah Z) Z Z Z Z Z) (kc Z trivial)))))))))) ?_))))
 refine ak Z (fun z26=>?_) (fun z26=>?_)
 try simp only[aQ]at z26
 refine ae (js Z (jr ?_))
 refine ay Z ?_
 rw[decide_eq_false (fun e=>by subst e;simp at z26)]
 try simp only[aQ]at z26
 refine af (ab (js Z (ji Z (js Z (jn ?_)))))
 refine⟨i+1,Ent.env ⟨Z,Z,Z,ao⟩,⟨by omega,fun j hj=>?_⟩,by omega⟩
 rcases Nat.lt_or_ge j i with h|h
 exact hi.2 j h
 obtain rfl:j=i:=by omega
 rw[Int.toNat_natCast,getD_lt (by omega),getD_lt (by omega)]at z26
 rw[List.getElem?_eq_getElem (by omega),List.getElem?_eq_getElem (by omega),z26]
 try simp only[aQ]at z14
 refine aJ (ae (js Z (jr ?_)))
 refine ay Z ?_
 have e:xs=ys:=List.ext_getElem? fun j=>by
  rcases Nat.lt_or_ge j i with h|h
  ·
   exact hi.2 j h
  ·
   rw[List.getElem?_eq_none (by omega),List.getElem?_eq_none (by omega)]
 rw[decide_eq_true e]
theorem Bu:MQ h1 h2 58 [.c (.d (wa [])),eI k] [] (Plain (eI k)):=by
 refine au ?_ Z
 refine jB 50 h1 h2 Tryz.func58 Z fun O hF=>?_
 refine ae (js Z (jn (ag (ae (js Z (jn (am (av (X:=Nat) (fun i=>⟨[(0,.c (.d (wa []))),(1,eI k),(5,eI 0)],[]⟩) (fun i=>True) (fun i=>0) 0 (Ent.env ⟨Z,Z,Z,ao⟩) ?_ (fun i hi=>?_)))))))))
 trivial
 refine ag (ae (ac Z (cm Z (js Z (jn (ak Z (fun z9=>?_) (fun z9=>?_)))))))
 try simp only[aQ]at z9
 exact absurd z9 (by simp)
 try simp only[aQ]at z9
 refine aJ (ae (ac Z (jr ?_)))
 refine ay Z ?_
 first|rfl|skip
theorem Ce{ts:List Nd}(hk0:0≤k)(hk1:k+cnt nN ts≤1073741824):MQ h1 h2 58 [.c (.rs 0 0 ts.length),eI k] [(0,ky ts)] (fW (eI (k+cnt nN ts)) [(0,ky (aR mN nN k ts))]):=by
 refine jH 50 [0] h1 h2 Tryz.func58 Z fun O hF=>?_
 refine eo 0 Z (fun hB=>?_)
 have hl:ts.length≤L:=by simpa[B.fact]using hB.1
 refine ae (js Z (jn (ag (ae (js Z (jn (am (av (X:=Nat) (fun i=>⟨[(0,.c (.rs 0 0 ts.length)),(1,eI (k+cnt nN (ts.take i))),(5,eI i)],[(0,ky (mk mN nN k i ts))]⟩) (fun i=>i≤ts.length) (fun i=>ts.length-i) 0 (Ent.to ⟨Z,by simp[bD,az,cnt],Z,ao⟩ (by simp[gh])) ?_ (fun i hi=>?_)))))))))
 exact ca _
 refine ag (ae (ac Z (aU Z Z (js Z (jf [9,0,1,5] Z (jn (ak Z (fun z9=>?_) (fun z9=>?_))))))))
 try simp only[aQ]at z9
 refine af (ag (am (ae (aF Z (aU Z Z (js Z (jf [16,14,9,0,1,5] Z ?_)))))))
 obtain⟨K,hK⟩: ∃K,K=k+(cnt nN (ts.take i):Int):=⟨_,rfl⟩
 rw[←hK]
 have hcs:=c6 (sz:=nN) (show i<ts.length by omega)
 have hcl:=fd (sz:=nN) (l:=ts) (i:=i+1)
 have hg:=gO (f:=mN) (sz:=nN) (k:=k) (show i<ts.length by omega)
 have hs:=fG (f:=mN) (sz:=nN) (k:=k) (show i<ts.length by omega)
 rw[←getD_lt (show i<ts.length by omega)]at hcs hg hs
 obtain⟨t,ht⟩: ∃t,t=ts.getD i default:=⟨_,rfl⟩
 rw[←ht]at hcs hg hs
 rw[←hK]at hs
 simp only[nN]at hcs
 have hb:K+(3+t.term.xs.length+t.mul.length:Nat)≤1073741824:=by omega
 obtain⟨R,hR⟩: ∃R,R=(mk mN nN k i ts).map Nd.cells:=⟨_,rfl⟩
 have hRl:i<R.length:=by rw[hR,bd,el];omega
 have hRi:R[i]? = some t.cells:=by rw[hR,List.getElem?_map,hg];rfl
 have hRn:R.set i (mN K t).cells=(mk mN nN k (i+1) ts).map Nd.cells:=by rw[hR,←hs,List.map_set]
 have e0:ky (mk mN nN k i ts)= .row true 5 (R.set i t.cells):=by rw[eh hRi,hR]
 rw[e0]
 refine aY (bV (ex:=[.int .i64 (t.kind),.int .i64 (t.fact),.int .i64 (t.term.c),cf (t.term.xs),cf (t.mul)]) (xs':=R.set i [.int .i64 (K),.int .i64 (t.fact),.int .i64 (t.term.c),cf (t.term.xs),cf (t.mul)]) O Z Z Z Z Z Z Z Z Z Z Z Z Z Z (by simp[hRl]) (by simp)) Z (aB ?_)
 refine jf [9,0,1,5] Z (be (js Z (ji Z (js Z (jf [1,9,0,5] Z (be (aF Z (aU Z Z (js Z (jf [23,21,1,9,0,5] Z (aY (bV (ex:=[.int .i64 (K),.int .i64 (t.fact),.int .i64 (t.term.c),cf (t.term.xs),cf (t.mul)]) (xs':=R.set i [.int .i64 (K),.int .i64 (K+1),.int .i64 (t.term.c),cf (t.term.xs),cf (t.mul)]) O Z Z Z Z Z Z Z Z Z Z Z Z Z Z (by simp[hRl]) (by simp)) Z (aB ?_))))))))))))
 refine jf [1,9,0,5] Z (be (js Z (ji Z (js Z (jf [1,9,0,5] Z (be (aF Z (aU Z Z (ac Z (jf [31,28,1,9,0,5] Z (aY (bV (ex:=[.int .i64 (K),.int .i64 (K+1),.int .i64 (t.term.c),cf (t.term.xs),cf (t.mul)]) (xs':=R.set i [.int .i64 (K),.int .i64 (K+1),.int .i64 (K+1+1),cf (t.term.xs),cf (t.mul)]) O Z Z Z Z Z Z Z Z Z Z Z Z Z Z (by simp[hRl]) (by simp)) Z (aB ?_))))))))))))
 refine jf [1,9,0,5] Z (be (js Z (ji Z (js Z (jf [1,9,0,5] Z (be (ac Z (aU Z Z (ac Z (aa (bv O (ex:=[.int .i64 (K),.int .i64 (K+1),.int .i64 (K+1+1),cf (t.term.xs),cf (t.mul)]) Z Z Z Z (by simp[hRl]) Z) Z (js Z (jf [40,39,1,9,0,5] Z (eG O (l:=0) (j:=3) (z:=1) (ex:=[.int .i64 (K),.int .i64 (K+1),.int .i64 (K+1+1),cf (t.term.xs),cf (t.mul)]) (ys:=(t.term.xs).map (fun n=>[D.int .i64 n])) (ys':=(aR mI cv (K+1+1+1) t.term.xs).map (fun n=>[D.int .i64 n])) (xs':=R.set i [.int .i64 (K),.int .i64 (K+1),.int .i64 (K+1+1),cf (aR mI cv (K+1+1+1) t.term.xs),cf (t.mul)]) Z Z Z Z (.rp (.d Z .nil)) (.rp (.d Z .nil)) Z (by simp[hRl]) Z (yi (xs:=t.term.xs) (k:=(K+1+1+1)) h1 h2 (by omega) (by omega)).1 (fun _=>by rw[bd];exact yi (xs:=t.term.xs) h1 h2 (by omega) (by omega)) (fun hys=>?_) Z (by simp[aD]) Z Z Z Z (by simp) ?_)))))))))))))
 have hy:t.term.xs=[]:=by simpa using hys
 rw[hy]
 exact(xk h1 h2 (k:=(K+1+1+1))).plain (by simp[cnt,hy])
 refine aB ?_
 refine js Z (jf [1,9,0,5] Z (jn (ab (ac Z (aU Z Z (js Z (aa (bv O (ex:=[.int .i64 (K),.int .i64 (K+1),.int .i64 (K+1+1),cf (aR mI cv (K+1+1+1) t.term.xs),cf (t.mul)]) Z Z Z Z (by simp[hRl]) Z) Z (js Z (jf [47,46,1,9,0,5] Z (eG O (l:=0) (j:=4) (z:=1) (ex:=[.int .i64 (K),.int .i64 (K+1),.int .i64 (K+1+1),cf (aR mI cv (K+1+1+1) t.term.xs),cf (t.mul)]) (ys:=(t.mul).map (fun n=>[D.int .i64 n])) (ys':=(aR mI cv (K+1+1+1+t.term.xs.length) t.mul).map (fun n=>[D.int .i64 n])) (xs':=R.set i [.int .i64 (K),.int .i64 (K+1),.int .i64 (K+1+1),cf (aR mI cv (K+1+1+1) t.term.xs),cf (aR mI cv (K+1+1+1+t.term.xs.length) t.mul)]) Z Z Z Z (.rp (.d Z .nil)) (.rp (.d Z .nil)) Z (by simp[hRl]) Z (yi (xs:=t.mul) (k:=(K+1+1+1+t.term.xs.length)) h1 h2 (by omega) (by omega)).1 (fun _=>by rw[bd];exact yi (xs:=t.mul) h1 h2 (by omega) (by omega)) (fun hys=>?_) Z (by simp[aD]) Z Z Z Z (by simp) ?_))))))))))
 have hy:t.mul=[]:=by simpa using hys
 rw[hy]
 exact(xk h1 h2 (k:=(K+1+1+1+t.term.xs.length))).plain (by simp[cnt,hy])
 refine aB ?_
 refine js Z (jf [1,9,0,5] Z (jn (ab (js Z (ji Z (js Z (jf [5,1,9,0] Z (jn ?_))))))))
 refine⟨i+1,Ent.to ⟨Z,?_,Z,ao⟩ (by rw[ky,←hRn]),by omega,by omega⟩
 rw[hcs]
 exact congrArg (fun z=>some (eI z)) (by omega)
 try simp only[aQ]at z9
 refine aJ (ae (ac Z (jr ?_)))
 refine ay Z ?_
 obtain rfl:i=ts.length:=by omega
 rw[jd (bQ _),List.take_length]
 exact⟨Z,Z⟩
theorem zz{L:Nat}(h1:4096≤L)(h2:L≤1073741824){xs:List Int}:MC Tryz.prog L 153 [cd xs] [] (Plain (cd xs)):=(y2 h1 h2).frozen (.v (.c (.whole rfl (bd _).symm)))
theorem zy{L:Nat}(h1:4096≤L)(h2:L≤1073741824){xs:List Int}:MC Tryz.prog L 132 [cd xs] [] (Plain (cd xs)):=(yZ h1 h2).frozen (.v (.c (.whole rfl (bd _).symm)))
theorem BH:MQ h1 h2 82 [i7 t] [] (Plain (i7 t)):=by
 refine MC.data (jB 9 h1 h2 Tryz.func82 Z fun O hF=>?_)
 refine ae (jx Z (jl Z (jn (ag (lC [_,_,_,_,_,_,_] [pn [] 0 1,pn [0] 0 1,bC,bb [2],pe [2,3] 0,pn (rg 0 5) 1 1,pe (rg 0 6) 1] [4,6] [_,_,_] (ai (kc Z (V Z)) (ai (kc Z (V Z)) (kc Z (kc Z (ai (ij O (B0:=8000) Z Z Z Z (zy (xs:=t.xs) h1 h2) (ah Z) Z Z Z Z Z) (kc Z (ai (eS Z Z Z) trivial))))))) ?_)))))
 refine sq ?_
 refine ay Z ?_
 exact .v (.agg (aW Z))
def bO(xs:List Int):List Int:=(xs.reverse.dropWhile (· == 0)).reverse
theorem lV{xs:List Int}:bO (xs++[0])=bO xs:=by simp[bO]
theorem rE{xs:List Int}{x:Int}(h:x≠0):bO (xs++[x])=xs++[x]:=by simp[bO,h]
theorem jk{xs:List Int}{n:Nat}(h:n<xs.length)(h0:xs.getD n default=0):bO (xs.take (n+1))=bO (xs.take n):=by
 rw[List.take_succ_eq_append_getElem h,←getD_lt h,h0,lV]
theorem gn{xs:List Int}{n:Nat}(hn:n≤xs.length)(h:n=0∨xs.getD (n-1) default≠0):bO (xs.take n)=xs.take n:=by
 cases n with
 | zero=>simp[bO]
 | succ n=>
  have h':xs.getD n default≠0:=by
   rcases h with h|h
   cases h
   exact h
  rw[getD_lt (by omega)]at h'
  rw[List.take_succ_eq_append_getElem (by omega),rE h']
def im(c:Int)(xs:List Int):Tm×Bool:=if(Tm.mk c (bO xs)).ok=true then(⟨c,bO xs⟩,true)else(⟨0,[]⟩,false)
abbrev sK(r:Tm×Bool):A:=.tup [i7 r.1,eB r.2]
def Bc(a:Tm)(m:Int)(b:Tm)(n:Int):List Int:=(List.range 10).map fun i=>m*a.xs.getD i 0+n*b.xs.getD i 0
def Bb(a:Tm)(m:Int)(b:Tm)(n:Int):Tm×Bool:=im (m*a.c+n*b.c) (Bc a m b n)
def yL(t:Tm):Tm×Bool:=Bb t (-1) ⟨1,[]⟩ (-1)
structure Small(t:Tm):Prop where
  c:jF t.c=true
  xs:t.xs.all jF=true
theorem ok_len{t:Tm}(h:t.ok=true):t.xs.length≤10:=by
 simp only[Tm.ok,bK,Bool.not_eq_true']at h
 by_cases h1:(10:Int)<t.xs.length
 rw[decide_eq_true h1]at h
 cases jF t.c<;>simp at h
 omega
theorem Bx{c:Int}:MQ h1 h2 109 [eI c,cd xs] [] (Plain (sK (im c xs))):=by
 refine MC.data (jB 32 h1 h2 Tryz.func109 Z fun O hF=>?_)
 have hl:xs.length≤L:=by simpa[As.fact,A.fact,M.fact,D.fact,Ds.fact]using hF.2.1.1
 refine ae (jl Z (js Z (be (js Z (cm Z (js Z (jf [6,5,4,0,1] Z (jn (ag (am (av (X:=Nat) (fun n=>⟨[(0,eI c),(1,cd xs),(4,.c (.pt 4 0 0)),(6,eI n)],[(4,.box [.d (.int .i64 0),.d .nils])]⟩) (fun n=>n≤xs.length∧bO (xs.take n)=bO xs) (fun n=>n) xs.length (Ent.env ⟨Z,Z,Z,Z,ao⟩) ?_ (fun n hi=>?_))))))))))))
 exact⟨bQ _,by rw[List.take_length]⟩
 refine ag (ae (aF Z (jf [12,0,1,4,6] Z (ar 6 Z Z Z (fun hx=>aq hx Z (aq hx Z (bf hx (vF Z) Z (bf hx (vD Z) Z (aq hx Z (aq hx Z (AN.nil))))))) Z Z (aa (aj O Z Z Z Z Z) Z (jf [19,0,1,4,6] Z (jn (ak Z (fun z19=>?_) (fun z19=>?_)))))))))
 refine af (am (ab (js Z (ji Z (js Z (jf [6,19,0,1,4] Z (jn ?_)))))))
 rw[Bool.cond_false_right,bK,decide_eq_true_eq,decide_eq_true_eq]at z19
 obtain⟨k,hk⟩: ∃k,n=k+1:=⟨n-1,by omega⟩
 subst hk
 have hk2:((k+1:Nat):Int)-1=k:=by omega
 rw[hk2]at z19
 refine⟨k,Ent.to ⟨Z,Z,Z,by rw[hk2];rfl,ao⟩ Z,⟨by omega,?_⟩,Nat.lt_succ_self k⟩
 rw[←hi.2,jk (by omega) (by simpa using z19.2)]
 refine aJ (ae (aF Z ?_))
 have hd:bO (xs.take n)=xs.take n:=gn hi.1 (by
  rw[Bool.cond_false_right]at z19
  rcases Nat.eq_zero_or_pos n with h0|h0
  ·
   exact .inl h0
  ·
   refine .inr (fun h9=>?_)
   have e1:((n:Int)-1).toNat=n-1:=by omega
   rw[e1,h9]at z19;simp at z19;omega)
 have ht:=hi.2
 rw[hd]at ht
 refine aa ((br O Z Z ⟨by omega,by simp;omega⟩).cast (v':=cd (bO xs)) (by rw[←ht];simp[List.map_take])) Z (jf [25,22,19,0,1,4,6] Z (aw O Z Z Z Z (zz (xs:=bO xs) h1 h2) (ah Z) Z Z Z Z (B0:=27000) Z Z (js Z (jf [27,19,0,1,4,6] Z (jl Z (jo Z (jn (ag (ae (aZ O Z Z Z Z (uR (t:=⟨c,bO xs⟩) h1 h2) (.cons (.c (.pb (cs:=Tm.cells ⟨c,bO xs⟩) Z (aW Z))) .nil) Z Z Z Z Z (B0:=29000) Z (js Z (jn (ak Z (fun z29=>?_) (fun z29=>?_))))))))))))))
 refine ae (js Z (jo Z (js Z (jr ?_))))
 refine ay Z ?_
 have hok:(Tm.mk c (bO xs)).ok=false:=by simpa using z29
 rw[show im c xs=(⟨0,[]⟩,false)from if_neg (by rw[hok];decide)]
 exact .tup (.cons (.agg (.cons .d (.cons .nils .nil))) (.cons (.c .d) .nil))
 refine af (ae (js Z (jo Z (js Z (jr ?_)))))
 refine ay Z ?_
 have hok:(Tm.mk c (bO xs)).ok=true:=by simpa using z29
 rw[show im c xs=(⟨c,bO xs⟩,true)from if_pos hok]
 exact .tup (.cons (.agg (aW Z)) (.cons (.c .d) .nil))
def co(x:Int):Bool:=decide (0≤x)&&decide (x≤1000000)
def rB(xs:List Int):Bool:=xs.all co&&decide ((xs.length:Int)≤20)
def ndB(n:Nd):Bool:=if n.kind=1 then(decide (n.fact=0)&&n.term.zero)&&rB n.mul else if n.kind=2 then(decide (n.fact=0)&&n.term.ok)&&decide ((n.mul.length:Int)=0)else if n.kind=3 then(cQ 0 19 n.fact&&n.term.zero)&&decide ((n.mul.length:Int)=0)else false
def dl(k:Int):Int:=if k=1 then -1 else if k=2 then 1 else 0
def endK:List Nd→Int→Option Nat
  | [],need=>if need≤0 then some 0 else none
  | s::r,need=>if need≤0 then some 0 else(endK r (need+dl s.kind)).map (· + 1)
def endP(p:List Nd)(k:Nat):Int:=match endK (p.drop k) 1 with
  | some n=>k+n
  | none=> -1
def isB(p:List Nd):Bool:=(decide ((1:Int)≤p.length)&&decide ((p.length:Int)≤60))&&(p.all ndB&&decide (endP p 0=p.length))
def yl(p:List Nd)(k:Nat):Nat→Int×Bool
  | 0=>(-1,false)
  | i+1=>if(p.getD i default).kind=1∨endP p i≤k then yl p k i else(i,decide (i+1=k))
theorem oo{l:List Nd}{n:Int}(h:n≤0):endK l n=some 0:=by cases l<;>simp[endK,h]
theorem kY{n:Int}(h:0<n):endK [] n=none:=by simp[endK];omega
theorem eC{l:List Nd}{n:Int}(h:0<n){k:Nat}(hk:k<l.length):endK (l.drop k) n=(endK (l.drop (k+1)) (n+dl (l.getD k default).kind)).map (· + 1):=by
 rw[List.drop_eq_getElem_cons hk,getD_lt hk]
 show(if n≤0 then some 0 else _)=_
 rw[if_neg (by omega)]
theorem BA:MQ h1 h2 158 [cd xs] [] (Plain (eB (rB xs))):=by
 refine au ?_ Z
 refine jB 19 h1 h2 Tryz.func158 Z fun O hF=>?_
 have hl:xs.length≤L:=by simpa[As.fact,A.fact,M.fact,D.fact,Ds.fact]using hF.1.1
 refine ae (js Z (jn (ag (ae (js Z (jn (am (av (X:=Nat) (fun i=>⟨[(0,cd xs),(3,eI i)],[]⟩) (fun i=>i≤xs.length∧∀j (h:j<xs.length),j<i→co xs[j]=true) (fun i=>xs.length-i) 0 (Ent.env ⟨Z,Z,ao⟩) ?_ (fun i hi=>?_)))))))))
 exact⟨ca _,fun j h hj=>absurd hj (Nat.not_lt_zero j)⟩
 refine ag (ae (ac Z ?_))
 first|refine cm Z ?_|refine js Z ?_|refine aU Z Z ?_
 refine js Z (jn (ak Z (fun z7=>?_) (fun z7=>?_)))
 try simp only[aQ]at z7
 refine af (ag (am (ae (ac Z ?_))))
 first|refine lA Z Z ?_|refine aU Z Z ?_
 refine js Z (aO Z (lI h1 h2) 15000 Z (js Z (jn (ak Z (fun z15=>?_) (fun z15=>?_)))))
 try simp only[aQ]at z15
 refine ae (js Z (jr ?_))
 refine ay Z ?_
 rw[Int.toNat_natCast,getD_lt (by omega)]at z15
 rw[rB,fJ i (by omega) z15,Bool.false_and]
 try simp only[aQ]at z15
 refine af (ab (js Z ?_))
 first|refine ji Z ?_|refine aU Z Z ?_
 refine js Z (jn ?_)
 refine⟨i+1,Ent.env ⟨Z,Z,ao⟩,⟨by omega,fun j h hj=>?_⟩,by omega⟩
 by_cases e:j=i
 subst e;rw[Int.toNat_natCast,getD_lt h]at z15;exact z15
 exact hi.2 j h (by omega)
 try simp only[aQ]at z7
 refine aJ (ae (js Z ?_))
 first|refine cm Z ?_|refine js Z ?_|refine aU Z Z ?_
 refine ac Z (jr ?_)
 refine ay Z ?_
 rw[rB,gU (fun j hj=>hi.2 j hj (by omega)),Bool.true_and]
theorem BJ{n:Nd}:MQ h1 h2 120 [ptr n.cells] [] (Plain (eB (ndB n))):=by
 refine au ?_ Z
 refine jB 69 h1 h2 Tryz.func120 Z fun O hF=>?_
 refine ae (js Z (jn (ag (ae (aM Z (jf [6,2,0] Z (jn (am (ae (ac Z (jn (ak Z (fun z7=>?_) (fun z7=>?_)))))))))))))
 try simp only[aQ]at z7
 refine ae (aM Z (ac Z (bJ [(14,_),(8,_),(6,_),(2,_),(0,_)] [] ⟨Z,Z,Z,Z,Z,ao⟩ Z (ar 4 Z Z Z (fun hx=>aq hx Z (aq hx Z (aq hx Z (bj O hx Z Z Z Z (yX (t:=n.term) h1 h2) (.cons (.c (.sub Z)) .nil) Z Z Z Z Z Z Z (B0:=19000) Z (AN.nil))))) Z Z ?_))))
 first|refine aa (aj O Z Z Z Z Z) Z ?_|refine aa (al O Z Z Z Z Z) Z ?_|refine aa (Val.pickB O Z Z Z Z Z) Z ?_
 refine js Z (bJ [(20,_),(8,_),(6,_),(2,_),(0,_)] [] ⟨Z,Z,Z,Z,Z,ao⟩ Z (ar 5 Z Z Z (fun hx=>aq hx Z (aq hx Z (aq hx Z (aq hx Z (bj O hx Z Z Z Z (BA h1 h2) (ah Z) Z Z Z Z Z Z Z (B0:=26000) Z (AN.nil)))))) Z Z ?_))
 first|refine aa (aj O Z Z Z Z Z) Z ?_|refine aa (al O Z Z Z Z Z) Z ?_|refine aa (Val.pickB O Z Z Z Z Z) Z ?_
 refine js Z (jf [2,8,6,0] Z (jr ?_))
 refine ay Z ?_
 rw[Bool.cond_false_right,Bool.cond_false_right,ndB,if_pos z7]
 try simp only[aQ]at z7
 refine ae (ac Z (jf [27,8,6,2,0] Z (jn (ak Z (fun z27=>?_) (fun z27=>?_)))))
 try simp only[aQ]at z27
 refine ae (aM Z (ac Z (bJ [(34,_),(8,_),(6,_),(2,_),(0,_)] [] ⟨Z,Z,Z,Z,Z,ao⟩ Z (ar 4 Z Z Z (fun hx=>aq hx Z (aq hx Z (aq hx Z (bj O hx Z Z Z Z (uR (t:=n.term) h1 h2) (.cons (.c (.sub Z)) .nil) Z Z Z Z Z Z Z (B0:=39000) Z (AN.nil))))) Z Z ?_))))
 first|refine aa (aj O Z Z Z Z Z) Z ?_|refine aa (al O Z Z Z Z Z) Z ?_|refine aa (Val.pickB O Z Z Z Z Z) Z ?_
 refine js Z (bJ [(40,_),(8,_),(6,_),(2,_),(0,_)] [] ⟨Z,Z,Z,Z,Z,ao⟩ Z (ar 6 Z Z Z (fun hx=>aq hx Z (aq hx Z (aq hx Z (aq hx Z (bf hx (bF O Z Z Z Z Z Z Z Z) Z (aq hx Z (AN.nil))))))) Z Z ?_))
 first|refine aa (aj O Z Z Z Z Z) Z ?_|refine aa (al O Z Z Z Z Z) Z ?_|refine aa (Val.pickB O Z Z Z Z Z) Z ?_
 refine js Z (jf [2,8,6,0] Z (jr ?_))
 refine ay Z ?_
 rw[Bool.cond_false_right,Bool.cond_false_right,ndB,if_neg z7,if_pos z27]
 try simp only[aQ]at z27
 refine ae (ac Z (jf [48,8,6,2,0] Z (jn (ak Z (fun z48=>?_) (fun z48=>?_)))))
 try simp only[aQ]at z48
 refine ae (aM Z (bJ [(53,_),(8,_),(6,_),(2,_),(0,_)] [] ⟨Z,Z,Z,Z,Z,ao⟩ Z (aO Z (lI h1 h2) 55000 Z (js Z (bJ [(55,_),(8,_),(6,_),(2,_),(0,_)] [] ⟨Z,Z,Z,Z,Z,ao⟩ Z (ar 4 Z Z Z (fun hx=>aq hx Z (aq hx Z (aq hx Z (bj O hx Z Z Z Z (yX (t:=n.term) h1 h2) (.cons (.c (.sub Z)) .nil) Z Z Z Z Z Z Z (B0:=60000) Z (AN.nil))))) Z Z ?_))))))
 first|refine aa (aj O Z Z Z Z Z) Z ?_|refine aa (al O Z Z Z Z Z) Z ?_|refine aa (Val.pickB O Z Z Z Z Z) Z ?_
 refine js Z (bJ [(61,_),(8,_),(6,_),(2,_),(0,_)] [] ⟨Z,Z,Z,Z,Z,ao⟩ Z (ar 6 Z Z Z (fun hx=>aq hx Z (aq hx Z (aq hx Z (aq hx Z (bf hx (bF O Z Z Z Z Z Z Z Z) Z (aq hx Z (AN.nil))))))) Z Z ?_))
 first|refine aa (aj O Z Z Z Z Z) Z ?_|refine aa (al O Z Z Z Z Z) Z ?_|refine aa (Val.pickB O Z Z Z Z Z) Z ?_
 refine js Z (jf [2,8,6,0] Z (jr ?_))
 refine ay Z ?_
 rw[Bool.cond_false_right,Bool.cond_false_right,ndB,if_neg z7,if_neg z27,if_pos z48];rfl
 try simp only[aQ]at z48
 refine af (ae (js Z (jr ?_)))
 refine ay Z ?_
 rw[ndB,if_neg z7,if_neg z27,if_neg z48]
variable{p:List Nd}
theorem BI{k:Nat}(hk:k≤p.length):MQ h1 h2 121 [dF p,eI k] [] (Plain (eI (endP p k))):=by
 refine au ?_ Z
 refine jB 28 h1 h2 Tryz.func121 Z fun O hF=>?_
 have hl:p.length≤L:=by simpa[As.fact,A.fact,M.fact,D.fact,Ds.fact]using hF.1.1
 refine ae (js Z (be (js Z (jn (ag (am (av (X:=Int×Nat) (fun x=>⟨[(0,dF p),(1,eI (k+x.2)),(5,eI x.1)],[]⟩) (fun x=>k+x.2≤p.length∧(endK (p.drop k) 1=(endK (p.drop (k+x.2)) x.1).map (· + x.2))∧0≤x.1∧x.1≤x.2+1) (fun x=>p.length-(k+x.2)) (1,0) (Ent.env ⟨Z,by simp[bD,az],Z,ao⟩) ?_ (fun x hi=>?_))))))))
 exact⟨hk,by simp,by decide,by decide⟩
 refine ag (ae (ac Z (jn (ak Z (fun z7=>?_) (fun z7=>?_)))))
 try simp only[aQ]at z7
 refine af (am (ag (ae (ac Z ?_))))
 first|refine cm Z ?_|refine js Z ?_|refine aU Z Z ?_
 refine js Z (jn (ak Z (fun z11=>?_) (fun z11=>?_)))
 try simp only[aQ]at z11
 refine ae (js Z (jr ?_))
 refine ay Z ?_
 have e:k+x.2=p.length:=by omega
 rw[endP,hi.2.1,List.drop_of_length_le (by omega),kY z7];rfl
 try simp only[aQ]at z11
 refine af (ag (ae (ac Z ?_)))
 first|refine lA Z Z ?_|refine aU Z Z ?_
 refine ac Z (jn (am (ae (ac Z (jn (ak Z (fun z17=>?_) (fun z17=>?_)))))))
 try simp only[aQ]at z17
 refine ab (js Z ?_)
 first|refine ji Z ?_|refine aU Z Z ?_
 refine js Z (jn (ab (js Z ?_)))
 first|refine ji Z ?_|refine aU Z Z ?_
 refine js Z (jn ?_)
 have e1:((k:Int)+x.2).toNat=k+x.2:=by omega
 rw[e1]at z17
 have hk2:k+x.2<p.length:=by omega
 have e:=eC z7 hk2
 rw[e,Option.map_map]at hi
 rw[show dl (p.getD (k+x.2) default).kind=(-1) by unfold dl;rw[if_pos z17]]at hi
 refine⟨(x.1+(-1),x.2+1),Ent.env ⟨Z,?_,?_,ao⟩,⟨by show k+(x.2+1)≤_;omega,?_,?_,?_⟩,by show p.length-(k+(x.2+1))<_;omega⟩
 exact congrArg (fun z=>some (eI z)) (by show(k:Int)+x.2+1=k+(x.2+1:Nat);omega)
 exact congrArg (fun z=>some (eI z)) (by first|rfl|(show(x.1:Int)-1=x.1+ -1;omega)|(show(x.1:Int)=x.1+0;omega))
 rw[hi.2.1];exact congrArg (fun f=>Option.map f _) (funext fun n=>by show n+1+x.2=n+(x.2+1);omega)
 show 0≤x.1+(-1);omega
 show x.1+(-1)≤(x.2+1:Nat)+1;omega
 try simp only[aQ]at z17
 refine ae (ac Z (jn (ak Z (fun z21=>?_) (fun z21=>?_))))
 try simp only[aQ]at z21
 refine ab (js Z ?_)
 first|refine ji Z ?_|refine aU Z Z ?_
 refine js Z (jn (ab (js Z ?_)))
 first|refine ji Z ?_|refine aU Z Z ?_
 refine js Z (jn ?_)
 have e1:((k:Int)+x.2).toNat=k+x.2:=by omega
 rw[e1]at z17 z21
 have hk2:k+x.2<p.length:=by omega
 have e:=eC z7 hk2
 rw[e,Option.map_map]at hi
 rw[show dl (p.getD (k+x.2) default).kind=1 by unfold dl;rw[if_neg z17,if_pos z21]]at hi
 refine⟨(x.1+1,x.2+1),Ent.env ⟨Z,?_,?_,ao⟩,⟨by show k+(x.2+1)≤_;omega,?_,?_,?_⟩,by show p.length-(k+(x.2+1))<_;omega⟩
 exact congrArg (fun z=>some (eI z)) (by show(k:Int)+x.2+1=k+(x.2+1:Nat);omega)
 exact congrArg (fun z=>some (eI z)) (by first|rfl|(show(x.1:Int)-1=x.1+ -1;omega)|(show(x.1:Int)=x.1+0;omega))
 rw[hi.2.1];exact congrArg (fun f=>Option.map f _) (funext fun n=>by show n+1+x.2=n+(x.2+1);omega)
 show 0≤x.1+1;omega
 show x.1+1≤(x.2+1:Nat)+1;omega
 try simp only[aQ]at z21
 refine af (ab (js Z ?_))
 first|refine ji Z ?_|refine aU Z Z ?_
 refine js Z (jn ?_)
 have e1:((k:Int)+x.2).toNat=k+x.2:=by omega
 rw[e1]at z17 z21
 have hk2:k+x.2<p.length:=by omega
 have e:=eC z7 hk2
 rw[e,Option.map_map]at hi
 rw[show dl (p.getD (k+x.2) default).kind=0 by unfold dl;rw[if_neg z17,if_neg z21]]at hi
 refine⟨(x.1+0,x.2+1),Ent.env ⟨Z,?_,?_,ao⟩,⟨by show k+(x.2+1)≤_;omega,?_,?_,?_⟩,by show p.length-(k+(x.2+1))<_;omega⟩
 exact congrArg (fun z=>some (eI z)) (by show(k:Int)+x.2+1=k+(x.2+1:Nat);omega)
 exact congrArg (fun z=>some (eI z)) (by first|rfl|(show(x.1:Int)-1=x.1+ -1;omega)|(show(x.1:Int)=x.1+0;omega))
 rw[hi.2.1];exact congrArg (fun f=>Option.map f _) (funext fun n=>by show n+1+x.2=n+(x.2+1);omega)
 show 0≤x.1+0;omega
 show x.1+0≤(x.2+1:Nat)+1;omega
 try simp only[aQ]at z7
 refine aJ (ae (ac Z (jr ?_)))
 refine ay Z ?_
 rw[endP,hi.2.1,oo z7];exact congrArg eI (by show(k:Int)+x.2=k+(0+x.2:Nat);omega)
theorem Ca:MQ h1 h2 72 [dF p] [] (Plain (eB (isB p))):=by
 refine au ?_ Z
 refine jB 24 h1 h2 Tryz.func72 Z fun O hF=>?_
 have hl:p.length≤L:=by simpa[As.fact,A.fact,M.fact,D.fact,Ds.fact]using hF.1.1
 refine ae (js Z (jn (ag (ae (js Z ?_)))))
 first|refine cm Z ?_|refine js Z ?_|refine aU Z Z ?_
 refine aO Z (lI h1 h2) 7000 Z (js Z (jn (ak Z (fun z7=>?_) (fun z7=>?_))))
 try simp only[aQ]at z7
 refine ae (js Z (jr ?_))
 refine ay Z ?_
 rw[isB,show(decide ((1:Int)≤p.length)&&decide ((p.length:Int)≤60))=false from z7,Bool.false_and]
 try simp only[aQ]at z7
 refine af (ag (ae (js Z (jn (am (av (X:=Nat) (fun i=>⟨[(0,dF p),(3,eI i)],[]⟩) (fun i=>i≤p.length∧∀j (h:j<p.length),j<i→ndB p[j]=true) (fun i=>p.length-i) 0 (Ent.env ⟨Z,Z,ao⟩) ?_ (fun i hi=>?_)))))))
 exact⟨ca _,fun j h hj=>absurd hj (Nat.not_lt_zero j)⟩
 refine ag (ae (ac Z ?_))
 first|refine cm Z ?_|refine js Z ?_|refine aU Z Z ?_
 refine js Z (jn (ak Z (fun z11=>?_) (fun z11=>?_)))
 try simp only[aQ]at z11
 refine af (ag (am (ae (ac Z ?_))))
 first|refine lA Z Z ?_|refine aU Z Z ?_
 refine aO Z (BJ h1 h2) 18000 Z (js Z (jn (ak Z (fun z18=>?_) (fun z18=>?_))))
 try simp only[aQ]at z18
 refine ae (js Z (jr ?_))
 refine ay Z ?_
 rw[Int.toNat_natCast,getD_lt (by omega)]at z18
 rw[isB,fJ i (by omega) z18,Bool.false_and,Bool.and_false]
 try simp only[aQ]at z18
 refine af (ab (js Z ?_))
 first|refine ji Z ?_|refine aU Z Z ?_
 refine js Z (jn ?_)
 refine⟨i+1,Ent.env ⟨Z,Z,ao⟩,⟨by omega,fun j h hj=>?_⟩,by omega⟩
 by_cases e:j=i
 subst e;rw[Int.toNat_natCast,getD_lt h]at z18;exact z18
 exact hi.2 j h (by omega)
 try simp only[aQ]at z11
 refine aJ (ae (js Z (aO Z (BI (p:=p) (k:=0) h1 h2 (ca _)) 21000 Z (js Z ?_))))
 first|refine cm Z ?_|refine js Z ?_|refine aU Z Z ?_
 refine ac Z (jr ?_)
 refine ay Z ?_
 rw[isB,show(decide ((1:Int)≤p.length)&&decide ((p.length:Int)≤60))=true from z7,gU (fun j hj=>hi.2 j hj (by omega)),Bool.true_and,Bool.true_and]
def sB(xs:List Int):Nat:=xs.foldl (fun g x=>Nat.gcd g x.natAbs) 0
def mx(a b:Int):Int:=if a>b then a else b
def sZ(t:Tm):Tm×Bool:=if sB t.xs<2 then(⟨0,[]⟩,false)else
  im (if t.c.tmod (sB t.xs)<0 then t.c.tdiv (sB t.xs)-1 else t.c.tdiv (sB t.xs)) (t.xs.map fun x=>x.tdiv (sB t.xs))
def yb(n:Nd)(ctx:List Tm)(first:Bool):List Tm:=if n.kind=3 then ctx++[(sZ (ctx.getD n.fact.toNat default)).1]else if first=true then ctx++[n.term]else ctx++[(yL n.term).1]
def uP(f:Tm→Int):List Tm→List Int→Int
  | t::ts,m::ms=>m*f t+uP f ts ms
  | _,_=>0
abbrev yS(k:Nat):Tm→Int:=fun t=>t.xs.getD k 0
def zu(ts:List Tm)(ms:List Int):List Int:=(List.range 10).map fun k=>uP (yS k) ts ms
def vR(ctx:List Tm)(ms:List Int):Bool:=decide (ctx.length=ms.length)&&((zu ctx ms).all (fun x=>decide (x=0))&&decide (uP Tm.c ctx ms<0))
def tm(n:Nd)(ctx:List Tm):Bool:=if n.kind=1 then vR ctx n.mul else if 20≤ctx.length then false else if n.kind=2 then(yL n.term).2 else if n.fact≥ctx.length then false else(sZ (ctx.getD n.fact.toNat default)).2

theorem yT{a b:Int}:MQ h1 h2 108 [eI a,eI b] [] (Plain (eI (mx a b))):=by
 refine au ?_ Z
 refine jB 10 h1 h2 Tryz.func108 Z fun O hF=>?_
 refine ae (js Z (jn (ag (ae (aF Z (jn (ak Z (fun z7=>?_) (fun z7=>?_))))))))
 try simp only[aQ]at z7
 refine ae (ac Z (jr ?_))
 refine ay Z ?_
 rw[mx,if_pos z7]
 try simp only[aQ]at z7
 refine af (ae (ac Z (jr ?_)))
 refine ay Z ?_
 rw[mx,if_neg (by omega)]
def yK(ts:List Tm)(ms:List Int)(i j:Nat):List Int:=(List.range 10).map fun k=>uP (yS k) (ts.take i) (ms.take i)+(if k<j then ms.getD i default*(ts.getD i default).xs.getD k 0 else 0)
structure CtxOk(ctx:List Tm):Prop where
  ok: ∀t∈ctx,t.ok=true
  len:ctx.length≤1000
end Go.Al
