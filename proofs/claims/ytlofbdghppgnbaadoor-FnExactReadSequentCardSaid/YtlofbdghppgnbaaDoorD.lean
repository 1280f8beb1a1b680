/- Contracts of the functions that copy, compare, mark and measure; the reference's functions for oE. -/
import Derived.Test.YtlofbdghppgnbaaDoorProg
import Derived.Test.YtlofbdghppgnbaaDoorC
set_option linter.unusedVariables false
set_option linter.unusedSimpArgs false
set_option maxRecDepth 10000
open Go.Proofs
/- The table of the types that the functions of this seat use, and its proof. -/
namespace Go.Al
variable{L:Nat}(h1:4096≤L)(h2:L≤1073741824)
def tt:List (Nat×TI):=[
  (2,⟨4,false,0,1,8,[.int .i64 0],[]⟩),
  (3,⟨4,false,0,1,8,[.int .i64 0],[]⟩),
  (4,⟨5,false,0,1,1,[.bool false],[]⟩),
  (5,⟨4,false,0,1,1,[.int .u8 0],[]⟩),
  (9,⟨2,false,0,1,16,[.str ByteArray.empty],[]⟩),
  (21,⟨4,false,0,1,4,[.int .i32 0],[]⟩),
  (22,⟨1,false,5,1,24,[.nils],[]⟩),
  (24,⟨1,false,2,1,24,[.nils],[]⟩),
  (26,⟨3,true,0,2,32,[.int .i64 0,.nils],[(0,1),(1,1)]⟩),
  (28,⟨1,false,26,1,24,[.nils],[]⟩),
  (30,⟨3,true,0,3,56,[.nils,.int .i64 0,.nils],[(0,1),(1,2)]⟩),
  (41,⟨1,false,30,1,24,[.nils],[]⟩),
  (47,⟨1,false,80,1,24,[.nils],[]⟩),
  (66,⟨1,false,9,1,24,[.nils],[]⟩),
  (80,⟨3,true,0,5,72,[.int .i64 0,.int .i64 0,.int .i64 0,.nils,.nils],[(0,1),(1,1),(2,2),(4,1)]⟩),
  (87,⟨4,false,0,1,8,[.int .u64 0],[]⟩),
  (89,⟨3,true,0,3,40,[.nils,.int .i64 0,.int .u64 0],[(0,1),(1,1),(2,1)]⟩),
  (102,⟨1,false,3,1,24,[.nils],[]⟩),
  (104,⟨3,true,0,4,56,[.nils,.nils,.bool false,.bool false],[(0,1),(1,1),(2,1),(3,1)]⟩),
  (106,⟨3,true,0,8,112,[.int .i64 0,.int .i64 0,.int .i64 0,.int .i64 0,.nils,.int .i64 0,.nils,.nils],[(0,1),(1,1),(2,1),(3,2),(5,2),(7,1)]⟩),
  (110,⟨6,false,0,1,8,[.nilp],[]⟩),
  (111,⟨1,false,127,1,24,[.nils],[]⟩),
  (113,⟨3,true,0,11,168,[.int .i64 0,.int .i64 0,.int .i64 0,.int .i64 0,.nils,.int .i64 0,.nils,.nils,.nils,.nils,.bool false],[(0,8),(8,1),(9,1),(10,1)]⟩),
  (114,⟨1,false,110,1,24,[.nils],[]⟩),
  (116,⟨3,true,0,3,72,[.nils,.nils,.nils],[(0,1),(1,1),(2,1)]⟩),
  (122,⟨4,false,0,1,8,[.int .u64 0],[]⟩),
  (127,⟨6,false,0,1,8,[.nilp],[]⟩),
  (129,⟨3,true,0,10,144,[.int .i64 0,.int .i64 0,.int .i64 0,.int .i64 0,.nils,.int .i64 0,.nils,.nils,.int .i64 0,.nils],[(0,8),(8,1),(9,1)]⟩),
  (152,⟨4,false,0,1,4,[.int .u32 0],[]⟩),
  (167,⟨3,true,0,2,2,[.int .u8 0,.int .u8 0],[(0,1),(1,1)]⟩),
  (175,⟨6,false,0,1,8,[.nilp],[]⟩),
  (178,⟨3,true,0,1,16,[.str ByteArray.empty],[(0,1)]⟩)
]
theorem tt2:TIok Tryd.prog 2 ⟨4,false,0,1,8,[.int .i64 0],[]⟩:=(by constructor<;>kernel_rfl)
theorem tt3:TIok Tryd.prog 3 ⟨4,false,0,1,8,[.int .i64 0],[]⟩:=(by constructor<;>kernel_rfl)
theorem tt4:TIok Tryd.prog 4 ⟨5,false,0,1,1,[.bool false],[]⟩:=(by constructor<;>kernel_rfl)
theorem tt5:TIok Tryd.prog 5 ⟨4,false,0,1,1,[.int .u8 0],[]⟩:=(by constructor<;>kernel_rfl)
theorem tt9:TIok Tryd.prog 9 ⟨2,false,0,1,16,[.str ByteArray.empty],[]⟩:=(by constructor<;>kernel_rfl)
theorem pB:TIok Tryd.prog 21 ⟨4,false,0,1,4,[.int .i32 0],[]⟩:=(by constructor<;>kernel_rfl)
theorem pA:TIok Tryd.prog 22 ⟨1,false,5,1,24,[.nils],[]⟩:=(by constructor<;>kernel_rfl)
theorem pz:TIok Tryd.prog 24 ⟨1,false,2,1,24,[.nils],[]⟩:=(by constructor<;>kernel_rfl)
theorem py:TIok Tryd.prog 26 ⟨3,true,0,2,32,[.int .i64 0,.nils],[(0,1),(1,1)]⟩:=(by constructor<;>kernel_rfl)
theorem px:TIok Tryd.prog 28 ⟨1,false,26,1,24,[.nils],[]⟩:=(by constructor<;>kernel_rfl)
theorem pw:TIok Tryd.prog 30 ⟨3,true,0,3,56,[.nils,.int .i64 0,.nils],[(0,1),(1,2)]⟩:=(by constructor<;>kernel_rfl)
theorem pu:TIok Tryd.prog 41 ⟨1,false,30,1,24,[.nils],[]⟩:=(by constructor<;>kernel_rfl)
theorem pr:TIok Tryd.prog 47 ⟨1,false,80,1,24,[.nils],[]⟩:=(by constructor<;>kernel_rfl)
theorem pq:TIok Tryd.prog 66 ⟨1,false,9,1,24,[.nils],[]⟩:=(by constructor<;>kernel_rfl)
theorem pp:TIok Tryd.prog 80 ⟨3,true,0,5,72,[.int .i64 0,.int .i64 0,.int .i64 0,.nils,.nils],[(0,1),(1,1),(2,2),(4,1)]⟩:=(by constructor<;>kernel_rfl)
theorem po:TIok Tryd.prog 87 ⟨4,false,0,1,8,[.int .u64 0],[]⟩:=(by constructor<;>kernel_rfl)
theorem pm:TIok Tryd.prog 89 ⟨3,true,0,3,40,[.nils,.int .i64 0,.int .u64 0],[(0,1),(1,1),(2,1)]⟩:=(by constructor<;>kernel_rfl)
theorem oD:TIok Tryd.prog 102 ⟨1,false,3,1,24,[.nils],[]⟩:=(by constructor<;>kernel_rfl)
theorem oC:TIok Tryd.prog 104 ⟨3,true,0,4,56,[.nils,.nils,.bool false,.bool false],[(0,1),(1,1),(2,1),(3,1)]⟩:=(by constructor<;>kernel_rfl)
theorem oB:TIok Tryd.prog 106 ⟨3,true,0,8,112,[.int .i64 0,.int .i64 0,.int .i64 0,.int .i64 0,.nils,.int .i64 0,.nils,.nils],[(0,1),(1,1),(2,1),(3,2),(5,2),(7,1)]⟩:=(by constructor<;>kernel_rfl)
theorem oA:TIok Tryd.prog 110 ⟨6,false,0,1,8,[.nilp],[]⟩:=(by constructor<;>kernel_rfl)
theorem oz:TIok Tryd.prog 111 ⟨1,false,127,1,24,[.nils],[]⟩:=(by constructor<;>kernel_rfl)
theorem oy:TIok Tryd.prog 113 ⟨3,true,0,11,168,[.int .i64 0,.int .i64 0,.int .i64 0,.int .i64 0,.nils,.int .i64 0,.nils,.nils,.nils,.nils,.bool false],[(0,8),(8,1),(9,1),(10,1)]⟩:=(by constructor<;>kernel_rfl)
theorem ox:TIok Tryd.prog 114 ⟨1,false,110,1,24,[.nils],[]⟩:=(by constructor<;>kernel_rfl)
theorem ow:TIok Tryd.prog 116 ⟨3,true,0,3,72,[.nils,.nils,.nils],[(0,1),(1,1),(2,1)]⟩:=(by constructor<;>kernel_rfl)
theorem ov:TIok Tryd.prog 122 ⟨4,false,0,1,8,[.int .u64 0],[]⟩:=(by constructor<;>kernel_rfl)
theorem ou:TIok Tryd.prog 127 ⟨6,false,0,1,8,[.nilp],[]⟩:=(by constructor<;>kernel_rfl)
theorem ot:TIok Tryd.prog 129 ⟨3,true,0,10,144,[.int .i64 0,.int .i64 0,.int .i64 0,.int .i64 0,.nils,.int .i64 0,.nils,.nils,.int .i64 0,.nils],[(0,8),(8,1),(9,1)]⟩:=(by constructor<;>kernel_rfl)
theorem oq:TIok Tryd.prog 152 ⟨4,false,0,1,4,[.int .u32 0],[]⟩:=(by constructor<;>kernel_rfl)
theorem oo:TIok Tryd.prog 167 ⟨3,true,0,2,2,[.int .u8 0,.int .u8 0],[(0,1),(1,1)]⟩:=(by constructor<;>kernel_rfl)
theorem om:TIok Tryd.prog 175 ⟨6,false,0,1,8,[.nilp],[]⟩:=(by constructor<;>kernel_rfl)
theorem ol:TIok Tryd.prog 178 ⟨3,true,0,1,16,[.str ByteArray.empty],[(0,1)]⟩:=(by constructor<;>kernel_rfl)
theorem oi:TTok Tryd.prog tt:=⟨tt2,tt3,tt4,tt5,tt9,pB,pA,pz,py,px,pw,pu,pr,pq,pp,po,pm,oD,oC,oB,oA,oz,oy,ox,ow,ov,ou,ot,oq,oo,om,ol,ar⟩
theorem l9:TTplain tt=true:=by kernel_rfl
theorem nr:Tryd.prog.follows .mixedOrders=true:=by kernel_rfl
theorem af{σ:Sg}{Q:Exit→St→Prop}{s:St}{id:Nat}{l:List Oper}{y:Code}(h:AOps σ l.toArray (e8 (AWP σ y Q) Q) l s):AWP σ (.seq (.region id l.toArray false) y) Q s:=AWP.seq (AWP.region h)
theorem jn{σ:Sg}{Q:Exit→St→Prop}{s:St}{all:Array Oper}(h:Q .normal s):AOps σ all Q [] s:=AOps.nil h
theorem bq{σ:Sg}{Q:Exit→St→Prop}{s:St}{all:Array Oper}{id:Nat}{l:List Oper}{y:Code}(h:AOps σ l.toArray (e8 (AWP σ y Q) Q) l s):AOps σ all (e8 (AWP σ (.seq (.region id l.toArray false) y) Q) Q) [] s:=AOps.nil (AWP.seq (AWP.region h))
theorem bw:(∀{α β:Type} {f:α→β} {l:List α},(l.map f).length=l.length)∧(∀{α:Type} [BEq α] [LawfulBEq α] {a b:α},(a==b)=true↔a=b)∧(∀{p:Prop} [Decidable p],(decide p=true)=p)∧(∀{p:Prop} [Decidable p],(decide p=false)↔¬p)∧(∀{b:Bool},((!b)=true)=(b=false))∧(∀{b:Bool},((!b)=false)=(b=true))∧((!true)=false)∧((!false)=true)∧(∀{a b:Int},¬a<b↔b≤a)∧(∀{a b:Int},¬a≤b↔b<a):=by
 refine⟨?_,?_,?_,?_,?_,?_,?_,?_,?_,?_⟩<;>intros<;>simp
theorem aP{σ:Sg}{Q:aY}{all:Array Oper}{l:List Oper}{e:List (Nat×A)}{H H':List (Nat×B)}(K:AOps σ all Q l ⟨e,H'⟩)(h:HN H H':=by repeat' (first|apply HN.cons rfl|exact HN.nil rfl|exact BN.row rfl|exact BN.map rfl|apply BN.box rfl|apply MN.cons rfl|exact MN.nil rfl|exact XN.d rfl|exact XN.rs rfl|exact kS)):AOps σ all Q l ⟨e,H⟩:=lx h K
def oY(e:List (Nat×A)):List Nat→Option (List (Nat×A))
  | []=>some []
  | k :: ks=>match lk e k,oY e ks with
    | some v,some r=>some ((k,v)::r)
    | _,_=>none
theorem kP{e:List (Nat×A)}: ∀{ks:List Nat} {e':List (Nat×A)},oY e ks=some e'→envSub e e'
 | [],e',h=>by cases h;trivial
 | k::ks,e',h=>by
  unfold oY at h
  split at h
  rename_i v r h1 h2
  cases h
  exact⟨h1,kP h2⟩
  cases h
theorem jf{σ:Sg}{Q:Exit→St→Prop}{all:Array Oper}{l:List Oper}{e e':List (Nat×A)}{H:List (Nat×B)}(ks:List Nat)(h:oY e ks=some e')(K:AOps σ all Q l ⟨e',H⟩):AOps σ all Q l ⟨e,H⟩:=jC e' (kP h) K
noncomputable abbrev SG(L nt:Nat):Sg:=⟨Tryd.prog,tt,L,nt,[]⟩
theorem np{L nt}(h1:4096≤L)(h2:L≤9223372036854775807):SgOk (SG L nt):=⟨oi,l9,h1,h2,nr⟩
theorem jB{L f:Nat}{fn:Func}{c:Code}{args:List A}{Q:A→List (Nat×B)→Prop}(nt:Nat)(h1:4096≤L)(h2:L≤1073741824)(hf:Tryd.prog.funcs[f]? = some fn)(hz:(fn.body,fn.ntmps,Nat.ble args.length nt)=(some c,nt,true))(h:SgOk (SG L nt)→As.fact L args→AWP (SG L nt) c (fun e s=>(e= .ret∨e= .normal)∧∃s2,Ent (SG L nt) s s2∧∃res,bJ tt s2 fn.results.toList=some res∧Q res s2.H) ⟨aZ 0 args,[]⟩)(hn:(fn.name== "runtime.NumGoroutine")=false:=by kernel_rfl):MC Tryd.prog L f args [] Q:=have hσ:=np (nt:=nt) h1 (Nat.le_trans h2 (by decide));have hz:=Prod.mk.inj hz;have hy:=Prod.mk.inj hz.2;MC.body hσ hf hn hz.1 hy.1 (Nat.le_of_ble_eq_true hy.2) (h hσ)
theorem jH{L f:Nat}{fn:Func}{c:Code}{args:List A}{Hin:List (Nat×B)}{Q:A→List (Nat×B)→Prop}(nt:Nat)(ks:List Nat)(h1:4096≤L)(h2:L≤1073741824)(hf:Tryd.prog.funcs[f]? = some fn)(hz:(fn.body,fn.ntmps,ks,Nat.ble args.length nt)=(some c,nt,Hin.map (·.1),true))(h:SgOk ⟨Tryd.prog,tt,L,nt,ks⟩→As.fact L args→AWP ⟨Tryd.prog,tt,L,nt,ks⟩ c (fun e s=>(e= .ret∨e= .normal)∧∃s2,Ent ⟨Tryd.prog,tt,L,nt,ks⟩ s s2∧∃res,bJ tt s2 fn.results.toList=some res∧Q res s2.H) ⟨aZ 0 args,Hin⟩)(hn:(fn.name== "runtime.NumGoroutine")=false:=by kernel_rfl):MC Tryd.prog L f args Hin Q:=have hσ:=iK (js:=ks) (np (nt:=nt) h1 (Nat.le_trans h2 (by decide)));have hz:=Prod.mk.inj hz;have hy:=Prod.mk.inj hz.2;have hx:=Prod.mk.inj hy.2;mq hσ hf hn hz.1 hy.1 hx.1 (Nat.le_of_ble_eq_true hx.2) (h hσ)
abbrev MQ{L:Nat}(h1:4096≤L)(h2:L≤1073741824)(f:Nat)(ds:List A)(Hin:List (Nat×B))(Q:A→List (Nat×B)→Prop):Prop:=MC Tryd.prog L f ds Hin Q
abbrev eI(n:Int):A:=.c (.d (.int .i64 n))
abbrev eB(b:Bool):A:=.c (.d (.bool b))
abbrev eu(xs:List Int):D:=.slc 1 (xs.map fun n=>[.int .i64 n])
structure Tm where
  c:Int
  xs:List Int
  deriving Inhabited
abbrev Tm.cells(t:Tm):List D:=[.int .i64 t.c,eu t.xs]
abbrev ptr(cs:List D):A:=.c (.d (.ptr cs 0))
def gm(x:Int):Bool:=decide (-1000000≤x)&&decide (x≤1000000)
def Tm.ok(t:Tm):Bool:=!(bif (bif !gm t.c then true else decide ((10:Int)<t.xs.length))then true else bif decide ((0:Int)<t.xs.length)then decide (t.xs.getD ((t.xs.length:Int)-1).toNat default=0)else false)&&t.xs.all gm
theorem jT{α:Type}{p:α→Bool}{xs:List α}(h: ∀j (hj:j<xs.length),p xs[j]=true):xs.all p=true:=by
 rw[List.all_eq_true];intro x hx
 obtain⟨j,hj,rfl⟩:=List.mem_iff_getElem.1 hx
 exact h j hj
theorem iC{α:Type}{p:α→Bool}{xs:List α}(j:Nat)(hj:j<xs.length)(h:p xs[j]=false):xs.all p=false:=by
 rw[List.all_eq_false];exact⟨xs[j],List.getElem_mem _,by simp[h]⟩
theorem aJ{α:Type}[Inhabited α]{xs:List α}{j:Nat}(hj:j<xs.length):xs.getD j default=xs[j]:=by simp[hj]

variable{x lo hi:Int}
theorem c84:MQ h1 h2 82 [eI x,eI lo,eI hi] [] (Plain (eB (decide (lo≤x)&&decide (x≤hi)))):=by
 refine au ?_ Z
 refine jB 15 h1 h2 Tryd.func82 Z fun O hF=>?_
 refine af (js Z (bq (cy Z (aw 3 Z Z Z (fun hx=>ak hx Z (ak hx Z (ak hx Z (AN.nil)))) Z Z (ab (ah O Z Z Z Z Z) Z (js Z (jr ?_)))))))
 refine aC Z ?_
 rw[Bool.cond_false_right]
theorem n9:MQ h1 h2 88 [eI x] [] (Plain (eB (gm x))):=by
 refine au ?_ Z
 refine jB 5 h1 h2 Tryd.func88 Z fun O hF=>?_
 refine af (js Z (bq (js Z (cn Z (c84 h1 h2) 5000 Z (js Z (jr ?_))))))
 refine aC Z ?_
 first|rfl|skip
variable{t:Tm}
theorem pU:MQ h1 h2 64 [ptr t.cells] [] (Plain (eB t.ok)):=by
 refine au ?_ Z
 refine jB 49 h1 h2 Tryd.func64 Z fun O hF=>?_
 have hl:t.xs.length≤L:=by simpa[As.fact,A.fact,M.fact,D.fact,Ds.fact]using hF.1.2.1.1
 refine af (js Z (bq (cy Z (gl Z (js Z (jn (ag (af (cy Z (cn Z (n9 h1 h2) 15000 Z (aj Z (aw 2 Z Z Z (fun hx=>ak hx Z (ak hx Z (AN.nil))) Z Z (ab (aq O Z Z Z Z Z) Z (js Z (aw 13 Z Z Z (fun hx=>ak hx Z (ak hx Z (ak hx Z (il 9 Z Z Z Z (fun hx'=>ak hx' Z (ak hx' Z (ak hx' Z (ak hx' Z (ak hx' Z (aW hx' (vF Z) Z (aW hx' (vD Z) Z (ak hx' Z (ak hx' Z (AN.nil)))))))))) Z Z (aW hx (ah O Z Z Z Z Z) Z (AN.nil)))))) Z Z (ab (aq O Z Z Z Z Z) Z (jn (am Z (fun z34=>?_) (fun z34=>?_)))))))))))))))))))
 try simp only[bw]at z34
 refine af (js Z (jr ?_))
 refine aC Z ?_
 simp only[Tm.ok,z34,Bool.not_true,Bool.false_and]
 try simp only[bw]at z34
 refine ae (ag (af (js Z (jn (ap (ax (X:=Nat) (fun i=>⟨[(0,ptr t.cells),(3,eI t.xs.length),(4,eI i)],[]⟩) (fun i=>i≤t.xs.length∧∀j (h:j<t.xs.length),j<i→gm t.xs[j]=true) (fun i=>t.xs.length-i) 0 (Ent.env ⟨Z,Z,Z,ar⟩) ?_ (fun i hi=>?_)))))))
 exact⟨dT _,fun j h hj=>absurd hj (Nat.not_lt_zero j)⟩
 refine ag (af (aQ Z (jn (am Z (fun z37=>?_) (fun z37=>?_)))))
 try simp only[bw]at z37
 refine ae (ag (ap (af (cy Z (js Z (nQ Z Z (js Z (cn Z (n9 h1 h2) 48000 Z (js Z (jn (am Z (fun z48=>?_) (fun z48=>?_))))))))))))
 try simp only[bw]at z48
 refine af (js Z (jr ?_))
 refine aC Z ?_
 rw[Int.toNat_natCast,aJ (by omega)]at z48
 simp only[Tm.ok,iC i (by omega) z48,Bool.and_false]
 try simp only[bw]at z48
 refine ae (ac (js Z (ji Z (js Z (jn ?_)))))
 refine⟨i+1,Ent.env ⟨Z,Z,Z,ar⟩,⟨by omega,fun j h hj=>?_⟩,by omega⟩
 by_cases e:j=i
 subst e;rw[Int.toNat_natCast,aJ h]at z48;exact z48
 exact hi.2 j h (by omega)
 try simp only[bw]at z37
 refine ba (af (js Z (jr ?_)))
 refine aC Z ?_
 simp only[Tm.ok,z34,Bool.not_false,Bool.true_and]
 rw[jT (fun j hj=>hi.2 j hj (by omega))]
abbrev bE(xs:List Int):B:=.row true 1 (xs.map fun n=>[.int .i64 n])
abbrev bz(xs:List Int):A:=.c (.d (eu xs))
variable{xs:List Int}
theorem pS:MQ h1 h2 63 [bz xs] [] (Rows (.c (.rs 0 0 xs.length)) [bE xs]):=by
 refine dG (jB 6 h1 h2 Tryd.func63 Z fun O hF=>?_)
 have hl:xs.length≤L:=by simpa[As.fact,A.fact,M.fact,D.fact,Ds.fact]using hF.1.1
 refine ?_
 refine af (js Z (bq (cW (HS.lit O Z Z Z) Z (js Z (cW (kq (own:=true) O Z (.row Z Z) (.slc (.inr (Scal.map (fun _=>rfl)))) (by simp) Z (by first|omega|(dsimp only[dy,gj,List.length_nil];omega)|(simp only[bw]at *;omega)|(simp;omega)) (by first|omega|(dsimp only[dy,gj,List.length_nil];omega)|(simp only[bw]at *;omega)|(simp;omega)) Z Z) Z (js Z (jr ?_)))))))
 refine⟨.inl Z,_,e7,_,Z,[5],by decide,Z,?_,?_⟩
 simp[A.lab,M.lab]
 rfl
theorem oc:MQ h1 h2 72 [bz xs] [] (Rows (.c (.rs 0 0 xs.length)) [bE xs]):=by
 refine dG (jB 6 h1 h2 Tryd.func72 Z fun O hF=>?_)
 have hl:xs.length≤L:=by simpa[As.fact,A.fact,M.fact,D.fact,Ds.fact]using hF.1.1
 refine ?_
 refine af (js Z (bq (cW (HS.lit O Z Z Z) Z (js Z (cW (kq (own:=true) O Z (.row Z Z) (.slc (.inr (Scal.map (fun _=>rfl)))) (by simp) Z (by first|omega|(dsimp only[dy,gj,List.length_nil];omega)|(simp only[bw]at *;omega)|(simp;omega)) (by first|omega|(dsimp only[dy,gj,List.length_nil];omega)|(simp only[bw]at *;omega)|(simp;omega)) Z Z) Z (js Z (jr ?_)))))))
 refine⟨.inl Z,_,e7,_,Z,[5],by decide,Z,?_,?_⟩
 simp[A.lab,M.lab]
 rfl

theorem c15{ys:List Int}:MQ h1 h2 77 [bz xs,bz ys] [] (Plain (eB (decide (xs=ys)))):=by
 refine au ?_ Z
 refine jB 26 h1 h2 Tryd.func77 Z fun O hF=>?_
 have hl:xs.length≤L:=by simpa[As.fact,A.fact,M.fact,D.fact,Ds.fact]using hF.1.1
 have hl2:ys.length≤L:=by simpa[As.fact,A.fact,M.fact,D.fact,Ds.fact]using hF.2.1.1
 refine af (js Z (jn (ag (af (js Z (gl Z (js Z (gl Z (js Z (jn (am Z (fun z10=>?_) (fun z10=>?_))))))))))))
 try simp only[bw]at z10
 refine af (js Z (jr ?_))
 refine aC Z ?_
 rw[decide_eq_false (fun e=>by subst e;simp at z10)]
 try simp only[bw]at z10
 refine ae (ag (af (js Z (jn (ap (ax (X:=Nat) (fun i=>⟨[(0,bz xs),(1,bz ys),(5,eI i)],[]⟩) (fun i=>i≤xs.length∧∀j,j<i→xs[j]? = ys[j]?) (fun i=>xs.length-i) 0 (Ent.env ⟨Z,Z,Z,ar⟩) ?_ (fun i hi=>?_)))))))
 exact⟨dT _,fun j hj=>absurd hj (Nat.not_lt_zero j)⟩
 refine ag (af (aj Z (gl Z (js Z (jn (am Z (fun z14=>?_) (fun z14=>?_)))))))
 try simp only[bw]at z14
 refine ae (ag (ap (ag (mv [_,_,_,_,_,_,_,_,_] [cm,cm,bL [0,1],bL [0,1,2],cm,cm,bL [4,5],bL [4,5,6],bL (rg 0 8)] [] [_] (kc Z (kc Z (ai (vD Z) (kc Z (kc Z (kc Z (ai (vD Z) (kc Z (kc Z trivial))))))))) ?_))))
 refine am Z (fun z25=>?_) (fun z25=>?_)
 try simp only[bw]at z25
 refine af (js Z (jr ?_))
 refine aC Z ?_
 rw[decide_eq_false (fun e=>by subst e;simp at z25)]
 try simp only[bw]at z25
 refine ae (ac (js Z (ji Z (js Z (jn ?_)))))
 refine⟨i+1,Ent.env ⟨Z,Z,Z,ar⟩,⟨by omega,fun j hj=>?_⟩,by omega⟩
 rcases Nat.lt_or_ge j i with h|h
 exact hi.2 j h
 obtain rfl:j=i:=by omega
 rw[Int.toNat_natCast,aJ (by omega),aJ (by omega)]at z25
 rw[List.getElem?_eq_getElem (by omega),List.getElem?_eq_getElem (by omega),z25]
 try simp only[bw]at z14
 refine ba (af (js Z (jr ?_)))
 refine aC Z ?_
 have e:xs=ys:=List.ext_getElem? fun j=>by
  rcases Nat.lt_or_ge j i with h|h
  ·
   exact hi.2 j h
  ·
   rw[List.getElem?_eq_none (by omega),List.getElem?_eq_none (by omega)]
 rw[decide_eq_true e]
deriving instance DecidableEq for Tm
abbrev qe(t:Tm):A:=.agg [.d (.int .i64 t.c),.d (eu t.xs)]
abbrev nJ(ts:List Tm):D:=.slc 2 (ts.map Tm.cells)
abbrev iN(ts:List Tm):A:=.c (.d (nJ ts))
abbrev gp(ts:List Tm):B:=.row true 2 (ts.map Tm.cells)

theorem p9{s:Tm}:MQ h1 h2 44 [qe s,qe t] [] (Plain (eB (decide (s=t)))):=by
 refine au ?_ Z
 refine jB 16 h1 h2 Tryd.func44 Z fun O hF=>?_
 refine af (jx Z (jx Z (js Z (jn (ag (af (cy Z (js Z (jn (am Z (fun z9=>?_) (fun z9=>?_)))))))))))
 try simp only[bw]at z9
 refine af (js Z (jr ?_))
 refine aC Z ?_
 rw[decide_eq_false (fun e=>z9 (by rw[e]))]
 try simp only[bw]at z9
 refine ae (ag (af (cy Z (cn Z (c15 h1 h2) 15000 Z (js Z (jn (am Z (fun z15=>?_) (fun z15=>?_))))))))
 try simp only[bw]at z15
 refine af (js Z (jr ?_))
 refine aC Z ?_
 rw[decide_eq_false (fun e=>z15 (by rw[e]))]
 try simp only[bw]at z15
 refine ae (af (js Z (jr ?_)))
 refine aC Z ?_
 have e:s=t:=by cases s;cases t;simp_all
 rw[decide_eq_true e]

theorem c35{xs ys:List Tm}:MQ h1 h2 43 [iN xs,iN ys] [] (Plain (eB (decide (xs=ys)))):=by
 refine au ?_ Z
 refine jB 27 h1 h2 Tryd.func43 Z fun O hF=>?_
 have hl:xs.length≤L:=by simpa[As.fact,A.fact,M.fact,D.fact,Ds.fact]using hF.1.1
 have hl2:ys.length≤L:=by simpa[As.fact,A.fact,M.fact,D.fact,Ds.fact]using hF.2.1.1
 refine af (js Z (jn (ag (af (js Z (gl Z (js Z (gl Z (js Z (jn (am Z (fun z10=>?_) (fun z10=>?_))))))))))))
 try simp only[bw]at z10
 refine af (js Z (jr ?_))
 refine aC Z ?_
 rw[decide_eq_false (fun e=>by subst e;simp at z10)]
 try simp only[bw]at z10
 refine ae (ag (af (js Z (jn (ap (ax (X:=Nat) (fun i=>⟨[(0,iN xs),(1,iN ys),(5,eI i)],[]⟩) (fun i=>i≤xs.length∧∀j,j<i→xs[j]? = ys[j]?) (fun i=>xs.length-i) 0 (Ent.env ⟨Z,Z,Z,ar⟩) ?_ (fun i hi=>?_)))))))
 exact⟨dT _,fun j hj=>absurd hj (Nat.not_lt_zero j)⟩
 refine ag (af (aj Z (gl Z (js Z (jn (am Z (fun z14=>?_) (fun z14=>?_)))))))
 try simp only[bw]at z14
 refine ae (ag (ap (ag (mv [_,_,_,_,_,_,_,_,_,_] [cm,cm,bL [0,1],bL [0,1,2],cm,cm,bL [4,5],bL [4,5,6],pe (rg 0 8) 0,pn (rg 0 9) 1 1] [8] [_,_] (kc Z (kc Z (ai (vD Z) (kc Z (kc Z (kc Z (ai (vD Z) (kc Z (ai (cO O (B0:=26000) Z Z Z Z (p9 h1 h2) (ao Z) Z Z Z Z Z) (kc Z trivial)))))))))) ?_))))
 refine am Z (fun z26=>?_) (fun z26=>?_)
 try simp only[bw]at z26
 refine af (js Z (jr ?_))
 refine aC Z ?_
 rw[decide_eq_false (fun e=>by subst e;simp at z26)]
 try simp only[bw]at z26
 refine ae (ac (js Z (ji Z (js Z (jn ?_)))))
 refine⟨i+1,Ent.env ⟨Z,Z,Z,ar⟩,⟨by omega,fun j hj=>?_⟩,by omega⟩
 rcases Nat.lt_or_ge j i with h|h
 exact hi.2 j h
 obtain rfl:j=i:=by omega
 rw[Int.toNat_natCast,aJ (by omega),aJ (by omega)]at z26
 rw[List.getElem?_eq_getElem (by omega),List.getElem?_eq_getElem (by omega),z26]
 try simp only[bw]at z14
 refine ba (af (js Z (jr ?_)))
 refine aC Z ?_
 have e:xs=ys:=List.ext_getElem? fun j=>by
  rcases Nat.lt_or_ge j i with h|h
  ·
   exact hi.2 j h
  ·
   rw[List.getElem?_eq_none (by omega),List.getElem?_eq_none (by omega)]
 rw[decide_eq_true e]
structure Sm where
  kind:Int
  var:Int
  event:Int
  sum:Tm
  index:Tm
  facts:List Tm
  deriving Inhabited,DecidableEq
structure Pm where
  pre:List Tm
  body:List Sm
  post:List Tm
  deriving Inhabited,DecidableEq
structure Sx where
  vars:List Int
  cells:List Int
  deriving Inhabited,DecidableEq
def aG{α:Type}(f:Int→α→α)(sz:α→Nat):Int→List α→List α
  | _,[]=>[]
  | k,a::r=>f k a::aG f sz (k+sz a) r
def cnt{α:Type}(sz:α→Nat)(l:List α):Nat:=(l.map sz).sum
def mk{α:Type}(f:Int→α→α)(sz:α→Nat)(k:Int)(i:Nat)(l:List α):List α:=aG f sz k (l.take i)++l.drop i
section
variable{α:Type}{f:Int→α→α}{sz:α→Nat}
theorem aB: ∀{k:Int} {l:List α},(aG f sz k l).length=l.length
 | _,[]=>rfl
 | _,a::r=>by simp[aG,aB]
theorem gN{k:Int}{i:Nat}{l:List α}:(mk f sz k i l).length=l.length:=by
 simp[mk,aB];omega
theorem kO{k:Int}{l:List α}:mk f sz k 0 l=l:=by simp[mk,aG]
theorem lZ{k:Int}{i:Nat}{l:List α}(h:l.length≤i):mk f sz k i l=aG f sz k l:=by
 simp[mk,List.take_of_length_le h,List.drop_of_length_le h]
theorem jN{k:Int}{i:Nat}{l:List α}(h:i<l.length):(mk f sz k i l)[i]? = some l[i]:=by
 rw[mk,List.getElem?_append_right (by simp[aB];omega)]
 simp[aB,Nat.min_eq_left (Nat.le_of_lt h)]
theorem f5: ∀{k:Int} {l:List α} {a:α},aG f sz k (l++[a])=aG f sz k l++[f (k+cnt sz l) a]
 | k,[],a=>by simp[aG,cnt]
 | k,b::r,a=>by
  have:k+(sz b:Int)+(cnt sz r:Int)=k+(cnt sz (b::r):Int):=by simp[cnt];omega
  simp[aG,f5,this]
theorem je{l:List α}{i:Nat}(h:i<l.length):cnt sz (l.take (i+1))=cnt sz (l.take i)+sz l[i]:=by
 rw[List.take_succ_eq_append_getElem h]
 simp only[cnt,List.map_append,List.sum_append,List.map_cons,List.map_nil,List.sum_cons,List.sum_nil];omega
theorem l6{l:List α}{i:Nat}:cnt sz (l.take i)≤cnt sz l:=by
 have:cnt sz l=cnt sz (l.take i)+cnt sz (l.drop i):=by rw[cnt,cnt,cnt,←List.sum_append,←List.map_append,List.take_append_drop]
 omega
theorem iv{k:Int}{i:Nat}{l:List α}(h:i<l.length):(mk f sz k i l).set i (f (k+cnt sz (l.take i)) l[i])=mk f sz k (i+1) l:=by
 have h1:(aG f sz k (l.take i)).length=i:=by rw[aB,List.length_take];omega
 rw[mk,List.set_append_right _ _ (by omega),h1,Nat.sub_self,mk,List.take_succ_eq_append_getElem h,f5,List.drop_eq_getElem_cons h,List.set_cons_zero]
 simp only[ca,List.singleton_append]
end
abbrev mI:Int→Int→Int:=fun k _=>k
abbrev bh:Int→Nat:=fun _=>1
theorem jg{l:List Int}:cnt bh l=l.length:=by
 induction l with
 | nil=>rfl
 | cons a r ih=>
  have:bh a=1:=rfl
  simp only[cnt,List.map_cons,List.sum_cons,gj]at ih ⊢;omega
theorem gO{k:Int}{xs:List Int}{j:Nat}(h:j<xs.length):(aG mI bh k xs)[j]? = some (k+j):=by
 have h1:=jN (f:=mI) (sz:=bh) (k:=k) (l:=xs) h
 have h2:=iv (f:=mI) (sz:=bh) (k:=k) (l:=xs) h
 have h3:(mk mI bh k (j+1) xs)[j]? = some (k+j):=by
  rw[←h2,List.getElem?_set]
  have e:cnt bh (xs.take j)=j:=by rw[jg,List.length_take];omega
  simp[gN,h,e]
 have h4:(mk mI bh k (j+1) xs)[j]? = (aG mI bh k (xs.take (j+1)))[j]? := by
  rw[mk,List.getElem?_append_left (by rw[aB,List.length_take];omega)]
 have key: ∀{k:Int} {l:List Int} {n j:Nat},j<n→(aG mI bh k (l.take n))[j]? = (aG mI bh k l)[j]? := by
  intro k l
  induction l generalizing k with
  | nil=>intro n j _;simp
  | cons a r ih=>
   intro n j hj
   cases n with
   | zero=>omega
   | succ n=>
    cases j with
    | zero=>simp[aG]
    | succ j=>simp only[List.take_succ_cons,aG,List.getElem?_cons_succ];exact ih (by omega)
 rw[←key (Nat.lt_succ_self j),←h4,h3]
abbrev mT:Int→Tm→Tm:=fun k t=>⟨k,aG mI bh (k+1) t.xs⟩
abbrev nT:Tm→Nat:=fun t=>1+t.xs.length
variable{k:Int}
theorem pk(hk0:0≤k)(hk1:k≤1073741824):MQ h1 h2 60 [.c (.rs 0 0 xs.length),eI k] [(0,bE xs)] (g9 (eI (k+xs.length)) [(0,bE (aG mI bh k xs))]):=by
 refine jH 19 [0] h1 h2 Tryd.func60 Z fun O hF=>?_
 refine gX 0 Z (fun hB=>?_)
 have hl:xs.length≤L:=by simpa[B.fact]using hB.1
 refine af (js Z (jn (ag (af (js Z (jn (ap (ax (X:=Nat) (fun i=>⟨[(0,.c (.rs 0 0 xs.length)),(1,eI (k+i)),(5,eI i)],[(0,bE (mk mI bh k i xs))]⟩) (fun i=>i≤xs.length) (fun i=>xs.length-i) 0 (Ent.to ⟨Z,by simp[aZ,aa],Z,ar⟩ (by simp[kO])) ?_ (fun i hi=>?_)))))))))
 exact dT _
 refine ag (af (aj Z (ck Z Z (js Z (jn (am Z (fun z9=>?_) (fun z9=>?_)))))))
 try simp only[bw]at z9
 refine ae (ag (ap (af (aQ Z (ck Z Z (cW (cG (ex:=[.int .i64 (xs.getD i default)]) (xs':=(mk mI bh k (i+1) xs).map fun n=>[.int .i64 n]) O Z Z Z Z Z Z Z Z Z Z Z Z Z Z (by simp[jN (f:=mI) (sz:=bh) (k:=k) (show i<xs.length by omega),show i<xs.length by omega]) (by rw[←iv (show i<xs.length by omega),jg,List.length_take,Nat.min_eq_left hi];simp[List.map_set])) Z (jn (ac (js Z (ji Z (js Z (jn (ac (js Z (ji Z (js Z (jn ?_)))))))))))))))))
 refine⟨i+1,Ent.to ⟨Z,?_,Z,ar⟩ Z,by omega,by omega⟩
 show some (eI (k+i+1))=some (eI (k+(i+1:Nat)))
 rw[Int.natCast_add,←Int.add_assoc];rfl
 try simp only[bw]at z9
 refine ba (af (aj Z (jr ?_)))
 refine aC Z ?_
 obtain rfl:i=xs.length:=by omega
 rw[lZ (bp _)]
 exact⟨Z,Z⟩
theorem qb(hk0:0≤k)(hk1:k≤1073741824):MQ h1 h2 61 [bz xs,eI k] [] (Plain (eI (if xs=aG mI bh k xs then k+xs.length else -1))):=by
 refine au ?_ Z
 refine jB 21 h1 h2 Tryd.func61 Z fun O hF=>?_
 have hl:xs.length≤L:=by simpa[As.fact,A.fact,M.fact,D.fact,Ds.fact]using hF.1.1
 refine af (js Z (jn (ag (af (js Z (jn (ap (ax (X:=Nat) (fun i=>⟨[(0,bz xs),(1,eI (k+i)),(5,eI i)],[]⟩) (fun i=>i≤xs.length∧∀j,j<i→xs[j]? = some (k+j)) (fun i=>xs.length-i) 0 (Ent.env ⟨Z,by simp[aZ,aa],Z,ar⟩) ?_ (fun i hi=>?_)))))))))
 exact⟨dT _,fun j hj=>absurd hj (Nat.not_lt_zero j)⟩
 refine ag (af (aj Z (gl Z (js Z (jn (am Z (fun z9=>?_) (fun z9=>?_)))))))
 try simp only[bw]at z9
 refine ae (ag (ap (ag (af (aj Z (nQ Z Z (aQ Z (jn (am Z (fun z17=>?_) (fun z17=>?_))))))))))
 try simp only[bw]at z17
 refine af (js Z (jr ?_))
 refine aC Z ?_
 rw[if_neg (fun e=>z17 ?_)]
 have h1:=gO (k:=k) (show i<xs.length by omega)
 rw[←e,List.getElem?_eq_getElem (by omega)]at h1
 rw[Int.toNat_natCast,aJ (by omega)];simpa using h1
 try simp only[bw]at z17
 refine ae (ac (js Z (ji Z (js Z (jn (ac (js Z (ji Z (js Z (jn ?_))))))))))
 refine⟨i+1,Ent.env ⟨Z,?_,Z,ar⟩,⟨by omega,fun j hj=>?_⟩,by omega⟩
 show some (eI (k+i+1))=some (eI (k+(i+1:Nat)))
 rw[Int.natCast_add,←Int.add_assoc];rfl
 rcases Nat.lt_or_ge j i with h|h
 exact hi.2 j h
 obtain rfl:j=i:=by omega
 rw[Int.toNat_natCast,aJ (by omega)]at z17
 rw[List.getElem?_eq_getElem (by omega)];simpa using z17
 try simp only[bw]at z9
 refine ba (af (aj Z (jr ?_)))
 refine aC Z ?_
 obtain rfl:i=xs.length:=by omega
 rw[if_pos (List.ext_getElem? fun j=>?_)]
 rcases Nat.lt_or_ge j xs.length with h|h
 rw[gO h];exact hi.2 j h
 rw[List.getElem?_eq_none (by omega),List.getElem?_eq_none (by rw[aB];omega)]

theorem n7:MQ h1 h2 60 [.c (.d (eu [])),eI k] [] (Plain (eI k)):=by
 refine au ?_ Z
 refine jB 19 h1 h2 Tryd.func60 Z fun O hF=>?_
 refine af (js Z (jn (ag (af (js Z (jn (ap (ax (X:=Nat) (fun i=>⟨[(0,.c (.d (eu []))),(1,eI k),(5,eI 0)],[]⟩) (fun i=>True) (fun i=>0) 0 (Ent.env ⟨Z,Z,Z,ar⟩) ?_ (fun i hi=>?_)))))))))
 trivial
 refine ag (af (aj Z (gl Z (js Z (jn (am Z (fun z9=>?_) (fun z9=>?_)))))))
 try simp only[bw]at z9
 exact absurd z9 (by simp)
 try simp only[bw]at z9
 refine ba (af (aj Z (jr ?_)))
 refine aC Z ?_
 first|rfl|skip
theorem pL:MQ h1 h2 45 [.c (.d (nJ [])),eI k] [] (Plain (eI k)):=by
 refine au ?_ Z
 refine jB 27 h1 h2 Tryd.func45 Z fun O hF=>?_
 refine af (js Z (jn (ag (af (js Z (jn (ap (ax (X:=Nat) (fun i=>⟨[(0,.c (.d (nJ []))),(1,eI k),(5,eI 0)],[]⟩) (fun i=>True) (fun i=>0) 0 (Ent.env ⟨Z,Z,Z,ar⟩) ?_ (fun i hi=>?_)))))))))
 trivial
 refine ag (af (aj Z (gl Z (js Z (jn (am Z (fun z9=>?_) (fun z9=>?_)))))))
 try simp only[bw]at z9
 exact absurd z9 (by simp)
 try simp only[bw]at z9
 refine ba (af (aj Z (jr ?_)))
 refine aC Z ?_
 first|rfl|skip
theorem c40{ts:List Tm}(hk0:0≤k)(hk1:k+cnt nT ts≤1073741824):MQ h1 h2 45 [.c (.rs 0 0 ts.length),eI k] [(0,gp ts)] (g9 (eI (k+cnt nT ts)) [(0,gp (aG mT nT k ts))]):=by
 refine jH 27 [0] h1 h2 Tryd.func45 Z fun O hF=>?_
 refine gX 0 Z (fun hB=>?_)
 have hl:ts.length≤L:=by simpa[B.fact]using hB.1
 refine af (js Z (jn (ag (af (js Z (jn (ap (ax (X:=Nat) (fun i=>⟨[(0,.c (.rs 0 0 ts.length)),(1,eI (k+cnt nT (ts.take i))),(5,eI i)],[(0,gp (mk mT nT k i ts))]⟩) (fun i=>i≤ts.length) (fun i=>ts.length-i) 0 (Ent.to ⟨Z,by simp[aZ,aa,cnt],Z,ar⟩ (by simp[kO])) ?_ (fun i hi=>?_)))))))))
 exact dT _
 refine ag (af (aj Z (ck Z Z (js Z (jn (am Z (fun z9=>?_) (fun z9=>?_)))))))
 try simp only[bw]at z9
 refine ae (ag (ap (af (aQ Z (ck Z Z (js Z ?_))))))
 have hcs:=je (sz:=nT) (show i<ts.length by omega)
 have hcl:=l6 (sz:=nT) (l:=ts) (i:=i+1)
 have hg:=jN (f:=mT) (sz:=nT) (k:=k) (show i<ts.length by omega)
 have hs:=iv (f:=mT) (sz:=nT) (k:=k) (show i<ts.length by omega)
 rw[←aJ (show i<ts.length by omega)]at hcs hg hs
 obtain⟨t,ht⟩: ∃t,t=ts.getD i default:=⟨_,rfl⟩
 rw[←ht]at hcs hg hs
 simp only[nT]at hcs
 have hgl:i<(mk mT nT k i ts).length:=by rw[gN];omega
 refine cW (cG (ex:=Tm.cells t) (xs':=((mk mT nT k i ts).set i ⟨k+cnt nT (ts.take i),t.xs⟩).map Tm.cells) O Z Z Z Z Z Z Z Z Z Z Z Z Z Z (by simp[hg]) (by rw[List.map_set];simp)) Z (bq (js Z (ji Z (js Z (jn (ac (aj Z (ck Z Z (js Z (ab (dx O (ex:=Tm.cells ⟨k+cnt nT (ts.take i),t.xs⟩) Z Z Z Z (by simp[hgl]) Z) Z (js Z (ko O (l:=0) (j:=1) (z:=1) (ex:=Tm.cells ⟨k+cnt nT (ts.take i),t.xs⟩) (ys:=(t.xs).map (fun n=>[D.int .i64 n])) (ys':=(aG mI bh (k+cnt nT (ts.take i)+1) t.xs).map (fun n=>[D.int .i64 n])) (xs':=(mk mT nT k (i+1) ts).map Tm.cells) Z Z Z Z (.rp (.d Z .nil)) (.rp (.d Z .nil)) Z (by simp[hgl]) Z (pk (xs:=t.xs) (k:=(k+cnt nT (ts.take i)+1)) h1 h2 (by omega) (by omega)).1 (fun _=>by rw[dy];exact pk (xs:=t.xs) h1 h2 (by omega) (by omega)) (fun hys=>?_) Z (by simp[aB]) Z Z Z Z (by rw[←hs];simp[List.map_set]) ?_))))))))))))
 have hy:t.xs=[]:=by simpa using hys
 rw[hy]
 exact(n7 h1 h2 (k:=(k+cnt nT (ts.take i)+1))).plain (by simp[cnt,hy])
 refine js Z (jn (ac (js Z (ji Z (js Z (jn ?_))))))
 refine⟨i+1,Ent.to ⟨Z,?_,Z,ar⟩ Z,by omega,by omega⟩
 rw[hcs]
 exact congrArg (fun z=>some (eI z)) (by omega)
 try simp only[bw]at z9
 refine ba (af (aj Z (jr ?_)))
 refine aC Z ?_
 obtain rfl:i=ts.length:=by omega
 rw[lZ (bp _),List.take_length]
 exact⟨Z,Z⟩
def Tm.term(t:Tm):Bool:=t.ok&&decide ((t.xs.length:Int)≤4)
def oE(ts:List Tm)(n:Int):Bool:=ts.all Tm.term&&decide ((ts.length:Int)≤n)
def oU(k:Int):Int:=if k=1 then 2 else if k=7 then 2 else if k=8 then 1 else 0
def Tm.zero(t:Tm):Bool:=decide (t.c=0)&&decide ((t.xs.length:Int)=0)

def pE(s:Sm):Bool:=bif bif bif bif decide (s.kind=2)then true else decide (s.kind=4)then true else decide (s.kind=6)then true else decide (s.kind=7)then true else decide (s.kind=8)
def pF(s:Sm):Bool:=bif decide (s.kind=3)then true else decide (s.kind=4)
def nW(s:Sm):Bool:=bif decide (s.kind=2)then true else decide (s.kind=3)
def sB1(s:Sm):Bool:=bif bif bif !(decide (0≤s.kind)&&decide (s.kind≤8))then true else !s.sum.term then true else !s.index.term then true else !oE s.facts 6
def sB2(s:Sm):Bool:=bif bif bif !pE s then !s.sum.zero else false then true else bif !pF s then !s.index.zero else false then true else bif !decide (s.kind=8)then decide ((0:Int)<s.facts.length)else false
def sB3(s:Sm):Bool:=bif bif nW s then !(decide (0≤s.var)&&decide (s.var≤3))else false then true else bif !nW s then !decide (s.var=0)else false
def oG(s:Sm):Bool:=bif sB1 s then false else bif sB2 s then false else bif sB3 s then false else bif decide (s.kind=5)then(decide (0≤s.event)&&decide (s.event≤3))else decide (s.event=0)
def big(x:Int):Bool:=decide (-1000000000≤x)&&decide (x≤1000000000)
def m7(xs:List Int)(n:Int):Bool:=xs.all big&&decide ((xs.length:Int)=n)
theorem pd{x:Int}:gm x=true↔ -1000000≤x∧x≤1000000:=by simp[gm]
abbrev ew(t:Tm):A:=.agg (t.cells.map .d)
def pi(lo hi x:Int):Bool:=decide (lo≤x)&&decide (x≤hi)

theorem od:MQ h1 h2 89 [eI x,eI lo,eI hi] [] (Plain (eB (pi lo hi x))):=by
 refine au ?_ Z
 refine jB 15 h1 h2 Tryd.func89 Z fun O hF=>?_
 refine af (js Z (bq (cy Z (aw 3 Z Z Z (fun hx=>ak hx Z (ak hx Z (ak hx Z (AN.nil)))) Z Z (ab (ah O Z Z Z Z Z) Z (js Z (jr ?_)))))))
 refine aC Z ?_
 rw[Bool.cond_false_right];rfl
theorem pR:MQ h1 h2 67 [bz xs,eI lo,eI hi] [] (Plain (eB (xs.all (pi lo hi)))):=by
 refine au ?_ Z
 refine jB 21 h1 h2 Tryd.func67 Z fun O hF=>?_
 have hl:xs.length≤L:=by simpa[As.fact,A.fact,M.fact,D.fact,Ds.fact]using hF.1.1
 refine af (js Z (jn (ag (af (js Z (gl Z (js Z (jn (ap (ax (X:=Nat) (fun i=>⟨[(1,eI lo),(2,eI hi),(9,bz xs),(10,eI xs.length),(11,eI i)],[]⟩) (fun i=>i≤xs.length∧∀j (h:j<xs.length),j<i→pi lo hi xs[j]=true) (fun i=>xs.length-i) 0 (Ent.env ⟨Z,Z,Z,Z,Z,ar⟩) ?_ (fun i hi=>?_)))))))))))
 exact⟨dT _,fun j h hj=>absurd hj (Nat.not_lt_zero j)⟩
 refine af (js Z (jn (ag (am Z (fun z12=>?_) (fun z12=>?_)))))
 try simp only[bw]at z12
 refine ae (ag (ap (af (nQ Z Z (aj Z (bq (aQ Z (cn Z (od h1 h2) 19000 Z (js Z (jn (am Z (fun z19=>?_) (fun z19=>?_))))))))))))
 try simp only[bw]at z19
 refine af (js Z (jr ?_))
 refine aC Z ?_
 rw[Int.toNat_natCast,aJ (by omega)]at z19
 rw[iC i (by omega) z19]
 try simp only[bw]at z19
 refine ae (ac (ji Z (js Z (jn ?_))))
 refine⟨i+1,Ent.env ⟨Z,Z,Z,Z,Z,ar⟩,⟨by omega,fun j h hj=>?_⟩,by omega⟩
 by_cases e:j=i
 subst e;rw[Int.toNat_natCast,aJ h]at z19;exact z19
 exact hi.2 j h (by omega)
 try simp only[bw]at z12
 refine ba (af (js Z (jr ?_)))
 refine aC Z ?_
 rw[jT (fun j hj=>hi.2 j hj (by omega))]
theorem pQ:MQ h1 h2 66 [eI x] [] (Plain (eB (gm x))):=by
 refine au ?_ Z
 refine jB 5 h1 h2 Tryd.func66 Z fun O hF=>?_
 refine af (js Z (bq (js Z (cn Z (od h1 h2) 5000 Z (js Z (jr ?_))))))
 refine aC Z ?_
 first|rfl|skip
theorem mD(t:Tm):(bif bif bif decide ((t.xs.length:Int)≤10)then gm t.c else false then t.xs.all gm else false then bif decide ((t.xs.length:Int)=0)then true else !decide (t.xs.getD ((t.xs.length:Int)-1).toNat default=0)else false)=t.ok:=by
 unfold Tm.ok
 cases gm t.c<;>cases t.xs.all gm<;>simp
 by_cases h0:t.xs=[]
 simp[h0]
 have h1:0<t.xs.length:=List.length_pos_iff.2 h0
 by_cases h2:(t.xs.length:Int)≤10
 have h3: ¬(10:Int)<t.xs.length:=by omega
 simp[h0,h1,h2,h3]
 have h3:(10:Int)<t.xs.length:=by omega
 simp[h2,h3]
theorem mA:MQ h1 h2 33 [ew t] [] (Plain (eB t.ok)):=by
 refine au ?_ Z
 refine jB 32 h1 h2 Tryd.func33 Z fun O hF=>?_
 have hl:t.xs.length≤L:=by simpa[As.fact,A.fact,M.fact,Ms.fact,D.fact,Ds.fact]using hF.1.2.1.1
 refine af (jx Z (js Z (bq (aj Z (gl Z (js Z (jf [3,2,1,0] Z (bq (aQ Z (jf [9,3,2,1,0] Z (aw 3 Z Z Z (fun hx=>ak hx Z (ak hx Z (dJ O hx Z Z Z Z (pQ h1 h2) (ao Z) Z Z Z Z Z Z Z (B0:=13000) Z (AN.nil)))) Z Z (ab (ah O Z Z Z Z Z) Z (js Z (jf [14,3,2,1,0] Z (aw 3 Z Z Z (fun hx=>ak hx Z (ak hx Z (dJ O hx Z Z Z Z (pR h1 h2) (ao Z) Z Z Z Z Z Z Z (B0:=18000) Z (AN.nil)))) Z Z (ab (ah O Z Z Z Z Z) Z (js Z (jf [19,3,2,1,0] Z (aw 11 Z Z Z (fun hx=>ak hx Z (ak hx Z (ak hx Z (il 7 Z Z Z Z (fun hx'=>ak hx' Z (ak hx' Z (ak hx' Z (aW hx' (aI O Z Z (by first|omega|(simp only[bw]at *;omega)) (by first|omega|(simp only[bw]at *;omega))) Z (aW hx' (ek O Z Z Z Z Z Z Z Z (by first|omega|(simp only[bw]at *;omega)) (iy (by first|omega|(simp only[bw]at *;omega)) (by first|omega|(simp only[bw]at *;omega)))) Z (ak hx' Z (ak hx' Z (AN.nil)))))))) Z Z (aW hx (aq O Z Z Z Z Z) Z (AN.nil)))))) Z Z (ab (ah O Z Z Z Z Z) Z (js Z (jf [2,1,0] Z (jr ?_)))))))))))))))))))))))
 refine aC Z ?_
 exact congrArg eB (mD t)
inductive Tr where
  | node (s:Sm) (at_:Int) (kids:List Tr)
mutual
def Tr.d:Tr→D
  | .node s a ks=>.ptr [.int .i64 s.kind,.int .i64 s.var,.int .i64 s.event,.int .i64 s.sum.c,eu s.sum.xs,.int .i64 s.index.c,eu s.index.xs,nJ s.facts,.int .i64 a,.slc 1 (Trs.d ks)] 0
def Trs.d:List Tr→List (List D)
  | []=>[]
  | t::r=>[t.d]::Trs.d r
end
abbrev tB(r:Option (Tr×Nat)):Bool:=match r with|some _=>true|none=>false
structure RS where
  vars:List Int
  cells:List Int
  events:List Int
  fuel:Int
  steps:Int
  out:Int
structure RSok(r:RS):Prop where
  vars:m7 r.vars 4=true
  cells:m7 r.cells 8=true
  lo:0≤r.steps
  hi:r.steps≤r.fuel
  fuel:r.fuel≤2000
  events:(r.events.length:Int)≤r.steps
structure RSle(r r':RS):Prop where
  ok:RSok r'
  fuel:r'.fuel=r.fuel
  steps:r.steps≤r'.steps

mutual
/-- Each element is valid, and has the statements behind it that it bU. -/
def Tr.ok:Tr→Prop
  | .node s _ ks=>oG s=true∧(ks.length:Int)=oU s.kind∧Trs.ok ks
def Trs.ok:List Tr→Prop
  | []=>True
  | t::r=>t.ok∧Trs.ok r
end
def r0(s:Sx)(f:Int):RS:=⟨s.vars,s.cells,[],f,0,0⟩
structure Rs where
  v:List Int
  c:List Int
  ev:List Int
  out:Int
  st:Int
structure Cf where
  n:Nat
  ws:List Nat
  v:List Int
  c:List Int
  ev:List Int
  st:Int

structure Nd where
  kind:Int
  fact:Int
  term:Tm
  mul:List Int
  deriving Inhabited,DecidableEq
structure Sq where
  facts:List Tm
  goal:Tm
  deriving Inhabited,DecidableEq
abbrev Sq.cells(s:Sq):List D:=[nJ s.facts,.int .i64 s.goal.c,eu s.goal.xs]
abbrev my(s:Sq):A:=.agg (s.cells.map .d)
theorem o9{s t:Sq}:MQ h1 h2 17 [my s,my t] [] (Plain (eB (decide (s=t)))):=by
 refine au ?_ Z
 refine jB 17 h1 h2 Tryd.func17 Z fun O hF=>?_
 refine af (jx Z (jx Z (js Z (jn (ag (af (cy Z (cn Z (c35 h1 h2) 10000 Z (js Z (jn (am Z (fun z10=>?_) (fun z10=>?_))))))))))))
 try simp only[bw]at z10
 refine af (js Z (jr ?_))
 refine aC Z ?_
 rw[decide_eq_false (fun e=>z10 (by rw[e]))]
 try simp only[bw]at z10
 refine ae (ag (af (cy Z (cn Z (p9 h1 h2) 16000 Z (js Z (jn (am Z (fun z16=>?_) (fun z16=>?_))))))))
 try simp only[bw]at z16
 refine af (js Z (jr ?_))
 refine aC Z ?_
 rw[decide_eq_false (fun e=>z16 (by rw[e]))]
 try simp only[bw]at z16
 refine ae (af (js Z (jr ?_)))
 refine aC Z ?_
 have e:s=t:=by cases s;cases t;simp_all
 rw[decide_eq_true e]
theorem c94{c:Int}(hk0:0≤k)(hk1:k+xs.length≤1073741824):MQ h1 h2 46 [.agg [.d (.int .i64 c),.rs 0 0 xs.length],eI k] [(0,bE xs)] (g9 (eI (k+xs.length)) [(0,bE (aG mI bh k xs))]):=by
 refine jH 10 [0] h1 h2 Tryd.func46 Z fun O hF=>?_
 refine af (jx Z (aP ?_))
 refine js Z (bq (aQ Z (jf [7,6,4,0,1] Z (cQ O [0] (bin:=[bE xs]) Z Z Z Z (pk (xs:=xs) (k:=k) h1 h2 hk0 (by omega)) Z Z Z Z Z Z (B0:=9000) Z Z (aP ?_)))))
 refine js Z (jf [1,4,0] Z (bq (aj Z (jr ?_))))
 refine⟨.inl Z,_,aU [0] Z Z (e':=[(4,eI (k+xs.length))]) ⟨Z,ar⟩ Z,_,Z,Z,Z⟩
theorem c38{s:Sq}(hk0:0≤k)(hk1:k+cnt nT s.facts+s.goal.xs.length≤1073741824):MQ h1 h2 18 [.agg [.rs 0 0 s.facts.length,.d (.int .i64 s.goal.c),.rs 1 0 s.goal.xs.length],eI k] [(0,gp s.facts),(1,bE s.goal.xs)] (g9 (eI (k+cnt nT s.facts+s.goal.xs.length)) [(0,gp (aG mT nT k s.facts)),(1,bE (aG mI bh (k+cnt nT s.facts) s.goal.xs))]):=by
 refine jH 14 [0,1] h1 h2 Tryd.func18 Z fun O hF=>?_
 refine af (jx Z (aP ?_))
 refine js Z (bq (aQ Z (jf [7,6,4,2,0,1] Z (cQ O [0] (bin:=[gp s.facts]) Z Z Z Z (c40 (ts:=s.facts) (k:=k) h1 h2 hk0 (by omega)) Z Z Z Z Z Z (B0:=9000) Z Z (aP ?_)))))
 refine js Z (jf [1,4,2,0] Z (bq (aQ Z (jf [11,10,1,4,2,0] Z (cQ O [1] (bin:=[bE s.goal.xs]) Z Z Z Z (c94 (c:=s.goal.c) (xs:=s.goal.xs) (k:=k+cnt nT s.facts) h1 h2 (by omega) (by omega)) Z Z Z Z Z Z (B0:=13000) Z Z (aP ?_))))))
 refine js Z (jf [1,4,2,0] Z (bq (aj Z (jr ?_))))
 refine⟨.inl Z,_,aU [0,1] Z Z (e':=[(4,eI (k+cnt nT s.facts+s.goal.xs.length))]) ⟨Z,ar⟩ Z,_,Z,Z,Z⟩
theorem oN{L:Nat}(h1:4096≤L)(h2:L≤1073741824){xs:List Int}:MC Tryd.prog L 63 [bz xs] [] (Plain (bz xs)):=(pS h1 h2).frozen (.v (.c (.whole rfl (dy _).symm)))
theorem oM{L:Nat}(h1:4096≤L)(h2:L≤1073741824){xs:List Int}:MC Tryd.prog L 72 [bz xs] [] (Plain (bz xs)):=(oc h1 h2).frozen (.v (.c (.whole rfl (dy _).symm)))
abbrev n4(ts:List Tm):B:=.row false 2 (ts.map Tm.cells)

theorem pT:MQ h1 h2 37 [ew t] [] (Plain (ew t)):=by
 refine MC.data (jB 9 h1 h2 Tryd.func37 Z fun O hF=>?_)
 refine af (jx Z (jl Z (jn (ag (mv [_,_,_,_,_,_,_] [pn [] 0 1,pn [0] 0 1,cm,bL [2],pe [2,3] 0,pn (rg 0 5) 1 1,pe (rg 0 6) 1] [4,6] [_,_,_] (ai (kc Z (V Z)) (ai (kc Z (V Z)) (kc Z (kc Z (ai (km O (B0:=8000) Z Z Z Z (oM (xs:=t.xs) h1 h2) (ao Z) Z Z Z Z Z) (kc Z (ai (eS Z Z Z) trivial))))))) ?_)))))
 refine nS ?_
 refine aC Z ?_
 exact .v (.agg (aL Z))
def aT(xs:List Int):List Int:=(xs.reverse.dropWhile (· == 0)).reverse
theorem gF{xs:List Int}:aT (xs++[0])=aT xs:=by simp[aT]
theorem kZ{xs:List Int}{x:Int}(h:x≠0):aT (xs++[x])=xs++[x]:=by simp[aT,h]
theorem gG{xs:List Int}{n:Nat}(h:n<xs.length)(h0:xs.getD n default=0):aT (xs.take (n+1))=aT (xs.take n):=by
 rw[List.take_succ_eq_append_getElem h,←aJ h,h0,gF]
theorem eW{xs:List Int}{n:Nat}(hn:n≤xs.length)(h:n=0∨xs.getD (n-1) default≠0):aT (xs.take n)=xs.take n:=by
 cases n with
 | zero=>simp[aT]
 | succ n=>
  have h':xs.getD n default≠0:=by
   rcases h with h|h
   cases h
   exact h
  rw[aJ (by omega)]at h'
  rw[List.take_succ_eq_append_getElem (by omega),kZ h']
def gn(c:Int)(xs:List Int):Tm×Bool:=if(Tm.mk c (aT xs)).ok=true then(⟨c,aT xs⟩,true)else(⟨0,[]⟩,false)
abbrev lL(r:Tm×Bool):A:=.tup [ew r.1,eB r.2]
def pD(a:Tm)(m:Int)(b:Tm)(n:Int):List Int:=(List.range 10).map fun i=>m*a.xs.getD i 0+n*b.xs.getD i 0
def pC(a:Tm)(m:Int)(b:Tm)(n:Int):Tm×Bool:=gn (m*a.c+n*b.c) (pD a m b n)
def nZ(t:Tm):Tm×Bool:=pC t (-1) ⟨1,[]⟩ (-1)
structure Small(t:Tm):Prop where
  c:gm t.c=true
  xs:t.xs.all gm=true
theorem ok_len{t:Tm}(h:t.ok=true):t.xs.length≤10:=by
 simp only[Tm.ok,aR,Bool.not_eq_true']at h
 by_cases h1:(10:Int)<t.xs.length
 rw[decide_eq_true h1]at h
 cases gm t.c<;>simp at h
 omega
theorem pP{c:Int}:MQ h1 h2 29 [eI c,bz xs] [] (Plain (lL (gn c xs))):=by
 refine MC.data (jB 32 h1 h2 Tryd.func29 Z fun O hF=>?_)
 have hl:xs.length≤L:=by simpa[As.fact,A.fact,M.fact,D.fact,Ds.fact]using hF.2.1.1
 refine af (jl Z (js Z (bq (js Z (gl Z (js Z (jf [6,5,4,0,1] Z (jn (ag (ap (ax (X:=Nat) (fun n=>⟨[(0,eI c),(1,bz xs),(4,.c (.pt 4 0 0)),(6,eI n)],[(4,.box [.d (.int .i64 0),.d .nils])]⟩) (fun n=>n≤xs.length∧aT (xs.take n)=aT xs) (fun n=>n) xs.length (Ent.env ⟨Z,Z,Z,Z,ar⟩) ?_ (fun n hi=>?_))))))))))))
 exact⟨bp _,by rw[List.take_length]⟩
 refine ag (af (aQ Z (jf [12,0,1,4,6] Z (aw 6 Z Z Z (fun hx=>ak hx Z (ak hx Z (aW hx (vF Z) Z (aW hx (vD Z) Z (ak hx Z (ak hx Z (AN.nil))))))) Z Z (ab (ah O Z Z Z Z Z) Z (jf [19,0,1,4,6] Z (jn (am Z (fun z19=>?_) (fun z19=>?_)))))))))
 refine ae (ap (ac (js Z (ji Z (js Z (jf [6,19,0,1,4] Z (jn ?_)))))))
 rw[Bool.cond_false_right,aR,decide_eq_true_eq,decide_eq_true_eq]at z19
 obtain⟨k,hk⟩: ∃k,n=k+1:=⟨n-1,by omega⟩
 subst hk
 have hk2:((k+1:Nat):Int)-1=k:=by omega
 rw[hk2]at z19
 refine⟨k,Ent.to ⟨Z,Z,Z,by rw[hk2];rfl,ar⟩ Z,⟨by omega,?_⟩,Nat.lt_succ_self k⟩
 rw[←hi.2,gG (by omega) (by simpa using z19.2)]
 refine ba (af (aQ Z ?_))
 have hd:aT (xs.take n)=xs.take n:=eW hi.1 (by
  rw[Bool.cond_false_right]at z19
  rcases Nat.eq_zero_or_pos n with h0|h0
  ·
   exact .inl h0
  ·
   refine .inr (fun h9=>?_)
   have e1:((n:Int)-1).toNat=n-1:=by omega
   rw[e1,h9]at z19;simp at z19;omega)
 have ht:=hi.2
 rw[hd]at ht
 refine ab ((cf O Z Z ⟨by omega,by simp;omega⟩).cast (v':=bz (aT xs)) (by rw[←ht];simp[List.map_take])) Z (jf [25,22,19,0,1,4,6] Z (aE O Z Z Z Z (oN (xs:=aT xs) h1 h2) (ao Z) Z Z Z Z (B0:=27000) Z Z (js Z (jf [27,19,0,1,4,6] Z (jl Z (jo Z (jn (ag (af (aX O Z Z Z Z (pU (t:=⟨c,aT xs⟩) h1 h2) (.cons (.c (.pb (cs:=Tm.cells ⟨c,aT xs⟩) Z (aL Z))) .nil) Z Z Z Z Z (B0:=29000) Z (js Z (jn (am Z (fun z29=>?_) (fun z29=>?_))))))))))))))
 refine af (js Z (jo Z (js Z (jr ?_))))
 refine aC Z ?_
 have hok:(Tm.mk c (aT xs)).ok=false:=by simpa using z29
 rw[show gn c xs=(⟨0,[]⟩,false)from if_neg (by rw[hok];decide)]
 exact .tup (.cons (.agg (.cons .d (.cons .nils .nil))) (.cons (.c .d) .nil))
 refine ae (af (js Z (jo Z (js Z (jr ?_)))))
 refine aC Z ?_
 have hok:(Tm.mk c (aT xs)).ok=true:=by simpa using z29
 rw[show gn c xs=(⟨c,aT xs⟩,true)from if_pos hok]
 exact .tup (.cons (.agg (aL Z)) (.cons (.c .d) .nil))
def gy(ts:List Tm)(n:Int):Bool:=ts.all Tm.ok&&decide ((ts.length:Int)≤n)
def jI(s:Sq):Bool:=gy s.facts 13&&s.goal.ok
def co(x:Int):Bool:=decide (0≤x)&&decide (x≤1000000)
def dl(k:Int):Int:=if k=1 then -1 else if k=2 then 1 else 0
def n3:List Nd→Int→Option Nat
  | [],need=>if need≤0 then some 0 else none
  | s::r,need=>if need≤0 then some 0 else(n3 r (need+dl s.kind)).map (· + 1)
def pI(p:List Nd)(k:Nat):Int:=match n3 (p.drop k) 1 with
  | some n=>k+n
  | none=> -1
def nP(p:List Nd)(k:Nat):Nat→Int×Bool
  | 0=>(-1,false)
  | i+1=>if(p.getD i default).kind=1∨pI p i≤k then nP p k i else(i,decide (i+1=k))
def lH(xs:List Int):Nat:=xs.foldl (fun g x=>Nat.gcd g x.natAbs) 0
def mx(a b:Int):Int:=if a>b then a else b
def lM(t:Tm):Tm×Bool:=if lH t.xs<2 then(⟨0,[]⟩,false)else
  gn (if t.c.tmod (lH t.xs)<0 then t.c.tdiv (lH t.xs)-1 else t.c.tdiv (lH t.xs)) (t.xs.map fun x=>x.tdiv (lH t.xs))
def nF(n:Nd)(ctx:List Tm)(first:Bool):List Tm:=if n.kind=3 then ctx++[(lM (ctx.getD n.fact.toNat default)).1]else if first=true then ctx++[n.term]else ctx++[(nZ n.term).1]
def kY(f:Tm→Int):List Tm→List Int→Int
  | t::ts,m::ms=>m*f t+kY f ts ms
  | _,_=>0
abbrev nn(k:Nat):Tm→Int:=fun t=>t.xs.getD k 0
def oL(ts:List Tm)(ms:List Int):List Int:=(List.range 10).map fun k=>kY (nn k) ts ms
def mV(ctx:List Tm)(ms:List Int):Bool:=decide (ctx.length=ms.length)&&((oL ctx ms).all (fun x=>decide (x=0))&&decide (kY Tm.c ctx ms<0))
def lW(n:Nd)(ctx:List Tm):Bool:=if n.kind=1 then mV ctx n.mul else if 20≤ctx.length then false else if n.kind=2 then(nZ n.term).2 else if n.fact≥ctx.length then false else(lM (ctx.getD n.fact.toNat default)).2

theorem pN{a b:Int}:MQ h1 h2 75 [eI a,eI b] [] (Plain (eI (mx a b))):=by
 refine au ?_ Z
 refine jB 10 h1 h2 Tryd.func75 Z fun O hF=>?_
 refine af (js Z (jn (ag (af (aQ Z (jn (am Z (fun z7=>?_) (fun z7=>?_))))))))
 try simp only[bw]at z7
 refine af (aj Z (jr ?_))
 refine aC Z ?_
 rw[mx,if_pos z7]
 try simp only[bw]at z7
 refine ae (af (aj Z (jr ?_)))
 refine aC Z ?_
 rw[mx,if_neg (by omega)]
def nY(ts:List Tm)(ms:List Int)(i j:Nat):List Int:=(List.range 10).map fun k=>kY (nn k) (ts.take i) (ms.take i)+(if k<j then ms.getD i default*(ts.getD i default).xs.getD k 0 else 0)
structure CtxOk(ctx:List Tm):Prop where
  ok: ∀t∈ctx,t.ok=true
  len:ctx.length≤1000
end Go.Al
