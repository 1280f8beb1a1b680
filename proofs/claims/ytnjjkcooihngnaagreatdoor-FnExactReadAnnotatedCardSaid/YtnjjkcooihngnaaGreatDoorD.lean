/- Contracts of the functions that copy, compare, mark and measure; the reference's functions for terms. -/
import Derived.Test.YtnjjkcooihngnaaGreatDoorProg
import Derived.Test.YtnjjkcooihngnaaGreatDoorC
set_option linter.unusedVariables false
set_option linter.unusedSimpArgs false
set_option maxRecDepth 10000
open Go.Proofs
/- The table of the types that the functions of this seat use, and its proof. -/
namespace Go.Al
variable{L:Nat}(h1:4096≤L)(h2:L≤1073741824)
def tt:List (Nat×TI):=[
  (2,⟨4,false,0,1,8,[.int .i64 0],[]⟩),
  (3,⟨4,false,0,1,8,[.int .i64 0],[]⟩),
  (4,⟨5,false,0,1,1,[.bool false],[]⟩),
  (5,⟨4,false,0,1,1,[.int .u8 0],[]⟩),
  (9,⟨2,false,0,1,16,[.str ByteArray.empty],[]⟩),
  (21,⟨4,false,0,1,4,[.int .i32 0],[]⟩),
  (22,⟨1,false,39,1,24,[.nils],[]⟩),
  (23,⟨1,false,46,1,24,[.nils],[]⟩),
  (24,⟨1,false,44,1,24,[.nils],[]⟩),
  (26,⟨3,true,0,4,96,[.nils,.nils,.nils,.nils],[(0,1),(1,1),(2,1),(3,1)]⟩),
  (32,⟨1,false,9,1,24,[.nils],[]⟩),
  (37,⟨1,false,2,1,24,[.nils],[]⟩),
  (39,⟨3,true,0,2,32,[.int .i64 0,.nils],[(0,1),(1,1)]⟩),
  (44,⟨3,true,0,2,32,[.int .i64 0,.nils],[(0,1),(1,1)]⟩),
  (46,⟨3,true,0,2,16,[.int .i64 0,.int .i64 0],[(0,1),(1,1)]⟩),
  (106,⟨6,false,0,1,8,[.nilp],[]⟩),
  (107,⟨1,false,5,1,24,[.nils],[]⟩),
  (109,⟨3,true,0,2,32,[.nilp,.nils],[(0,1),(1,1)]⟩),
  (118,⟨4,false,0,1,8,[.int .u64 0],[]⟩),
  (124,⟨6,false,0,1,8,[.nilp],[]⟩),
  (128,⟨4,false,0,1,4,[.int .u32 0],[]⟩),
  (132,⟨4,false,0,1,8,[.int .u64 0],[]⟩),
  (153,⟨3,true,0,2,2,[.int .u8 0,.int .u8 0],[(0,1),(1,1)]⟩),
  (162,⟨3,true,0,1,16,[.str ByteArray.empty],[(0,1)]⟩)
]
theorem tt2:TIok Tryz.prog 2 ⟨4,false,0,1,8,[.int .i64 0],[]⟩:=(by constructor<;>kernel_rfl)
theorem tt3:TIok Tryz.prog 3 ⟨4,false,0,1,8,[.int .i64 0],[]⟩:=(by constructor<;>kernel_rfl)
theorem tt4:TIok Tryz.prog 4 ⟨5,false,0,1,1,[.bool false],[]⟩:=(by constructor<;>kernel_rfl)
theorem tt5:TIok Tryz.prog 5 ⟨4,false,0,1,1,[.int .u8 0],[]⟩:=(by constructor<;>kernel_rfl)
theorem tt9:TIok Tryz.prog 9 ⟨2,false,0,1,16,[.str ByteArray.empty],[]⟩:=(by constructor<;>kernel_rfl)
theorem uI:TIok Tryz.prog 21 ⟨4,false,0,1,4,[.int .i32 0],[]⟩:=(by constructor<;>kernel_rfl)
theorem uH:TIok Tryz.prog 22 ⟨1,false,39,1,24,[.nils],[]⟩:=(by constructor<;>kernel_rfl)
theorem uG:TIok Tryz.prog 23 ⟨1,false,46,1,24,[.nils],[]⟩:=(by constructor<;>kernel_rfl)
theorem uF:TIok Tryz.prog 24 ⟨1,false,44,1,24,[.nils],[]⟩:=(by constructor<;>kernel_rfl)
theorem uE:TIok Tryz.prog 26 ⟨3,true,0,4,96,[.nils,.nils,.nils,.nils],[(0,1),(1,1),(2,1),(3,1)]⟩:=(by constructor<;>kernel_rfl)
theorem uD:TIok Tryz.prog 32 ⟨1,false,9,1,24,[.nils],[]⟩:=(by constructor<;>kernel_rfl)
theorem uC:TIok Tryz.prog 37 ⟨1,false,2,1,24,[.nils],[]⟩:=(by constructor<;>kernel_rfl)
theorem uB:TIok Tryz.prog 39 ⟨3,true,0,2,32,[.int .i64 0,.nils],[(0,1),(1,1)]⟩:=(by constructor<;>kernel_rfl)
theorem uA:TIok Tryz.prog 44 ⟨3,true,0,2,32,[.int .i64 0,.nils],[(0,1),(1,1)]⟩:=(by constructor<;>kernel_rfl)
theorem uz:TIok Tryz.prog 46 ⟨3,true,0,2,16,[.int .i64 0,.int .i64 0],[(0,1),(1,1)]⟩:=(by constructor<;>kernel_rfl)
theorem tk:TIok Tryz.prog 106 ⟨6,false,0,1,8,[.nilp],[]⟩:=(by constructor<;>kernel_rfl)
theorem tj:TIok Tryz.prog 107 ⟨1,false,5,1,24,[.nils],[]⟩:=(by constructor<;>kernel_rfl)
theorem th:TIok Tryz.prog 109 ⟨3,true,0,2,32,[.nilp,.nils],[(0,1),(1,1)]⟩:=(by constructor<;>kernel_rfl)
theorem tg:TIok Tryz.prog 118 ⟨4,false,0,1,8,[.int .u64 0],[]⟩:=(by constructor<;>kernel_rfl)
theorem tf:TIok Tryz.prog 124 ⟨6,false,0,1,8,[.nilp],[]⟩:=(by constructor<;>kernel_rfl)
theorem td:TIok Tryz.prog 128 ⟨4,false,0,1,4,[.int .u32 0],[]⟩:=(by constructor<;>kernel_rfl)
theorem tc:TIok Tryz.prog 132 ⟨4,false,0,1,8,[.int .u64 0],[]⟩:=(by constructor<;>kernel_rfl)
theorem tb:TIok Tryz.prog 153 ⟨3,true,0,2,2,[.int .u8 0,.int .u8 0],[(0,1),(1,1)]⟩:=(by constructor<;>kernel_rfl)
theorem ta:TIok Tryz.prog 162 ⟨3,true,0,1,16,[.str ByteArray.empty],[(0,1)]⟩:=(by constructor<;>kernel_rfl)
theorem s9:TTok Tryz.prog tt:=⟨tt2,tt3,tt4,tt5,tt9,uI,uH,uG,uF,uE,uD,uC,uB,uA,uz,tk,tj,th,tg,tf,td,tc,tb,ta,ao⟩
theorem o9:TTplain tt=true:=by kernel_rfl
theorem rF:Tryz.prog.follows .mixedOrders=true:=by kernel_rfl
theorem af{σ:Sg}{Q:Exit→St→Prop}{s:St}{id:Nat}{l:List Oper}{y:Code}(h:AOps σ l.toArray (gy (AWP σ y Q) Q) l s):AWP σ (.seq (.region id l.toArray false) y) Q s:=AWP.seq (AWP.region h)
theorem jn{σ:Sg}{Q:Exit→St→Prop}{s:St}{all:Array Oper}(h:Q .normal s):AOps σ all Q [] s:=AOps.nil h
theorem bq{σ:Sg}{Q:Exit→St→Prop}{s:St}{all:Array Oper}{id:Nat}{l:List Oper}{y:Code}(h:AOps σ l.toArray (gy (AWP σ y Q) Q) l s):AOps σ all (gy (AWP σ (.seq (.region id l.toArray false) y) Q) Q) [] s:=AOps.nil (AWP.seq (AWP.region h))
theorem aK:(∀{α β:Type} {f:α→β} {l:List α},(l.map f).length=l.length)∧(∀{α:Type} [BEq α] [LawfulBEq α] {a b:α},(a==b)=true↔a=b)∧(∀{p:Prop} [Decidable p],(decide p=true)=p)∧(∀{p:Prop} [Decidable p],(decide p=false)↔¬p)∧(∀{b:Bool},((!b)=true)=(b=false))∧(∀{b:Bool},((!b)=false)=(b=true))∧((!true)=false)∧((!false)=true)∧(∀{a b:Int},¬a<b↔b≤a)∧(∀{a b:Int},¬a≤b↔b<a):=by
 refine⟨?_,?_,?_,?_,?_,?_,?_,?_,?_,?_⟩<;>intros<;>simp
theorem aI{σ:Sg}{Q:bB}{all:Array Oper}{l:List Oper}{e:List (Nat×A)}{H H':List (Nat×B)}(K:AOps σ all Q l ⟨e,H'⟩)(h:HN H H':=by repeat' (first|apply HN.cons rfl|exact HN.nil rfl|exact BN.row rfl|exact BN.map rfl|apply BN.box rfl|apply MN.cons rfl|exact MN.nil rfl|exact XN.d rfl|exact XN.rs rfl|exact kn)):AOps σ all Q l ⟨e,H⟩:=nL h K
theorem m9{σ:Sg}{Q:Exit→St→Prop}{c:Code}{e:List (Nat×A)}{H H':List (Nat×B)}(K:AWP σ c Q ⟨e,H'⟩)(h:HN H H':=by repeat' (first|apply HN.cons rfl|exact HN.nil rfl|exact BN.row rfl|exact BN.map rfl|apply BN.box rfl|apply MN.cons rfl|exact MN.nil rfl|exact XN.d rfl|exact XN.rs rfl|exact kn)):AWP σ c Q ⟨e,H⟩:=pO h K
def sE(e:List (Nat×A)):List Nat→Option (List (Nat×A))
  | []=>some []
  | k :: ks=>match lk e k,sE e ks with
    | some v,some r=>some ((k,v)::r)
    | _,_=>none
theorem kj{e:List (Nat×A)}: ∀{ks:List Nat} {e':List (Nat×A)},sE e ks=some e'→envSub e e'
 | [],e',h=>by cases h;trivial
 | k::ks,e',h=>by
  unfold sE at h
  split at h
  rename_i v r h1 h2
  cases h
  exact⟨h1,kj h2⟩
  cases h
theorem jf{σ:Sg}{Q:Exit→St→Prop}{all:Array Oper}{l:List Oper}{e e':List (Nat×A)}{H:List (Nat×B)}(ks:List Nat)(h:sE e ks=some e')(K:AOps σ all Q l ⟨e',H⟩):AOps σ all Q l ⟨e,H⟩:=lp e' (kj h) K
theorem jw{σ:Sg}{Q:Exit→St→Prop}{c:Code}{e e':List (Nat×A)}{H:List (Nat×B)}(ks:List Nat)(h:sE e ks=some e')(K:AWP σ c Q ⟨e',H⟩):AWP σ c Q ⟨e,H⟩:=mi e' (kj h) K


noncomputable abbrev SG(L nt:Nat):Sg:=⟨Tryz.prog,tt,L,nt,[]⟩
theorem rD{L nt}(h1:4096≤L)(h2:L≤9223372036854775807):SgOk (SG L nt):=⟨s9,o9,h1,h2,rF⟩
theorem jB{L f:Nat}{fn:Func}{c:Code}{args:List A}{Q:A→List (Nat×B)→Prop}(nt:Nat)(h1:4096≤L)(h2:L≤1073741824)(hf:Tryz.prog.funcs[f]? = some fn)(hz:(fn.body,fn.ntmps,Nat.ble args.length nt)=(some c,nt,true))(h:SgOk (SG L nt)→As.fact L args→AWP (SG L nt) c (fun e s=>(e= .ret∨e= .normal)∧∃s2,Ent (SG L nt) s s2∧∃res,cJ tt s2 fn.results.toList=some res∧Q res s2.H) ⟨bk 0 args,[]⟩)(hn:(fn.name== "runtime.NumGoroutine")=false:=by kernel_rfl):MC Tryz.prog L f args [] Q:=have hσ:=rD (nt:=nt) h1 (Nat.le_trans h2 (by decide));have hz:=Prod.mk.inj hz;have hy:=Prod.mk.inj hz.2;MC.body hσ hf hn hz.1 hy.1 (Nat.le_of_ble_eq_true hy.2) (h hσ)
theorem jH{L f:Nat}{fn:Func}{c:Code}{args:List A}{Hin:List (Nat×B)}{Q:A→List (Nat×B)→Prop}(nt:Nat)(ks:List Nat)(h1:4096≤L)(h2:L≤1073741824)(hf:Tryz.prog.funcs[f]? = some fn)(hz:(fn.body,fn.ntmps,ks,Nat.ble args.length nt)=(some c,nt,Hin.map (·.1),true))(h:SgOk ⟨Tryz.prog,tt,L,nt,ks⟩→As.fact L args→AWP ⟨Tryz.prog,tt,L,nt,ks⟩ c (fun e s=>(e= .ret∨e= .normal)∧∃s2,Ent ⟨Tryz.prog,tt,L,nt,ks⟩ s s2∧∃res,cJ tt s2 fn.results.toList=some res∧Q res s2.H) ⟨bk 0 args,Hin⟩)(hn:(fn.name== "runtime.NumGoroutine")=false:=by kernel_rfl):MC Tryz.prog L f args Hin Q:=have hσ:=kx (js:=ks) (rD (nt:=nt) h1 (Nat.le_trans h2 (by decide)));have hz:=Prod.mk.inj hz;have hy:=Prod.mk.inj hz.2;have hx:=Prod.mk.inj hy.2;pM hσ hf hn hz.1 hy.1 hx.1 (Nat.le_of_ble_eq_true hx.2) (h hσ)
abbrev MQ{L:Nat}(h1:4096≤L)(h2:L≤1073741824)(f:Nat)(ds:List A)(Hin:List (Nat×B))(Q:A→List (Nat×B)→Prop):Prop:=MC Tryz.prog L f ds Hin Q
abbrev eI(n:Int):A:=.c (.d (.int .i64 n))
abbrev eB(b:Bool):A:=.c (.d (.bool b))
abbrev il(xs:List Int):D:=.slc 1 (xs.map fun n=>[.int .i64 n])
structure Tm where
  c:Int
  xs:List Int
  deriving Inhabited
abbrev Tm.cells(t:Tm):List D:=[.int .i64 t.c,il t.xs]
abbrev ptr(cs:List D):A:=.c (.d (.ptr cs 0))
def gv(x:Int):Bool:=decide (-1000000≤x)&&decide (x≤1000000)
def Tm.ok(t:Tm):Bool:=!(bif (bif !gv t.c then true else decide ((10:Int)<t.xs.length))then true else bif decide ((0:Int)<t.xs.length)then decide (t.xs.getD ((t.xs.length:Int)-1).toNat default=0)else false)&&t.xs.all gv
theorem ix{α:Type}{p:α→Bool}{xs:List α}(h: ∀j (hj:j<xs.length),p xs[j]=true):xs.all p=true:=by
 rw[List.all_eq_true];intro x hx
 obtain⟨j,hj,rfl⟩:=List.mem_iff_getElem.1 hx
 exact h j hj
theorem fU{α:Type}{p:α→Bool}{xs:List α}(j:Nat)(hj:j<xs.length)(h:p xs[j]=false):xs.all p=false:=by
 rw[List.all_eq_false];exact⟨xs[j],List.getElem_mem _,by simp[h]⟩
theorem getD_lt{α:Type}[Inhabited α]{xs:List α}{j:Nat}(hj:j<xs.length):xs.getD j default=xs[j]:=by simp[hj]

variable{x lo hi:Int}
theorem nV:MQ h1 h2 63 [eI x,eI lo,eI hi] [] (Plain (eB (decide (lo≤x)&&decide (x≤hi)))):=by
 refine am ?_ Z
 refine jB 15 h1 h2 Tryz.func63 Z fun O hF=>?_
 refine af (js Z (bq (bn Z (ay 3 Z Z Z (fun hx=>au hx Z (au hx Z (au hx Z (AN.nil)))) Z Z (ab (aj O Z Z Z Z Z) Z (js Z (jr ?_)))))))
 refine aw Z ?_
 rw[Bool.cond_false_right]
theorem pZ:MQ h1 h2 93 [eI x] [] (Plain (eB (gv x))):=by
 refine am ?_ Z
 refine jB 5 h1 h2 Tryz.func93 Z fun O hF=>?_
 refine af (js Z (bq (js Z (aW Z (nV h1 h2) 5000 Z (js Z (jr ?_))))))
 refine aw Z ?_
 first|rfl|skip
variable{t:Tm}
theorem s4:MQ h1 h2 91 [ptr t.cells] [] (Plain (eB t.ok)):=by
 refine am ?_ Z
 refine jB 49 h1 h2 Tryz.func91 Z fun O hF=>?_
 have hl:t.xs.length≤L:=by simpa[As.fact,A.fact,M.fact,D.fact,Ds.fact]using hF.1.2.1.1
 refine af (js Z (bq (bn Z (db Z (js Z (jn (ag (af (bn Z (aW Z (pZ h1 h2) 15000 Z (ac Z (ay 2 Z Z Z (fun hx=>au hx Z (au hx Z (AN.nil))) Z Z (ab (aq O Z Z Z Z Z) Z (js Z (ay 13 Z Z Z (fun hx=>au hx Z (au hx Z (au hx Z (lQ 9 Z Z Z Z (fun hx'=>au hx' Z (au hx' Z (au hx' Z (au hx' Z (au hx' Z (bE hx' (vF Z) Z (bE hx' (vD Z) Z (au hx' Z (au hx' Z (AN.nil)))))))))) Z Z (bE hx (aj O Z Z Z Z Z) Z (AN.nil)))))) Z Z (ab (aq O Z Z Z Z Z) Z (jn (ak Z (fun z34=>?_) (fun z34=>?_)))))))))))))))))))
 try simp only[aK]at z34
 refine af (js Z (jr ?_))
 refine aw Z ?_
 simp only[Tm.ok,z34,Bool.not_true,Bool.false_and]
 try simp only[aK]at z34
 refine ae (ag (af (js Z (jn (ap (av (X:=Nat) (fun i=>⟨[(0,ptr t.cells),(3,eI t.xs.length),(4,eI i)],[]⟩) (fun i=>i≤t.xs.length∧∀j (h:j<t.xs.length),j<i→gv t.xs[j]=true) (fun i=>t.xs.length-i) 0 (Ent.env ⟨Z,Z,Z,ao⟩) ?_ (fun i hi=>?_)))))))
 exact⟨cN _,fun j h hj=>absurd hj (Nat.not_lt_zero j)⟩
 refine ag (af (aZ Z (jn (ak Z (fun z37=>?_) (fun z37=>?_)))))
 try simp only[aK]at z37
 refine ae (ag (ap (af (bn Z (js Z (kB Z Z (js Z (aW Z (pZ h1 h2) 48000 Z (js Z (jn (ak Z (fun z48=>?_) (fun z48=>?_))))))))))))
 try simp only[aK]at z48
 refine af (js Z (jr ?_))
 refine aw Z ?_
 rw[Int.toNat_natCast,getD_lt (by omega)]at z48
 simp only[Tm.ok,fU i (by omega) z48,Bool.and_false]
 try simp only[aK]at z48
 refine ae (aa (js Z (ji Z (js Z (jn ?_)))))
 refine⟨i+1,Ent.env ⟨Z,Z,Z,ao⟩,⟨by omega,fun j h hj=>?_⟩,by omega⟩
 by_cases e:j=i
 subst e;rw[Int.toNat_natCast,getD_lt h]at z48;exact z48
 exact hi.2 j h (by omega)
 try simp only[aK]at z37
 refine aR (af (js Z (jr ?_)))
 refine aw Z ?_
 simp only[Tm.ok,z34,Bool.not_false,Bool.true_and]
 rw[ix (fun j hj=>hi.2 j hj (by omega))]
abbrev dX(xs:List Int):B:=.row true 1 (xs.map fun n=>[.int .i64 n])
abbrev cr(xs:List Int):A:=.c (.d (il xs))
variable{xs:List Int}
theorem vd:MQ h1 h2 90 [cr xs] [] (Rows (.c (.rs 0 0 xs.length)) [dX xs]):=by
 refine dh (jB 6 h1 h2 Tryz.func90 Z fun O hF=>?_)
 have hl:xs.length≤L:=by simpa[As.fact,A.fact,M.fact,D.fact,Ds.fact]using hF.1.1
 refine ?_
 refine af (js Z (bq (bU (HS.lit O Z Z Z) Z (js Z (bU (kF (own:=true) O Z (.row Z Z) (.slc (.inr (Scal.map (fun _=>rfl)))) (by simp) Z (by first|omega|(dsimp only[bl,ep,List.length_nil];omega)|(simp only[aK]at *;omega)|(simp;omega)) (by first|omega|(dsimp only[bl,ep,List.length_nil];omega)|(simp only[aK]at *;omega)|(simp;omega)) Z Z) Z (js Z (jr ?_)))))))
 refine⟨.inl Z,_,el,_,Z,[5],by decide,Z,?_,?_⟩
 simp[A.lab,M.lab]
 rfl
theorem va:MQ h1 h2 73 [cr xs] [] (Rows (.c (.rs 0 0 xs.length)) [dX xs]):=by
 refine dh (jB 6 h1 h2 Tryz.func73 Z fun O hF=>?_)
 have hl:xs.length≤L:=by simpa[As.fact,A.fact,M.fact,D.fact,Ds.fact]using hF.1.1
 refine ?_
 refine af (js Z (bq (bU (HS.lit O Z Z Z) Z (js Z (bU (kF (own:=true) O Z (.row Z Z) (.slc (.inr (Scal.map (fun _=>rfl)))) (by simp) Z (by first|omega|(dsimp only[bl,ep,List.length_nil];omega)|(simp only[aK]at *;omega)|(simp;omega)) (by first|omega|(dsimp only[bl,ep,List.length_nil];omega)|(simp only[aK]at *;omega)|(simp;omega)) Z Z) Z (js Z (jr ?_)))))))
 refine⟨.inl Z,_,el,_,Z,[5],by decide,Z,?_,?_⟩
 simp[A.lab,M.lab]
 rfl

theorem c15{ys:List Int}:MQ h1 h2 89 [cr xs,cr ys] [] (Plain (eB (decide (xs=ys)))):=by
 refine am ?_ Z
 refine jB 26 h1 h2 Tryz.func89 Z fun O hF=>?_
 have hl:xs.length≤L:=by simpa[As.fact,A.fact,M.fact,D.fact,Ds.fact]using hF.1.1
 have hl2:ys.length≤L:=by simpa[As.fact,A.fact,M.fact,D.fact,Ds.fact]using hF.2.1.1
 refine af (js Z (jn (ag (af (js Z (db Z (js Z (db Z (js Z (jn (ak Z (fun z10=>?_) (fun z10=>?_))))))))))))
 try simp only[aK]at z10
 refine af (js Z (jr ?_))
 refine aw Z ?_
 rw[decide_eq_false (fun e=>by subst e;simp at z10)]
 try simp only[aK]at z10
 refine ae (ag (af (js Z (jn (ap (av (X:=Nat) (fun i=>⟨[(0,cr xs),(1,cr ys),(5,eI i)],[]⟩) (fun i=>i≤xs.length∧∀j,j<i→xs[j]? = ys[j]?) (fun i=>xs.length-i) 0 (Ent.env ⟨Z,Z,Z,ao⟩) ?_ (fun i hi=>?_)))))))
 exact⟨cN _,fun j hj=>absurd hj (Nat.not_lt_zero j)⟩
 refine ag (af (ac Z (db Z (js Z (jn (ak Z (fun z14=>?_) (fun z14=>?_)))))))
 try simp only[aK]at z14
 refine ae (ag (ap (ag (mq [_,_,_,_,_,_,_,_,_] [bv,bv,aU [0,1],aU [0,1,2],bv,bv,aU [4,5],aU [4,5,6],aU (rg 0 8)] [] [_] (kc Z (kc Z (ai (vD Z) (kc Z (kc Z (kc Z (ai (vD Z) (kc Z (kc Z trivial))))))))) ?_))))
 refine ak Z (fun z25=>?_) (fun z25=>?_)
 try simp only[aK]at z25
 refine af (js Z (jr ?_))
 refine aw Z ?_
 rw[decide_eq_false (fun e=>by subst e;simp at z25)]
 try simp only[aK]at z25
 refine ae (aa (js Z (ji Z (js Z (jn ?_)))))
 refine⟨i+1,Ent.env ⟨Z,Z,Z,ao⟩,⟨by omega,fun j hj=>?_⟩,by omega⟩
 rcases Nat.lt_or_ge j i with h|h
 exact hi.2 j h
 obtain rfl:j=i:=by omega
 rw[Int.toNat_natCast,getD_lt (by omega),getD_lt (by omega)]at z25
 rw[List.getElem?_eq_getElem (by omega),List.getElem?_eq_getElem (by omega),z25]
 try simp only[aK]at z14
 refine aR (af (js Z (jr ?_)))
 refine aw Z ?_
 have e:xs=ys:=List.ext_getElem? fun j=>by
  rcases Nat.lt_or_ge j i with h|h
  ·
   exact hi.2 j h
  ·
   rw[List.getElem?_eq_none (by omega),List.getElem?_eq_none (by omega)]
 rw[decide_eq_true e]
deriving instance DecidableEq for Tm
abbrev vA(t:Tm):A:=.agg [.d (.int .i64 t.c),.d (il t.xs)]
abbrev nO(ts:List Tm):D:=.slc 2 (ts.map Tm.cells)
abbrev ff(ts:List Tm):A:=.c (.d (nO ts))
abbrev dc(ts:List Tm):B:=.row true 2 (ts.map Tm.cells)

theorem c92{s:Tm}:MQ h1 h2 48 [vA s,vA t] [] (Plain (eB (decide (s=t)))):=by
 refine am ?_ Z
 refine jB 16 h1 h2 Tryz.func48 Z fun O hF=>?_
 refine af (jx Z (jx Z (js Z (jn (ag (af (bn Z (js Z (jn (ak Z (fun z9=>?_) (fun z9=>?_)))))))))))
 try simp only[aK]at z9
 refine af (js Z (jr ?_))
 refine aw Z ?_
 rw[decide_eq_false (fun e=>z9 (by rw[e]))]
 try simp only[aK]at z9
 refine ae (ag (af (bn Z (aW Z (c15 h1 h2) 15000 Z (js Z (jn (ak Z (fun z15=>?_) (fun z15=>?_))))))))
 try simp only[aK]at z15
 refine af (js Z (jr ?_))
 refine aw Z ?_
 rw[decide_eq_false (fun e=>z15 (by rw[e]))]
 try simp only[aK]at z15
 refine ae (af (js Z (jr ?_)))
 refine aw Z ?_
 have e:s=t:=by cases s;cases t;simp_all
 rw[decide_eq_true e]

theorem uu{xs ys:List Tm}:MQ h1 h2 17 [ff xs,ff ys] [] (Plain (eB (decide (xs=ys)))):=by
 refine am ?_ Z
 refine jB 27 h1 h2 Tryz.func17 Z fun O hF=>?_
 have hl:xs.length≤L:=by simpa[As.fact,A.fact,M.fact,D.fact,Ds.fact]using hF.1.1
 have hl2:ys.length≤L:=by simpa[As.fact,A.fact,M.fact,D.fact,Ds.fact]using hF.2.1.1
 refine af (js Z (jn (ag (af (js Z (db Z (js Z (db Z (js Z (jn (ak Z (fun z10=>?_) (fun z10=>?_))))))))))))
 try simp only[aK]at z10
 refine af (js Z (jr ?_))
 refine aw Z ?_
 rw[decide_eq_false (fun e=>by subst e;simp at z10)]
 try simp only[aK]at z10
 refine ae (ag (af (js Z (jn (ap (av (X:=Nat) (fun i=>⟨[(0,ff xs),(1,ff ys),(5,eI i)],[]⟩) (fun i=>i≤xs.length∧∀j,j<i→xs[j]? = ys[j]?) (fun i=>xs.length-i) 0 (Ent.env ⟨Z,Z,Z,ao⟩) ?_ (fun i hi=>?_)))))))
 exact⟨cN _,fun j hj=>absurd hj (Nat.not_lt_zero j)⟩
 refine ag (af (ac Z (db Z (js Z (jn (ak Z (fun z14=>?_) (fun z14=>?_)))))))
 try simp only[aK]at z14
 refine ae (ag (ap (ag (mq [_,_,_,_,_,_,_,_,_,_] [bv,bv,aU [0,1],aU [0,1,2],bv,bv,aU [4,5],aU [4,5,6],pe (rg 0 8) 0,pn (rg 0 9) 1 1] [8] [_,_] (kc Z (kc Z (ai (vD Z) (kc Z (kc Z (kc Z (ai (vD Z) (kc Z (ai (aE O (B0:=26000) Z Z Z Z (c92 h1 h2) (al Z) Z Z Z Z Z) (kc Z trivial)))))))))) ?_))))
 refine ak Z (fun z26=>?_) (fun z26=>?_)
 try simp only[aK]at z26
 refine af (js Z (jr ?_))
 refine aw Z ?_
 rw[decide_eq_false (fun e=>by subst e;simp at z26)]
 try simp only[aK]at z26
 refine ae (aa (js Z (ji Z (js Z (jn ?_)))))
 refine⟨i+1,Ent.env ⟨Z,Z,Z,ao⟩,⟨by omega,fun j hj=>?_⟩,by omega⟩
 rcases Nat.lt_or_ge j i with h|h
 exact hi.2 j h
 obtain rfl:j=i:=by omega
 rw[Int.toNat_natCast,getD_lt (by omega),getD_lt (by omega)]at z26
 rw[List.getElem?_eq_getElem (by omega),List.getElem?_eq_getElem (by omega),z26]
 try simp only[aK]at z14
 refine aR (af (js Z (jr ?_)))
 refine aw Z ?_
 have e:xs=ys:=List.ext_getElem? fun j=>by
  rcases Nat.lt_or_ge j i with h|h
  ·
   exact hi.2 j h
  ·
   rw[List.getElem?_eq_none (by omega),List.getElem?_eq_none (by omega)]
 rw[decide_eq_true e]
structure Sm where
  kind:Int
  var:Int
  event:Int
  sum:Tm
  index:Tm
  facts:List Tm
  deriving Inhabited,DecidableEq
structure Pm where
  pre:List Tm
  body:List Sm
  post:List Tm
  deriving Inhabited,DecidableEq
structure Sx where
  vars:List Int
  cells:List Int
  deriving Inhabited,DecidableEq
def aL{α:Type}(f:Int→α→α)(sz:α→Nat):Int→List α→List α
  | _,[]=>[]
  | k,a::r=>f k a::aL f sz (k+sz a) r
def cnt{α:Type}(sz:α→Nat)(l:List α):Nat:=(l.map sz).sum
def mk{α:Type}(f:Int→α→α)(sz:α→Nat)(k:Int)(i:Nat)(l:List α):List α:=aL f sz k (l.take i)++l.drop i
section
variable{α:Type}{f:Int→α→α}{sz:α→Nat}
theorem ax: ∀{k:Int} {l:List α},(aL f sz k l).length=l.length
 | _,[]=>rfl
 | _,a::r=>by simp[aL,ax]
theorem eV{k:Int}{i:Nat}{l:List α}:(mk f sz k i l).length=l.length:=by
 simp[mk,ax];omega
theorem hY{k:Int}{l:List α}:mk f sz k 0 l=l:=by simp[mk,aL]
theorem jX{k:Int}{i:Nat}{l:List α}(h:l.length≤i):mk f sz k i l=aL f sz k l:=by
 simp[mk,List.take_of_length_le h,List.drop_of_length_le h]
theorem iq{k:Int}{i:Nat}{l:List α}(h:i<l.length):(mk f sz k i l)[i]? = some l[i]:=by
 rw[mk,List.getElem?_append_right (by simp[ax];omega)]
 simp[ax,Nat.min_eq_left (Nat.le_of_lt h)]
theorem iN: ∀{k:Int} {l:List α} {a:α},aL f sz k (l++[a])=aL f sz k l++[f (k+cnt sz l) a]
 | k,[],a=>by simp[aL,cnt]
 | k,b::r,a=>by
  have:k+(sz b:Int)+(cnt sz r:Int)=k+(cnt sz (b::r):Int):=by simp[cnt];omega
  simp[aL,iN,this]
theorem dT{l:List α}{i:Nat}(h:i<l.length):cnt sz (l.take (i+1))=cnt sz (l.take i)+sz l[i]:=by
 rw[List.take_succ_eq_append_getElem h]
 simp only[cnt,List.map_append,List.sum_append,List.map_cons,List.map_nil,List.sum_cons,List.sum_nil];omega
theorem gk{l:List α}{i:Nat}:cnt sz (l.take i)≤cnt sz l:=by
 have:cnt sz l=cnt sz (l.take i)+cnt sz (l.drop i):=by rw[cnt,cnt,cnt,←List.sum_append,←List.map_append,List.take_append_drop]
 omega
theorem fP{k:Int}{i:Nat}{l:List α}(h:i<l.length):(mk f sz k i l).set i (f (k+cnt sz (l.take i)) l[i])=mk f sz k (i+1) l:=by
 have h1:(aL f sz k (l.take i)).length=i:=by rw[ax,List.length_take];omega
 rw[mk,List.set_append_right _ _ (by omega),h1,Nat.sub_self,mk,List.take_succ_eq_append_getElem h,iN,List.drop_eq_getElem_cons h,List.set_cons_zero]
 simp only[cM,List.singleton_append]
end
abbrev mI:Int→Int→Int:=fun k _=>k
abbrev cC:Int→Nat:=fun _=>1
theorem kZ{l:List Int}:cnt cC l=l.length:=by
 induction l with
 | nil=>rfl
 | cons a r ih=>
  have:cC a=1:=rfl
  simp only[cnt,List.map_cons,List.sum_cons,ep]at ih ⊢;omega
theorem jA{k:Int}{xs:List Int}{j:Nat}(h:j<xs.length):(aL mI cC k xs)[j]? = some (k+j):=by
 have h1:=iq (f:=mI) (sz:=cC) (k:=k) (l:=xs) h
 have h2:=fP (f:=mI) (sz:=cC) (k:=k) (l:=xs) h
 have h3:(mk mI cC k (j+1) xs)[j]? = some (k+j):=by
  rw[←h2,List.getElem?_set]
  have e:cnt cC (xs.take j)=j:=by rw[kZ,List.length_take];omega
  simp[eV,h,e]
 have h4:(mk mI cC k (j+1) xs)[j]? = (aL mI cC k (xs.take (j+1)))[j]? := by
  rw[mk,List.getElem?_append_left (by rw[ax,List.length_take];omega)]
 have key: ∀{k:Int} {l:List Int} {n j:Nat},j<n→(aL mI cC k (l.take n))[j]? = (aL mI cC k l)[j]? := by
  intro k l
  induction l generalizing k with
  | nil=>intro n j _;simp
  | cons a r ih=>
   intro n j hj
   cases n with
   | zero=>omega
   | succ n=>
    cases j with
    | zero=>simp[aL]
    | succ j=>simp only[List.take_succ_cons,aL,List.getElem?_cons_succ];exact ih (by omega)
 rw[←key (Nat.lt_succ_self j),←h4,h3]
abbrev mT:Int→Tm→Tm:=fun k t=>⟨k,aL mI cC (k+1) t.xs⟩
abbrev nT:Tm→Nat:=fun t=>1+t.xs.length
variable{k:Int}
theorem vx(hk0:0≤k)(hk1:k≤1073741824):MQ h1 h2 51 [.c (.rs 0 0 xs.length),eI k] [(0,dX xs)] (fM (eI (k+xs.length)) [(0,dX (aL mI cC k xs))]):=by
 refine jH 19 [0] h1 h2 Tryz.func51 Z fun O hF=>?_
 refine e7 0 Z (fun hB=>?_)
 have hl:xs.length≤L:=by simpa[B.fact]using hB.1
 refine af (js Z (jn (ag (af (js Z (jn (ap (av (X:=Nat) (fun i=>⟨[(0,.c (.rs 0 0 xs.length)),(1,eI (k+i)),(5,eI i)],[(0,dX (mk mI cC k i xs))]⟩) (fun i=>i≤xs.length) (fun i=>xs.length-i) 0 (Ent.to ⟨Z,by simp[bk,ah],Z,ao⟩ (by simp[hY])) ?_ (fun i hi=>?_)))))))))
 exact cN _
 refine ag (af (ac Z (be Z Z (js Z (jn (ak Z (fun z9=>?_) (fun z9=>?_)))))))
 try simp only[aK]at z9
 refine ae (ag (ap (af (aZ Z (be Z Z (bU (cd (ex:=[.int .i64 (xs.getD i default)]) (xs':=(mk mI cC k (i+1) xs).map fun n=>[.int .i64 n]) O Z Z Z Z Z Z Z Z Z Z Z Z Z Z (by simp[iq (f:=mI) (sz:=cC) (k:=k) (show i<xs.length by omega),show i<xs.length by omega]) (by rw[←fP (show i<xs.length by omega),kZ,List.length_take,Nat.min_eq_left hi];simp[List.map_set])) Z (jn (aa (js Z (ji Z (js Z (jn (aa (js Z (ji Z (js Z (jn ?_)))))))))))))))))
 refine⟨i+1,Ent.to ⟨Z,?_,Z,ao⟩ Z,by omega,by omega⟩
 show some (eI (k+i+1))=some (eI (k+(i+1:Nat)))
 rw[Int.natCast_add,←Int.add_assoc];rfl
 try simp only[aK]at z9
 refine aR (af (ac Z (jr ?_)))
 refine aw Z ?_
 obtain rfl:i=xs.length:=by omega
 rw[jX (bH _)]
 exact⟨Z,Z⟩
theorem c21(hk0:0≤k)(hk1:k≤1073741824):MQ h1 h2 52 [cr xs,eI k] [] (Plain (eI (if xs=aL mI cC k xs then k+xs.length else -1))):=by
 refine am ?_ Z
 refine jB 21 h1 h2 Tryz.func52 Z fun O hF=>?_
 have hl:xs.length≤L:=by simpa[As.fact,A.fact,M.fact,D.fact,Ds.fact]using hF.1.1
 refine af (js Z (jn (ag (af (js Z (jn (ap (av (X:=Nat) (fun i=>⟨[(0,cr xs),(1,eI (k+i)),(5,eI i)],[]⟩) (fun i=>i≤xs.length∧∀j,j<i→xs[j]? = some (k+j)) (fun i=>xs.length-i) 0 (Ent.env ⟨Z,by simp[bk,ah],Z,ao⟩) ?_ (fun i hi=>?_)))))))))
 exact⟨cN _,fun j hj=>absurd hj (Nat.not_lt_zero j)⟩
 refine ag (af (ac Z (db Z (js Z (jn (ak Z (fun z9=>?_) (fun z9=>?_)))))))
 try simp only[aK]at z9
 refine ae (ag (ap (ag (af (ac Z (kB Z Z (aZ Z (jn (ak Z (fun z17=>?_) (fun z17=>?_))))))))))
 try simp only[aK]at z17
 refine af (js Z (jr ?_))
 refine aw Z ?_
 rw[if_neg (fun e=>z17 ?_)]
 have h1:=jA (k:=k) (show i<xs.length by omega)
 rw[←e,List.getElem?_eq_getElem (by omega)]at h1
 rw[Int.toNat_natCast,getD_lt (by omega)];simpa using h1
 try simp only[aK]at z17
 refine ae (aa (js Z (ji Z (js Z (jn (aa (js Z (ji Z (js Z (jn ?_))))))))))
 refine⟨i+1,Ent.env ⟨Z,?_,Z,ao⟩,⟨by omega,fun j hj=>?_⟩,by omega⟩
 show some (eI (k+i+1))=some (eI (k+(i+1:Nat)))
 rw[Int.natCast_add,←Int.add_assoc];rfl
 rcases Nat.lt_or_ge j i with h|h
 exact hi.2 j h
 obtain rfl:j=i:=by omega
 rw[Int.toNat_natCast,getD_lt (by omega)]at z17
 rw[List.getElem?_eq_getElem (by omega)];simpa using z17
 try simp only[aK]at z9
 refine aR (af (ac Z (jr ?_)))
 refine aw Z ?_
 obtain rfl:i=xs.length:=by omega
 rw[if_pos (List.ext_getElem? fun j=>?_)]
 rcases Nat.lt_or_ge j xs.length with h|h
 rw[jA h];exact hi.2 j h
 rw[List.getElem?_eq_none (by omega),List.getElem?_eq_none (by rw[ax];omega)]

theorem uX:MQ h1 h2 51 [.c (.d (il [])),eI k] [] (Plain (eI k)):=by
 refine am ?_ Z
 refine jB 19 h1 h2 Tryz.func51 Z fun O hF=>?_
 refine af (js Z (jn (ag (af (js Z (jn (ap (av (X:=Nat) (fun i=>⟨[(0,.c (.d (il []))),(1,eI k),(5,eI 0)],[]⟩) (fun i=>True) (fun i=>0) 0 (Ent.env ⟨Z,Z,Z,ao⟩) ?_ (fun i hi=>?_)))))))))
 trivial
 refine ag (af (ac Z (db Z (js Z (jn (ak Z (fun z9=>?_) (fun z9=>?_)))))))
 try simp only[aK]at z9
 exact absurd z9 (by simp)
 try simp only[aK]at z9
 refine aR (af (ac Z (jr ?_)))
 refine aw Z ?_
 first|rfl|skip
theorem uU:MQ h1 h2 20 [.c (.d (nO [])),eI k] [] (Plain (eI k)):=by
 refine am ?_ Z
 refine jB 27 h1 h2 Tryz.func20 Z fun O hF=>?_
 refine af (js Z (jn (ag (af (js Z (jn (ap (av (X:=Nat) (fun i=>⟨[(0,.c (.d (nO []))),(1,eI k),(5,eI 0)],[]⟩) (fun i=>True) (fun i=>0) 0 (Ent.env ⟨Z,Z,Z,ao⟩) ?_ (fun i hi=>?_)))))))))
 trivial
 refine ag (af (ac Z (db Z (js Z (jn (ak Z (fun z9=>?_) (fun z9=>?_)))))))
 try simp only[aK]at z9
 exact absurd z9 (by simp)
 try simp only[aK]at z9
 refine aR (af (ac Z (jr ?_)))
 refine aw Z ?_
 first|rfl|skip
variable{ts:List Tm}
theorem uf(hk0:0≤k)(hk1:k+cnt nT ts≤1073741824):MQ h1 h2 20 [.c (.rs 0 0 ts.length),eI k] [(0,dc ts)] (fM (eI (k+cnt nT ts)) [(0,dc (aL mT nT k ts))]):=by
 refine jH 27 [0] h1 h2 Tryz.func20 Z fun O hF=>?_
 refine e7 0 Z (fun hB=>?_)
 have hl:ts.length≤L:=by simpa[B.fact]using hB.1
 refine af (js Z (jn (ag (af (js Z (jn (ap (av (X:=Nat) (fun i=>⟨[(0,.c (.rs 0 0 ts.length)),(1,eI (k+cnt nT (ts.take i))),(5,eI i)],[(0,dc (mk mT nT k i ts))]⟩) (fun i=>i≤ts.length) (fun i=>ts.length-i) 0 (Ent.to ⟨Z,by simp[bk,ah,cnt],Z,ao⟩ (by simp[hY])) ?_ (fun i hi=>?_)))))))))
 exact cN _
 refine ag (af (ac Z (be Z Z (js Z (jn (ak Z (fun z9=>?_) (fun z9=>?_)))))))
 try simp only[aK]at z9
 refine ae (ag (ap (af (aZ Z (be Z Z (js Z ?_))))))
 have hcs:=dT (sz:=nT) (show i<ts.length by omega)
 have hcl:=gk (sz:=nT) (l:=ts) (i:=i+1)
 have hg:=iq (f:=mT) (sz:=nT) (k:=k) (show i<ts.length by omega)
 have hs:=fP (f:=mT) (sz:=nT) (k:=k) (show i<ts.length by omega)
 rw[←getD_lt (show i<ts.length by omega)]at hcs hg hs
 obtain⟨t,ht⟩: ∃t,t=ts.getD i default:=⟨_,rfl⟩
 rw[←ht]at hcs hg hs
 simp only[nT]at hcs
 have hgl:i<(mk mT nT k i ts).length:=by rw[eV];omega
 refine bU (cd (ex:=Tm.cells t) (xs':=((mk mT nT k i ts).set i ⟨k+cnt nT (ts.take i),t.xs⟩).map Tm.cells) O Z Z Z Z Z Z Z Z Z Z Z Z Z Z (by simp[hg]) (by rw[List.map_set];simp)) Z (bq (js Z (ji Z (js Z (jn (aa (ac Z (be Z Z (js Z (ab (bo O (ex:=Tm.cells ⟨k+cnt nT (ts.take i),t.xs⟩) Z Z Z Z (by simp[hgl]) Z) Z (js Z (iZ O (l:=0) (j:=1) (z:=1) (ex:=Tm.cells ⟨k+cnt nT (ts.take i),t.xs⟩) (ys:=(t.xs).map (fun n=>[D.int .i64 n])) (ys':=(aL mI cC (k+cnt nT (ts.take i)+1) t.xs).map (fun n=>[D.int .i64 n])) (xs':=(mk mT nT k (i+1) ts).map Tm.cells) Z Z Z Z (.rp (.d Z .nil)) (.rp (.d Z .nil)) Z (by simp[hgl]) Z (vx (xs:=t.xs) (k:=(k+cnt nT (ts.take i)+1)) h1 h2 (by omega) (by omega)).1 (fun _=>by rw[bl];exact vx (xs:=t.xs) h1 h2 (by omega) (by omega)) (fun hys=>?_) Z (by simp[ax]) Z Z Z Z (by rw[←hs];simp[List.map_set]) ?_))))))))))))
 have hy:t.xs=[]:=by simpa using hys
 rw[hy]
 exact(uX h1 h2 (k:=(k+cnt nT (ts.take i)+1))).plain (by simp[cnt,hy])
 refine js Z (jn (aa (js Z (ji Z (js Z (jn ?_))))))
 refine⟨i+1,Ent.to ⟨Z,?_,Z,ao⟩ Z,by omega,by omega⟩
 rw[hcs]
 exact congrArg (fun z=>some (eI z)) (by omega)
 try simp only[aK]at z9
 refine aR (af (ac Z (jr ?_)))
 refine aw Z ?_
 obtain rfl:i=ts.length:=by omega
 rw[jX (bH _),List.take_length]
 exact⟨Z,Z⟩
def Tm.term(t:Tm):Bool:=t.ok&&decide ((t.xs.length:Int)≤4)
def terms(ts:List Tm)(n:Int):Bool:=ts.all Tm.term&&decide ((ts.length:Int)≤n)
def below(k:Int):Int:=if k=1 then 2 else if k=7 then 2 else if k=8 then 1 else 0
def Tm.zero(t:Tm):Bool:=decide (t.c=0)&&decide ((t.xs.length:Int)=0)

def uM(s:Sm):Bool:=bif bif bif bif decide (s.kind=2)then true else decide (s.kind=4)then true else decide (s.kind=6)then true else decide (s.kind=7)then true else decide (s.kind=8)
def uO(s:Sm):Bool:=bif decide (s.kind=3)then true else decide (s.kind=4)
def sM(s:Sm):Bool:=bif decide (s.kind=2)then true else decide (s.kind=3)
def sB1(s:Sm):Bool:=bif bif bif !(decide (0≤s.kind)&&decide (s.kind≤8))then true else !s.sum.term then true else !s.index.term then true else !terms s.facts 6
def sB2(s:Sm):Bool:=bif bif bif !uM s then !s.sum.zero else false then true else bif !uO s then !s.index.zero else false then true else bif !decide (s.kind=8)then decide ((0:Int)<s.facts.length)else false
def sB3(s:Sm):Bool:=bif bif sM s then !(decide (0≤s.var)&&decide (s.var≤3))else false then true else bif !sM s then !decide (s.var=0)else false
def tm(s:Sm):Bool:=bif sB1 s then false else bif sB2 s then false else bif sB3 s then false else bif decide (s.kind=5)then(decide (0≤s.event)&&decide (s.event≤3))else decide (s.event=0)
def big(x:Int):Bool:=decide (-1000000000≤x)&&decide (x≤1000000000)
def qY(xs:List Int)(n:Int):Bool:=xs.all big&&decide ((xs.length:Int)=n)
theorem uk{x:Int}:gv x=true↔ -1000000≤x∧x≤1000000:=by simp[gv]
abbrev lz(t:Tm):A:=.agg (t.cells.map .d)
def da(lo hi x:Int):Bool:=decide (lo≤x)&&decide (x≤hi)

theorem kE:MQ h1 h2 76 [eI x,eI lo,eI hi] [] (Plain (eB (da lo hi x))):=by
 refine am ?_ Z
 refine jB 15 h1 h2 Tryz.func76 Z fun O hF=>?_
 refine af (js Z (bq (bn Z (ay 3 Z Z Z (fun hx=>au hx Z (au hx Z (au hx Z (AN.nil)))) Z Z (ab (aj O Z Z Z Z Z) Z (js Z (jr ?_)))))))
 refine aw Z ?_
 rw[Bool.cond_false_right];rfl
theorem vc:MQ h1 h2 69 [cr xs,eI lo,eI hi] [] (Plain (eB (xs.all (da lo hi)))):=by
 refine am ?_ Z
 refine jB 21 h1 h2 Tryz.func69 Z fun O hF=>?_
 have hl:xs.length≤L:=by simpa[As.fact,A.fact,M.fact,D.fact,Ds.fact]using hF.1.1
 refine af (js Z (jn (ag (af (js Z (db Z (js Z (jn (ap (av (X:=Nat) (fun i=>⟨[(1,eI lo),(2,eI hi),(9,cr xs),(10,eI xs.length),(11,eI i)],[]⟩) (fun i=>i≤xs.length∧∀j (h:j<xs.length),j<i→da lo hi xs[j]=true) (fun i=>xs.length-i) 0 (Ent.env ⟨Z,Z,Z,Z,Z,ao⟩) ?_ (fun i hi=>?_)))))))))))
 exact⟨cN _,fun j h hj=>absurd hj (Nat.not_lt_zero j)⟩
 refine af (js Z (jn (ag (ak Z (fun z12=>?_) (fun z12=>?_)))))
 try simp only[aK]at z12
 refine ae (ag (ap (af (kB Z Z (ac Z (bq (aZ Z (aW Z (kE h1 h2) 19000 Z (js Z (jn (ak Z (fun z19=>?_) (fun z19=>?_))))))))))))
 try simp only[aK]at z19
 refine af (js Z (jr ?_))
 refine aw Z ?_
 rw[Int.toNat_natCast,getD_lt (by omega)]at z19
 rw[fU i (by omega) z19]
 try simp only[aK]at z19
 refine ae (aa (ji Z (js Z (jn ?_))))
 refine⟨i+1,Ent.env ⟨Z,Z,Z,Z,Z,ao⟩,⟨by omega,fun j h hj=>?_⟩,by omega⟩
 by_cases e:j=i
 subst e;rw[Int.toNat_natCast,getD_lt h]at z19;exact z19
 exact hi.2 j h (by omega)
 try simp only[aK]at z12
 refine aR (af (js Z (jr ?_)))
 refine aw Z ?_
 rw[ix (fun j hj=>hi.2 j hj (by omega))]
theorem rz:MQ h1 h2 68 [eI x] [] (Plain (eB (gv x))):=by
 refine am ?_ Z
 refine jB 5 h1 h2 Tryz.func68 Z fun O hF=>?_
 refine af (js Z (bq (js Z (aW Z (kE h1 h2) 5000 Z (js Z (jr ?_))))))
 refine aw Z ?_
 first|rfl|skip
theorem qa(t:Tm):(bif bif bif decide ((t.xs.length:Int)≤10)then gv t.c else false then t.xs.all gv else false then bif decide ((t.xs.length:Int)=0)then true else !decide (t.xs.getD ((t.xs.length:Int)-1).toNat default=0)else false)=t.ok:=by
 unfold Tm.ok
 cases gv t.c<;>cases t.xs.all gv<;>simp
 by_cases h0:t.xs=[]
 simp[h0]
 have h1:0<t.xs.length:=List.length_pos_iff.2 h0
 by_cases h2:(t.xs.length:Int)≤10
 have h3: ¬(10:Int)<t.xs.length:=by omega
 simp[h0,h1,h2,h3]
 have h3:(10:Int)<t.xs.length:=by omega
 simp[h2,h3]
theorem sY:MQ h1 h2 33 [lz t] [] (Plain (eB t.ok)):=by
 refine am ?_ Z
 refine jB 32 h1 h2 Tryz.func33 Z fun O hF=>?_
 have hl:t.xs.length≤L:=by simpa[As.fact,A.fact,M.fact,Ms.fact,D.fact,Ds.fact]using hF.1.2.1.1
 refine af (jx Z (js Z (bq (ac Z (db Z (js Z (jf [3,2,1,0] Z (bq (aZ Z (jf [9,3,2,1,0] Z (ay 3 Z Z Z (fun hx=>au hx Z (au hx Z (bD O hx Z Z Z Z (rz h1 h2) (al Z) Z Z Z Z Z Z Z (B0:=13000) Z (AN.nil)))) Z Z (ab (aj O Z Z Z Z Z) Z (js Z (jf [14,3,2,1,0] Z (ay 3 Z Z Z (fun hx=>au hx Z (au hx Z (bD O hx Z Z Z Z (vc h1 h2) (al Z) Z Z Z Z Z Z Z (B0:=18000) Z (AN.nil)))) Z Z (ab (aj O Z Z Z Z Z) Z (js Z (jf [19,3,2,1,0] Z (ay 11 Z Z Z (fun hx=>au hx Z (au hx Z (au hx Z (lQ 7 Z Z Z Z (fun hx'=>au hx' Z (au hx' Z (au hx' Z (bE hx' (aB O Z Z (by first|omega|(simp only[aK]at *;omega)) (by first|omega|(simp only[aK]at *;omega))) Z (bE hx' (fG O Z Z Z Z Z Z Z Z (by first|omega|(simp only[aK]at *;omega)) (kk (by first|omega|(simp only[aK]at *;omega)) (by first|omega|(simp only[aK]at *;omega)))) Z (au hx' Z (au hx' Z (AN.nil)))))))) Z Z (bE hx (aq O Z Z Z Z Z) Z (AN.nil)))))) Z Z (ab (aj O Z Z Z Z Z) Z (js Z (jf [2,1,0] Z (jr ?_)))))))))))))))))))))))
 refine aw Z ?_
 exact congrArg eB (qa t)
theorem u5:MQ h1 h2 84 [lz t] [] (Plain (eB t.term)):=by
 refine am ?_ Z
 refine jB 11 h1 h2 Tryz.func84 Z fun O hF=>?_
 refine af (jx Z (js Z (bq (js Z (aW Z (sY h1 h2) 5000 Z (js Z (ay 4 Z Z Z (fun hx=>au hx Z (au hx Z (bE hx (bN O Z Z Z Z Z Z Z Z) Z (au hx Z (AN.nil))))) Z Z (ab (aj O Z Z Z Z Z) Z (js Z (jr ?_))))))))))
 refine aw Z ?_
 rw[Bool.cond_false_right];rfl
theorem u6:MQ h1 h2 83 [lz t] [] (Plain (eB !t.term)):=by
 refine am ?_ Z
 refine jB 6 h1 h2 Tryz.func83 Z fun O hF=>?_
 refine af (jx Z (js Z (bq (js Z (aW Z (u5 h1 h2) 5000 Z (ac Z (jr ?_)))))))
 refine aw Z ?_
 first|rfl|skip
def ly(ts:List Tm):Int:=if ts.all Tm.term=true then -1 else(ts.findIdx fun t=>!t.term:Nat)
theorem pF{ts:List Tm}(h: ∀j (hj:j<ts.length),Tm.term ts[j]=true):ly ts= -1:=by rw[ly,if_pos (ix h)]
theorem qH{ts:List Tm}{i:Nat}(hi:i<ts.length)(h: ∀j (hj:j<ts.length),j<i→Tm.term ts[j]=true)(hn:Tm.term ts[i]=false):ly ts=i:=by
 rw[ly,if_neg (by rw[fU i hi hn];decide)]
 exact congrArg Nat.cast ((List.findIdx_eq hi).2 ⟨by simp[hn],fun j hj=>by simp[h j (by omega) hj]⟩)
theorem pE{ts:List Tm}:decide (ly ts≥0)= !ts.all Tm.term:=by
 unfold ly
 cases h:ts.all Tm.term<;>simp
theorem uY:MQ h1 h2 107 [ff ts,.c (.fn 83 [])] [] (Plain (eI (ly ts))):=by
 refine am ?_ Z
 refine jB 19 h1 h2 Tryz.func107 Z fun O hF=>?_
 have hl:ts.length≤L:=by simpa[As.fact,A.fact,M.fact,D.fact,Ds.fact]using hF.1.1
 refine af (js Z (jn (ag (af (js Z (db Z (js Z (jn (ap (av (X:=Nat) (fun i=>⟨[(0,ff ts),(1,.c (.fn 83 [])),(7,eI ts.length),(8,eI i)],[]⟩) (fun i=>i≤ts.length∧∀j (h:j<ts.length),j<i→Tm.term ts[j]=true) (fun i=>ts.length-i) 0 (Ent.env ⟨Z,Z,Z,Z,ao⟩) ?_ (fun i hi=>?_)))))))))))
 exact⟨cN _,fun j h hj=>absurd hj (Nat.not_lt_zero j)⟩
 refine af (js Z (jn (ag (ak Z (fun z9=>?_) (fun z9=>?_)))))
 try simp only[aK]at z9
 refine ae (ag (ap (af (ac Z (bq (aZ Z (kB Z Z (js Z (aW Z (u6 h1 h2) 17000 Z (jn (ak Z (fun z16=>?_) (fun z16=>?_))))))))))))
 try simp only[aK]at z16
 refine af (ac Z (jr ?_))
 refine aw Z ?_
 rw[Int.toNat_natCast,getD_lt (by omega)]at z16
 rw[qH (by omega) hi.2 z16]
 try simp only[aK]at z16
 refine ae (aa (ji Z (js Z (jn ?_))))
 refine⟨i+1,Ent.env ⟨Z,Z,Z,Z,ao⟩,⟨by omega,fun j h hj=>?_⟩,by omega⟩
 by_cases e:j=i
 subst e;rw[Int.toNat_natCast,getD_lt h]at z16;exact z16
 exact hi.2 j h (by omega)
 try simp only[aK]at z9
 refine aR (af (js Z (jr ?_)))
 refine aw Z ?_
 rw[pF (fun j hj=>hi.2 j hj (by omega))]
theorem u7:MQ h1 h2 82 [ff ts,.c (.fn 83 [])] [] (Plain (eB !ts.all Tm.term)):=by
 refine am ?_ Z
 refine jB 9 h1 h2 Tryz.func82 Z fun O hF=>?_
 refine af (js Z (bq (ac Z (bg O Z Z Z Z (uY h1 h2) (.cons (.c .d) (.cons (.c (.fn .nil)) .nil)) Z Z Z Z Z (B0:=8000) Z (ac Z (jr ?_))))))
 refine aw Z ?_
 exact congrArg eB pE
theorem nd{n:Int}:MQ h1 h2 43 [ff ts,eI n] [] (Plain (eB (terms ts n))):=by
 refine am ?_ Z
 refine jB 14 h1 h2 Tryz.func43 Z fun O hF=>?_
 refine af (js Z (bq (js Z (db Z (aZ Z (ay 3 Z Z Z (fun hx=>au hx Z (bD O hx Z Z Z Z (u7 h1 h2) (.cons (.c .d) (.cons (.c (.fn .nil)) .nil)) Z Z Z Z Z Z Z (B0:=12000) Z (au hx Z (AN.nil)))) Z Z (ab (aj O Z Z Z Z Z) Z (js Z (jr ?_)))))))))
 refine aw Z ?_
 rw[Bool.cond_false_right,Bool.not_not,Bool.and_comm];rfl
theorem sX:MQ h1 h2 77 [eI x] [] (Plain (eB (da 0 3 x))):=by
 refine am ?_ Z
 refine jB 5 h1 h2 Tryz.func77 Z fun O hF=>?_
 refine af (js Z (bq (js Z (aW Z (kE h1 h2) 5000 Z (js Z (jr ?_))))))
 refine aw Z ?_
 first|rfl|skip
theorem uZ:MQ h1 h2 79 [eI x] [] (Plain (eB (da 0 3 x))):=by
 refine am ?_ Z
 refine jB 5 h1 h2 Tryz.func79 Z fun O hF=>?_
 refine af (js Z (bq (js Z (aW Z (kE h1 h2) 5000 Z (js Z (jr ?_))))))
 refine aw Z ?_
 first|rfl|skip
inductive Tr where
  | node (s:Sm) (at_:Int) (kids:List Tr)
mutual
def Tr.d:Tr→D
  | .node s a ks=>.ptr [.int .i64 s.kind,.int .i64 s.var,.int .i64 s.event,.int .i64 s.sum.c,il s.sum.xs,.int .i64 s.index.c,il s.index.xs,nO s.facts,.int .i64 a,.slc 1 (Trs.d ks)] 0
def Trs.d:List Tr→List (List D)
  | []=>[]
  | t::r=>[t.d]::Trs.d r
end
structure RS where
  vars:List Int
  cells:List Int
  events:List Int
  fuel:Int
  steps:Int
  out:Int
structure RSok(r:RS):Prop where
  vars:qY r.vars 4=true
  cells:qY r.cells 8=true
  lo:0≤r.steps
  hi:r.steps≤r.fuel
  fuel:r.fuel≤2000
  events:(r.events.length:Int)≤r.steps
structure RSle(r r':RS):Prop where
  ok:RSok r'
  fuel:r'.fuel=r.fuel
  steps:r.steps≤r'.steps

mutual
/-- Each element is valid, and has the statements behind it that it c5. -/
def Tr.ok:Tr→Prop
  | .node s _ ks=>tm s=true∧(ks.length:Int)=below s.kind∧Trs.ok ks
def Trs.ok:List Tr→Prop
  | []=>True
  | t::r=>t.ok∧Trs.ok r
end
def r0(s:Sx)(f:Int):RS:=⟨s.vars,s.cells,[],f,0,0⟩
structure Rs where
  v:List Int
  c:List Int
  ev:List Int
  out:Int
  st:Int
structure Cf where
  n:Nat
  ws:List Nat
  v:List Int
  c:List Int
  ev:List Int
  st:Int

structure Nd where
  kind:Int
  fact:Int
  term:Tm
  mul:List Int
  deriving Inhabited,DecidableEq
structure Sq where
  facts:List Tm
  goal:Tm
  deriving Inhabited,DecidableEq
def bL(xs:List Int):List Int:=(xs.reverse.dropWhile (· == 0)).reverse
theorem jk{xs:List Int}:bL (xs++[0])=bL xs:=by simp[bL]
theorem ng{xs:List Int}{x:Int}(h:x≠0):bL (xs++[x])=xs++[x]:=by simp[bL,h]
theorem jm{xs:List Int}{n:Nat}(h:n<xs.length)(h0:xs.getD n default=0):bL (xs.take (n+1))=bL (xs.take n):=by
 rw[List.take_succ_eq_append_getElem h,←getD_lt h,h0,jk]
theorem gm{xs:List Int}{n:Nat}(hn:n≤xs.length)(h:n=0∨xs.getD (n-1) default≠0):bL (xs.take n)=xs.take n:=by
 cases n with
 | zero=>simp[bL]
 | succ n=>
  have h':xs.getD n default≠0:=by
   rcases h with h|h
   cases h
   exact h
  rw[getD_lt (by omega)]at h'
  rw[List.take_succ_eq_append_getElem (by omega),ng h']
def i7(c:Int)(xs:List Int):Tm×Bool:=if(Tm.mk c (bL xs)).ok=true then(⟨c,bL xs⟩,true)else(⟨0,[]⟩,false)
def uK(a:Tm)(m:Int)(b:Tm)(n:Int):List Int:=(List.range 10).map fun i=>m*a.xs.getD i 0+n*b.xs.getD i 0
def uJ(a:Tm)(m:Int)(b:Tm)(n:Int):Tm×Bool:=i7 (m*a.c+n*b.c) (uK a m b n)
def sP(t:Tm):Tm×Bool:=uJ t (-1) ⟨1,[]⟩ (-1)
structure Small(t:Tm):Prop where
  c:gv t.c=true
  xs:t.xs.all gv=true
theorem ok_len{t:Tm}(h:t.ok=true):t.xs.length≤10:=by
 simp only[Tm.ok,bh,Bool.not_eq_true']at h
 by_cases h1:(10:Int)<t.xs.length
 rw[decide_eq_true h1]at h
 cases gv t.c<;>simp at h
 omega
def co(x:Int):Bool:=decide (0≤x)&&decide (x≤1000000)
def dl(k:Int):Int:=if k=1 then -1 else if k=2 then 1 else 0
def sT:List Nd→Int→Option Nat
  | [],need=>if need≤0 then some 0 else none
  | s::r,need=>if need≤0 then some 0 else(sT r (need+dl s.kind)).map (· + 1)
def uT(p:List Nd)(k:Nat):Int:=match sT (p.drop k) 1 with
  | some n=>k+n
  | none=> -1
def sA(p:List Nd)(k:Nat):Nat→Int×Bool
  | 0=>(-1,false)
  | i+1=>if(p.getD i default).kind=1∨uT p i≤k then sA p k i else(i,decide (i+1=k))
def n8(xs:List Int):Nat:=xs.foldl (fun g x=>Nat.gcd g x.natAbs) 0
def mx(a b:Int):Int:=if a>b then a else b
def ou(t:Tm):Tm×Bool:=if n8 t.xs<2 then(⟨0,[]⟩,false)else
  i7 (if t.c.tmod (n8 t.xs)<0 then t.c.tdiv (n8 t.xs)-1 else t.c.tdiv (n8 t.xs)) (t.xs.map fun x=>x.tdiv (n8 t.xs))
def sk(n:Nd)(ctx:List Tm)(first:Bool):List Tm:=if n.kind=3 then ctx++[(ou (ctx.getD n.fact.toNat default)).1]else if first=true then ctx++[n.term]else ctx++[(sP n.term).1]
def pY(f:Tm→Int):List Tm→List Int→Int
  | t::ts,m::ms=>m*f t+pY f ts ms
  | _,_=>0
abbrev sV(k:Nat):Tm→Int:=fun t=>t.xs.getD k 0
def tF(ts:List Tm)(ms:List Int):List Int:=(List.range 10).map fun k=>pY (sV k) ts ms
def qL(ctx:List Tm)(ms:List Int):Bool:=decide (ctx.length=ms.length)&&((tF ctx ms).all (fun x=>decide (x=0))&&decide (pY Tm.c ctx ms<0))
def oK(n:Nd)(ctx:List Tm):Bool:=if n.kind=1 then qL ctx n.mul else if 20≤ctx.length then false else if n.kind=2 then(sP n.term).2 else if n.fact≥ctx.length then false else(ou (ctx.getD n.fact.toNat default)).2

theorem uW{a b:Int}:MQ h1 h2 53 [eI a,eI b] [] (Plain (eI (mx a b))):=by
 refine am ?_ Z
 refine jB 10 h1 h2 Tryz.func53 Z fun O hF=>?_
 refine af (js Z (jn (ag (af (aZ Z (jn (ak Z (fun z7=>?_) (fun z7=>?_))))))))
 try simp only[aK]at z7
 refine af (ac Z (jr ?_))
 refine aw Z ?_
 rw[mx,if_pos z7]
 try simp only[aK]at z7
 refine ae (af (ac Z (jr ?_)))
 refine aw Z ?_
 rw[mx,if_neg (by omega)]
def sO(ts:List Tm)(ms:List Int)(i j:Nat):List Int:=(List.range 10).map fun k=>pY (sV k) (ts.take i) (ms.take i)+(if k<j then ms.getD i default*(ts.getD i default).xs.getD k 0 else 0)
structure CtxOk(ctx:List Tm):Prop where
  ok: ∀t∈ctx,t.ok=true
  len:ctx.length≤1000
end Go.Al
