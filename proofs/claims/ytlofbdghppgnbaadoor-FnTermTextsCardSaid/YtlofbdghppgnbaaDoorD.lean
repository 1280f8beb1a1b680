/- Contracts of the functions that copy, compare, mark and measure; the reference's functions for oK. -/
import Derived.Test.YtlofbdghppgnbaaDoorProg
import Derived.Test.YtlofbdghppgnbaaDoorC
set_option linter.unusedVariables false
set_option linter.unusedSimpArgs false
set_option maxRecDepth 10000
open Go.Proofs
/- The table of the types that the functions of this seat use, and its proof. -/
namespace Go.Al
variable{L:Nat}(h1:4096≤L)(h2:L≤1073741824)
def tt:List (Nat×TI):=[
  (2,⟨4,false,0,1,8,[.int .i64 0],[]⟩),
  (3,⟨4,false,0,1,8,[.int .i64 0],[]⟩),
  (4,⟨5,false,0,1,1,[.bool false],[]⟩),
  (5,⟨4,false,0,1,1,[.int .u8 0],[]⟩),
  (9,⟨2,false,0,1,16,[.str ByteArray.empty],[]⟩),
  (21,⟨4,false,0,1,4,[.int .i32 0],[]⟩),
  (22,⟨1,false,5,1,24,[.nils],[]⟩),
  (24,⟨1,false,2,1,24,[.nils],[]⟩),
  (26,⟨3,true,0,2,32,[.int .i64 0,.nils],[(0,1),(1,1)]⟩),
  (28,⟨1,false,26,1,24,[.nils],[]⟩),
  (30,⟨3,true,0,3,56,[.nils,.int .i64 0,.nils],[(0,1),(1,2)]⟩),
  (41,⟨1,false,30,1,24,[.nils],[]⟩),
  (47,⟨1,false,80,1,24,[.nils],[]⟩),
  (66,⟨1,false,9,1,24,[.nils],[]⟩),
  (80,⟨3,true,0,5,72,[.int .i64 0,.int .i64 0,.int .i64 0,.nils,.nils],[(0,1),(1,1),(2,2),(4,1)]⟩),
  (87,⟨4,false,0,1,8,[.int .u64 0],[]⟩),
  (89,⟨3,true,0,3,40,[.nils,.int .i64 0,.int .u64 0],[(0,1),(1,1),(2,1)]⟩),
  (102,⟨1,false,3,1,24,[.nils],[]⟩),
  (104,⟨3,true,0,4,56,[.nils,.nils,.bool false,.bool false],[(0,1),(1,1),(2,1),(3,1)]⟩),
  (106,⟨3,true,0,8,112,[.int .i64 0,.int .i64 0,.int .i64 0,.int .i64 0,.nils,.int .i64 0,.nils,.nils],[(0,1),(1,1),(2,1),(3,2),(5,2),(7,1)]⟩),
  (110,⟨6,false,0,1,8,[.nilp],[]⟩),
  (111,⟨1,false,127,1,24,[.nils],[]⟩),
  (113,⟨3,true,0,11,168,[.int .i64 0,.int .i64 0,.int .i64 0,.int .i64 0,.nils,.int .i64 0,.nils,.nils,.nils,.nils,.bool false],[(0,8),(8,1),(9,1),(10,1)]⟩),
  (114,⟨1,false,110,1,24,[.nils],[]⟩),
  (116,⟨3,true,0,3,72,[.nils,.nils,.nils],[(0,1),(1,1),(2,1)]⟩),
  (122,⟨4,false,0,1,8,[.int .u64 0],[]⟩),
  (127,⟨6,false,0,1,8,[.nilp],[]⟩),
  (129,⟨3,true,0,10,144,[.int .i64 0,.int .i64 0,.int .i64 0,.int .i64 0,.nils,.int .i64 0,.nils,.nils,.int .i64 0,.nils],[(0,8),(8,1),(9,1)]⟩),
  (152,⟨4,false,0,1,4,[.int .u32 0],[]⟩),
  (167,⟨3,true,0,2,2,[.int .u8 0,.int .u8 0],[(0,1),(1,1)]⟩),
  (175,⟨6,false,0,1,8,[.nilp],[]⟩),
  (178,⟨3,true,0,1,16,[.str ByteArray.empty],[(0,1)]⟩)
]
theorem tt2:TIok Tryd.prog 2 ⟨4,false,0,1,8,[.int .i64 0],[]⟩:=(by constructor<;>kernel_rfl)
theorem tt3:TIok Tryd.prog 3 ⟨4,false,0,1,8,[.int .i64 0],[]⟩:=(by constructor<;>kernel_rfl)
theorem tt4:TIok Tryd.prog 4 ⟨5,false,0,1,1,[.bool false],[]⟩:=(by constructor<;>kernel_rfl)
theorem tt5:TIok Tryd.prog 5 ⟨4,false,0,1,1,[.int .u8 0],[]⟩:=(by constructor<;>kernel_rfl)
theorem tt9:TIok Tryd.prog 9 ⟨2,false,0,1,16,[.str ByteArray.empty],[]⟩:=(by constructor<;>kernel_rfl)
theorem pT:TIok Tryd.prog 21 ⟨4,false,0,1,4,[.int .i32 0],[]⟩:=(by constructor<;>kernel_rfl)
theorem pS:TIok Tryd.prog 22 ⟨1,false,5,1,24,[.nils],[]⟩:=(by constructor<;>kernel_rfl)
theorem pR:TIok Tryd.prog 24 ⟨1,false,2,1,24,[.nils],[]⟩:=(by constructor<;>kernel_rfl)
theorem pQ:TIok Tryd.prog 26 ⟨3,true,0,2,32,[.int .i64 0,.nils],[(0,1),(1,1)]⟩:=(by constructor<;>kernel_rfl)
theorem pP:TIok Tryd.prog 28 ⟨1,false,26,1,24,[.nils],[]⟩:=(by constructor<;>kernel_rfl)
theorem pO:TIok Tryd.prog 30 ⟨3,true,0,3,56,[.nils,.int .i64 0,.nils],[(0,1),(1,2)]⟩:=(by constructor<;>kernel_rfl)
theorem pN:TIok Tryd.prog 41 ⟨1,false,30,1,24,[.nils],[]⟩:=(by constructor<;>kernel_rfl)
theorem pM:TIok Tryd.prog 47 ⟨1,false,80,1,24,[.nils],[]⟩:=(by constructor<;>kernel_rfl)
theorem pL:TIok Tryd.prog 66 ⟨1,false,9,1,24,[.nils],[]⟩:=(by constructor<;>kernel_rfl)
theorem pJ:TIok Tryd.prog 80 ⟨3,true,0,5,72,[.int .i64 0,.int .i64 0,.int .i64 0,.nils,.nils],[(0,1),(1,1),(2,2),(4,1)]⟩:=(by constructor<;>kernel_rfl)
theorem pI:TIok Tryd.prog 87 ⟨4,false,0,1,8,[.int .u64 0],[]⟩:=(by constructor<;>kernel_rfl)
theorem pH:TIok Tryd.prog 89 ⟨3,true,0,3,40,[.nils,.int .i64 0,.int .u64 0],[(0,1),(1,1),(2,1)]⟩:=(by constructor<;>kernel_rfl)
theorem oI:TIok Tryd.prog 102 ⟨1,false,3,1,24,[.nils],[]⟩:=(by constructor<;>kernel_rfl)
theorem oH:TIok Tryd.prog 104 ⟨3,true,0,4,56,[.nils,.nils,.bool false,.bool false],[(0,1),(1,1),(2,1),(3,1)]⟩:=(by constructor<;>kernel_rfl)
theorem oG:TIok Tryd.prog 106 ⟨3,true,0,8,112,[.int .i64 0,.int .i64 0,.int .i64 0,.int .i64 0,.nils,.int .i64 0,.nils,.nils],[(0,1),(1,1),(2,1),(3,2),(5,2),(7,1)]⟩:=(by constructor<;>kernel_rfl)
theorem oF:TIok Tryd.prog 110 ⟨6,false,0,1,8,[.nilp],[]⟩:=(by constructor<;>kernel_rfl)
theorem oE:TIok Tryd.prog 111 ⟨1,false,127,1,24,[.nils],[]⟩:=(by constructor<;>kernel_rfl)
theorem oD:TIok Tryd.prog 113 ⟨3,true,0,11,168,[.int .i64 0,.int .i64 0,.int .i64 0,.int .i64 0,.nils,.int .i64 0,.nils,.nils,.nils,.nils,.bool false],[(0,8),(8,1),(9,1),(10,1)]⟩:=(by constructor<;>kernel_rfl)
theorem oC:TIok Tryd.prog 114 ⟨1,false,110,1,24,[.nils],[]⟩:=(by constructor<;>kernel_rfl)
theorem oB:TIok Tryd.prog 116 ⟨3,true,0,3,72,[.nils,.nils,.nils],[(0,1),(1,1),(2,1)]⟩:=(by constructor<;>kernel_rfl)
theorem oA:TIok Tryd.prog 122 ⟨4,false,0,1,8,[.int .u64 0],[]⟩:=(by constructor<;>kernel_rfl)
theorem oz:TIok Tryd.prog 127 ⟨6,false,0,1,8,[.nilp],[]⟩:=(by constructor<;>kernel_rfl)
theorem oy:TIok Tryd.prog 129 ⟨3,true,0,10,144,[.int .i64 0,.int .i64 0,.int .i64 0,.int .i64 0,.nils,.int .i64 0,.nils,.nils,.int .i64 0,.nils],[(0,8),(8,1),(9,1)]⟩:=(by constructor<;>kernel_rfl)
theorem ox:TIok Tryd.prog 152 ⟨4,false,0,1,4,[.int .u32 0],[]⟩:=(by constructor<;>kernel_rfl)
theorem ow:TIok Tryd.prog 167 ⟨3,true,0,2,2,[.int .u8 0,.int .u8 0],[(0,1),(1,1)]⟩:=(by constructor<;>kernel_rfl)
theorem ov:TIok Tryd.prog 175 ⟨6,false,0,1,8,[.nilp],[]⟩:=(by constructor<;>kernel_rfl)
theorem ou:TIok Tryd.prog 178 ⟨3,true,0,1,16,[.str ByteArray.empty],[(0,1)]⟩:=(by constructor<;>kernel_rfl)
theorem ot:TTok Tryd.prog tt:=⟨tt2,tt3,tt4,tt5,tt9,pT,pS,pR,pQ,pP,pO,pN,pM,pL,pJ,pI,pH,oI,oH,oG,oF,oE,oD,oC,oB,oA,oz,oy,ox,ow,ov,ou,aw⟩
theorem l4:TTplain tt=true:=by kernel_rfl
theorem nC:Tryd.prog.follows .mixedOrders=true:=by kernel_rfl
theorem ah{σ:Sg}{Q:Exit→St→Prop}{s:St}{id:Nat}{l:List Oper}{y:Code}(h:AOps σ l.toArray (ff (AWP σ y Q) Q) l s):AWP σ (.seq (.region id l.toArray false) y) Q s:=AWP.seq (AWP.region h)
theorem jn{σ:Sg}{Q:Exit→St→Prop}{s:St}{all:Array Oper}(h:Q .normal s):AOps σ all Q [] s:=AOps.nil h
theorem b0{σ:Sg}{Q:Exit→St→Prop}{s:St}{all:Array Oper}{id:Nat}{l:List Oper}{y:Code}(h:AOps σ l.toArray (ff (AWP σ y Q) Q) l s):AOps σ all (ff (AWP σ (.seq (.region id l.toArray false) y) Q) Q) [] s:=AOps.nil (AWP.seq (AWP.region h))
theorem bI:(∀{α β:Type} {f:α→β} {l:List α},(l.map f).length=l.length)∧(∀{α:Type} [BEq α] [LawfulBEq α] {a b:α},(a==b)=true↔a=b)∧(∀{p:Prop} [Decidable p],(decide p=true)=p)∧(∀{p:Prop} [Decidable p],(decide p=false)↔¬p)∧(∀{b:Bool},((!b)=true)=(b=false))∧(∀{b:Bool},((!b)=false)=(b=true))∧((!true)=false)∧((!false)=true)∧(∀{a b:Int},¬a<b↔b≤a)∧(∀{a b:Int},¬a≤b↔b<a):=by
 refine⟨?_,?_,?_,?_,?_,?_,?_,?_,?_,?_⟩<;>intros<;>simp
theorem aP{σ:Sg}{Q:aQ}{all:Array Oper}{l:List Oper}{e:List (Nat×A)}{H H':List (Nat×B)}(K:AOps σ all Q l ⟨e,H'⟩)(h:HN H H':=by repeat' (first|apply HN.cons rfl|exact HN.nil rfl|exact BN.row rfl|exact BN.map rfl|apply BN.box rfl|apply MN.cons rfl|exact MN.nil rfl|exact XN.d rfl|exact XN.rs rfl|exact iA)):AOps σ all Q l ⟨e,H⟩:=lq h K
theorem g9{σ:Sg}{Q:Exit→St→Prop}{c:Code}{e:List (Nat×A)}{H H':List (Nat×B)}(K:AWP σ c Q ⟨e,H'⟩)(h:HN H H':=by repeat' (first|apply HN.cons rfl|exact HN.nil rfl|exact BN.row rfl|exact BN.map rfl|apply BN.box rfl|apply MN.cons rfl|exact MN.nil rfl|exact XN.d rfl|exact XN.rs rfl|exact iA)):AWP σ c Q ⟨e,H⟩:=mw h K
def n5(e:List (Nat×A)):List Nat→Option (List (Nat×A))
  | []=>some []
  | k :: ks=>match lk e k,n5 e ks with
    | some v,some r=>some ((k,v)::r)
    | _,_=>none
theorem iv{e:List (Nat×A)}: ∀{ks:List Nat} {e':List (Nat×A)},n5 e ks=some e'→envSub e e'
 | [],e',h=>by cases h;trivial
 | k::ks,e',h=>by
  unfold n5 at h
  split at h
  rename_i v r h1 h2
  cases h
  exact⟨h1,iv h2⟩
  cases h
theorem jf{σ:Sg}{Q:Exit→St→Prop}{all:Array Oper}{l:List Oper}{e e':List (Nat×A)}{H:List (Nat×B)}(ks:List Nat)(h:n5 e ks=some e')(K:AOps σ all Q l ⟨e',H⟩):AOps σ all Q l ⟨e,H⟩:=ju e' (iv h) K
theorem jw{σ:Sg}{Q:Exit→St→Prop}{c:Code}{e e':List (Nat×A)}{H:List (Nat×B)}(ks:List Nat)(h:n5 e ks=some e')(K:AWP σ c Q ⟨e',H⟩):AWP σ c Q ⟨e,H⟩:=ke e' (iv h) K


noncomputable abbrev SG(L nt:Nat):Sg:=⟨Tryd.prog,tt,L,nt,[]⟩
theorem mH{L nt}(h1:4096≤L)(h2:L≤9223372036854775807):SgOk (SG L nt):=⟨ot,l4,h1,h2,nC⟩
theorem jB{L f:Nat}{fn:Func}{c:Code}{args:List A}{Q:A→List (Nat×B)→Prop}(nt:Nat)(h1:4096≤L)(h2:L≤1073741824)(hf:Tryd.prog.funcs[f]? = some fn)(hz:(fn.body,fn.ntmps,Nat.ble args.length nt)=(some c,nt,true))(h:SgOk (SG L nt)→As.fact L args→AWP (SG L nt) c (fun e s=>(e= .ret∨e= .normal)∧∃s2,Ent (SG L nt) s s2∧∃res,bE tt s2 fn.results.toList=some res∧Q res s2.H) ⟨bo 0 args,[]⟩)(hn:(fn.name== "runtime.NumGoroutine")=false:=by kernel_rfl):MC Tryd.prog L f args [] Q:=have hσ:=mH (nt:=nt) h1 (Nat.le_trans h2 (by decide));have hz:=Prod.mk.inj hz;have hy:=Prod.mk.inj hz.2;MC.body hσ hf hn hz.1 hy.1 (Nat.le_of_ble_eq_true hy.2) (h hσ)
theorem jH{L f:Nat}{fn:Func}{c:Code}{args:List A}{Hin:List (Nat×B)}{Q:A→List (Nat×B)→Prop}(nt:Nat)(ks:List Nat)(h1:4096≤L)(h2:L≤1073741824)(hf:Tryd.prog.funcs[f]? = some fn)(hz:(fn.body,fn.ntmps,ks,Nat.ble args.length nt)=(some c,nt,Hin.map (·.1),true))(h:SgOk ⟨Tryd.prog,tt,L,nt,ks⟩→As.fact L args→AWP ⟨Tryd.prog,tt,L,nt,ks⟩ c (fun e s=>(e= .ret∨e= .normal)∧∃s2,Ent ⟨Tryd.prog,tt,L,nt,ks⟩ s s2∧∃res,bE tt s2 fn.results.toList=some res∧Q res s2.H) ⟨bo 0 args,Hin⟩)(hn:(fn.name== "runtime.NumGoroutine")=false:=by kernel_rfl):MC Tryd.prog L f args Hin Q:=have hσ:=iK (js:=ks) (mH (nt:=nt) h1 (Nat.le_trans h2 (by decide)));have hz:=Prod.mk.inj hz;have hy:=Prod.mk.inj hz.2;have hx:=Prod.mk.inj hy.2;mv hσ hf hn hz.1 hy.1 hx.1 (Nat.le_of_ble_eq_true hx.2) (h hσ)
abbrev MQ{L:Nat}(h1:4096≤L)(h2:L≤1073741824)(f:Nat)(ds:List A)(Hin:List (Nat×B))(Q:A→List (Nat×B)→Prop):Prop:=MC Tryd.prog L f ds Hin Q
abbrev eI(n:Int):A:=.c (.d (.int .i64 n))
abbrev eB(b:Bool):A:=.c (.d (.bool b))
abbrev eX(xs:List Int):D:=.slc 1 (xs.map fun n=>[.int .i64 n])
structure Tm where
  c:Int
  xs:List Int
  deriving Inhabited
abbrev Tm.cells(t:Tm):List D:=[.int .i64 t.c,eX t.xs]
abbrev ptr(cs:List D):A:=.c (.d (.ptr cs 0))
def num(x:Int):Bool:=decide (-1000000≤x)&&decide (x≤1000000)
def Tm.ok(t:Tm):Bool:=!(bif (bif !num t.c then true else decide ((10:Int)<t.xs.length))then true else bif decide ((0:Int)<t.xs.length)then decide (t.xs.getD ((t.xs.length:Int)-1).toNat default=0)else false)&&t.xs.all num
theorem jF{α:Type}{p:α→Bool}{xs:List α}(h: ∀j (hj:j<xs.length),p xs[j]=true):xs.all p=true:=by
 rw[List.all_eq_true];intro x hx
 obtain⟨j,hj,rfl⟩:=List.mem_iff_getElem.1 hx
 exact h j hj
theorem iz{α:Type}{p:α→Bool}{xs:List α}(j:Nat)(hj:j<xs.length)(h:p xs[j]=false):xs.all p=false:=by
 rw[List.all_eq_false];exact⟨xs[j],List.getElem_mem _,by simp[h]⟩
theorem ax{α:Type}[Inhabited α]{xs:List α}{j:Nat}(hj:j<xs.length):xs.getD j default=xs[j]:=by simp[hj]

variable{x lo hi:Int}
theorem c84:MQ h1 h2 82 [eI x,eI lo,eI hi] [] (Plain (eB (decide (lo≤x)&&decide (x≤hi)))):=by
 refine aH ?_ Z
 refine jB 15 h1 h2 Tryd.func82 Z fun O hF=>?_
 refine ah (js Z (b0 (cb Z (aO 3 Z Z Z (fun hx=>az hx Z (az hx Z (az hx Z (AN.nil)))) Z Z (an (aA O Z Z Z Z Z) Z (js Z (jr ?_)))))))
 refine aK Z ?_
 rw[Bool.cond_false_right]
theorem oi:MQ h1 h2 88 [eI x] [] (Plain (eB (num x))):=by
 refine aH ?_ Z
 refine jB 5 h1 h2 Tryd.func88 Z fun O hF=>?_
 refine ah (js Z (b0 (js Z (cR Z (c84 h1 h2) 5000 Z (js Z (jr ?_))))))
 refine aK Z ?_
 first|rfl|skip
variable{t:Tm}
theorem qi:MQ h1 h2 64 [ptr t.cells] [] (Plain (eB t.ok)):=by
 refine aH ?_ Z
 refine jB 49 h1 h2 Tryd.func64 Z fun O hF=>?_
 have hl:t.xs.length≤L:=by simpa[As.fact,A.fact,M.fact,D.fact,Ds.fact]using hF.1.2.1.1
 refine ah (js Z (b0 (cb Z (fK Z (js Z (jn (ae (ah (cb Z (cR Z (oi h1 h2) 15000 Z (ap Z (aO 2 Z Z Z (fun hx=>az hx Z (az hx Z (AN.nil))) Z Z (an (aS O Z Z Z Z Z) Z (js Z (aO 13 Z Z Z (fun hx=>az hx Z (az hx Z (az hx Z (jL 9 Z Z Z Z (fun hx'=>az hx' Z (az hx' Z (az hx' Z (az hx' Z (az hx' Z (ct hx' (vF Z) Z (ct hx' (vD Z) Z (az hx' Z (az hx' Z (AN.nil)))))))))) Z Z (ct hx (aA O Z Z Z Z Z) Z (AN.nil)))))) Z Z (an (aS O Z Z Z Z Z) Z (jn (aB Z (fun z34=>?_) (fun z34=>?_)))))))))))))))))))
 try simp only[bI]at z34
 refine ah (js Z (jr ?_))
 refine aK Z ?_
 simp only[Tm.ok,z34,Bool.not_true,Bool.false_and]
 try simp only[bI]at z34
 refine ao (ae (ah (js Z (jn (ak (av (X:=Nat) (fun i=>⟨[(0,ptr t.cells),(3,eI t.xs.length),(4,eI i)],[]⟩) (fun i=>i≤t.xs.length∧∀j (h:j<t.xs.length),j<i→num t.xs[j]=true) (fun i=>t.xs.length-i) 0 (Ent.env ⟨Z,Z,Z,aw⟩) ?_ (fun i hi=>?_)))))))
 exact⟨fE _,fun j h hj=>absurd hj (Nat.not_lt_zero j)⟩
 refine ae (ah (bQ Z (jn (aB Z (fun z37=>?_) (fun z37=>?_)))))
 try simp only[bI]at z37
 refine ao (ae (ak (ah (cb Z (js Z (n6 Z Z (js Z (cR Z (oi h1 h2) 48000 Z (js Z (jn (aB Z (fun z48=>?_) (fun z48=>?_))))))))))))
 try simp only[bI]at z48
 refine ah (js Z (jr ?_))
 refine aK Z ?_
 rw[Int.toNat_natCast,ax (by omega)]at z48
 simp only[Tm.ok,iz i (by omega) z48,Bool.and_false]
 try simp only[bI]at z48
 refine ao (ag (js Z (ji Z (js Z (jn ?_)))))
 refine⟨i+1,Ent.env ⟨Z,Z,Z,aw⟩,⟨by omega,fun j h hj=>?_⟩,by omega⟩
 by_cases e:j=i
 subst e;rw[Int.toNat_natCast,ax h]at z48;exact z48
 exact hi.2 j h (by omega)
 try simp only[bI]at z37
 refine bi (ah (js Z (jr ?_)))
 refine aK Z ?_
 simp only[Tm.ok,z34,Bool.not_false,Bool.true_and]
 rw[jF (fun j hj=>hi.2 j hj (by omega))]
abbrev eW(xs:List Int):B:=.row true 1 (xs.map fun n=>[.int .i64 n])
abbrev bm(xs:List Int):A:=.c (.d (eX xs))
variable{xs:List Int}
theorem qg:MQ h1 h2 63 [bm xs] [] (Rows (.c (.rs 0 0 xs.length)) [eW xs]):=by
 refine iD (jB 6 h1 h2 Tryd.func63 Z fun O hF=>?_)
 have hl:xs.length≤L:=by simpa[As.fact,A.fact,M.fact,D.fact,Ds.fact]using hF.1.1
 refine ?_
 refine ah (js Z (b0 (b9 (HS.lit O Z Z Z) Z (js Z (b9 (kj (own:=true) O Z (.row Z Z) (.slc (.inr (Scal.map (fun _=>rfl)))) (by simp) Z (by first|omega|(dsimp only[ep,fI,List.length_nil];omega)|(simp only[bI]at *;omega)|(simp;omega)) (by first|omega|(dsimp only[ep,fI,List.length_nil];omega)|(simp only[bI]at *;omega)|(simp;omega)) Z Z) Z (js Z (jr ?_)))))))
 refine⟨.inl Z,_,dh,_,Z,[5],by decide,Z,?_,?_⟩
 simp[A.lab,M.lab]
 rfl
theorem qe:MQ h1 h2 72 [bm xs] [] (Rows (.c (.rs 0 0 xs.length)) [eW xs]):=by
 refine iD (jB 6 h1 h2 Tryd.func72 Z fun O hF=>?_)
 have hl:xs.length≤L:=by simpa[As.fact,A.fact,M.fact,D.fact,Ds.fact]using hF.1.1
 refine ?_
 refine ah (js Z (b0 (b9 (HS.lit O Z Z Z) Z (js Z (b9 (kj (own:=true) O Z (.row Z Z) (.slc (.inr (Scal.map (fun _=>rfl)))) (by simp) Z (by first|omega|(dsimp only[ep,fI,List.length_nil];omega)|(simp only[bI]at *;omega)|(simp;omega)) (by first|omega|(dsimp only[ep,fI,List.length_nil];omega)|(simp only[bI]at *;omega)|(simp;omega)) Z Z) Z (js Z (jr ?_)))))))
 refine⟨.inl Z,_,dh,_,Z,[5],by decide,Z,?_,?_⟩
 simp[A.lab,M.lab]
 rfl

deriving instance DecidableEq for Tm
abbrev po(ts:List Tm):D:=.slc 2 (ts.map Tm.cells)
abbrev fG(ts:List Tm):A:=.c (.d (po ts))

structure Sm where
  kind:Int
  var:Int
  event:Int
  sum:Tm
  index:Tm
  facts:List Tm
  deriving Inhabited,DecidableEq
structure Pm where
  pre:List Tm
  body:List Sm
  post:List Tm
  deriving Inhabited,DecidableEq
structure Sx where
  vars:List Int
  cells:List Int
  deriving Inhabited,DecidableEq
def pw{α:Type}(sz:α→Nat)(l:List α):Nat:=(l.map sz).sum
section
variable{α:Type}{f:Int→α→α}{sz:α→Nat}
end

def Tm.term(t:Tm):Bool:=t.ok&&decide ((t.xs.length:Int)≤4)
def oK(ts:List Tm)(n:Int):Bool:=ts.all Tm.term&&decide ((ts.length:Int)≤n)
def pk(k:Int):Int:=if k=1 then 2 else if k=7 then 2 else if k=8 then 1 else 0
def Tm.zero(t:Tm):Bool:=decide (t.c=0)&&decide ((t.xs.length:Int)=0)

def pW(s:Sm):Bool:=bif bif bif bif decide (s.kind=2)then true else decide (s.kind=4)then true else decide (s.kind=6)then true else decide (s.kind=7)then true else decide (s.kind=8)
def pY(s:Sm):Bool:=bif decide (s.kind=3)then true else decide (s.kind=4)
def n7(s:Sm):Bool:=bif decide (s.kind=2)then true else decide (s.kind=3)
def sB1(s:Sm):Bool:=bif bif bif !(decide (0≤s.kind)&&decide (s.kind≤8))then true else !s.sum.term then true else !s.index.term then true else !oK s.facts 6
def sB2(s:Sm):Bool:=bif bif bif !pW s then !s.sum.zero else false then true else bif !pY s then !s.index.zero else false then true else bif !decide (s.kind=8)then decide ((0:Int)<s.facts.length)else false
def sB3(s:Sm):Bool:=bif bif n7 s then !(decide (0≤s.var)&&decide (s.var≤3))else false then true else bif !n7 s then !decide (s.var=0)else false
def oN(s:Sm):Bool:=bif sB1 s then false else bif sB2 s then false else bif sB3 s then false else bif decide (s.kind=5)then(decide (0≤s.event)&&decide (s.event≤3))else decide (s.event=0)
def big(x:Int):Bool:=decide (-1000000000≤x)&&decide (x≤1000000000)
def nl(xs:List Int)(n:Int):Bool:=xs.all big&&decide ((xs.length:Int)=n)
theorem px{x:Int}:num x=true↔ -1000000≤x∧x≤1000000:=by simp[num]
abbrev df(t:Tm):A:=.agg (t.cells.map .d)
def pC(lo hi x:Int):Bool:=decide (lo≤x)&&decide (x≤hi)

theorem ol:MQ h1 h2 89 [eI x,eI lo,eI hi] [] (Plain (eB (pC lo hi x))):=by
 refine aH ?_ Z
 refine jB 15 h1 h2 Tryd.func89 Z fun O hF=>?_
 refine ah (js Z (b0 (cb Z (aO 3 Z Z Z (fun hx=>az hx Z (az hx Z (az hx Z (AN.nil)))) Z Z (an (aA O Z Z Z Z Z) Z (js Z (jr ?_)))))))
 refine aK Z ?_
 rw[Bool.cond_false_right];rfl
theorem qf:MQ h1 h2 67 [bm xs,eI lo,eI hi] [] (Plain (eB (xs.all (pC lo hi)))):=by
 refine aH ?_ Z
 refine jB 21 h1 h2 Tryd.func67 Z fun O hF=>?_
 have hl:xs.length≤L:=by simpa[As.fact,A.fact,M.fact,D.fact,Ds.fact]using hF.1.1
 refine ah (js Z (jn (ae (ah (js Z (fK Z (js Z (jn (ak (av (X:=Nat) (fun i=>⟨[(1,eI lo),(2,eI hi),(9,bm xs),(10,eI xs.length),(11,eI i)],[]⟩) (fun i=>i≤xs.length∧∀j (h:j<xs.length),j<i→pC lo hi xs[j]=true) (fun i=>xs.length-i) 0 (Ent.env ⟨Z,Z,Z,Z,Z,aw⟩) ?_ (fun i hi=>?_)))))))))))
 exact⟨fE _,fun j h hj=>absurd hj (Nat.not_lt_zero j)⟩
 refine ah (js Z (jn (ae (aB Z (fun z12=>?_) (fun z12=>?_)))))
 try simp only[bI]at z12
 refine ao (ae (ak (ah (n6 Z Z (ap Z (b0 (bQ Z (cR Z (ol h1 h2) 19000 Z (js Z (jn (aB Z (fun z19=>?_) (fun z19=>?_))))))))))))
 try simp only[bI]at z19
 refine ah (js Z (jr ?_))
 refine aK Z ?_
 rw[Int.toNat_natCast,ax (by omega)]at z19
 rw[iz i (by omega) z19]
 try simp only[bI]at z19
 refine ao (ag (ji Z (js Z (jn ?_))))
 refine⟨i+1,Ent.env ⟨Z,Z,Z,Z,Z,aw⟩,⟨by omega,fun j h hj=>?_⟩,by omega⟩
 by_cases e:j=i
 subst e;rw[Int.toNat_natCast,ax h]at z19;exact z19
 exact hi.2 j h (by omega)
 try simp only[bI]at z12
 refine bi (ah (js Z (jr ?_)))
 refine aK Z ?_
 rw[jF (fun j hj=>hi.2 j hj (by omega))]
theorem qd:MQ h1 h2 66 [eI x] [] (Plain (eB (num x))):=by
 refine aH ?_ Z
 refine jB 5 h1 h2 Tryd.func66 Z fun O hF=>?_
 refine ah (js Z (b0 (js Z (cR Z (ol h1 h2) 5000 Z (js Z (jr ?_))))))
 refine aK Z ?_
 first|rfl|skip
theorem mJ(t:Tm):(bif bif bif decide ((t.xs.length:Int)≤10)then num t.c else false then t.xs.all num else false then bif decide ((t.xs.length:Int)=0)then true else !decide (t.xs.getD ((t.xs.length:Int)-1).toNat default=0)else false)=t.ok:=by
 unfold Tm.ok
 cases num t.c<;>cases t.xs.all num<;>simp
 by_cases h0:t.xs=[]
 simp[h0]
 have h1:0<t.xs.length:=List.length_pos_iff.2 h0
 by_cases h2:(t.xs.length:Int)≤10
 have h3: ¬(10:Int)<t.xs.length:=by omega
 simp[h0,h1,h2,h3]
 have h3:(10:Int)<t.xs.length:=by omega
 simp[h2,h3]
theorem mD:MQ h1 h2 33 [df t] [] (Plain (eB t.ok)):=by
 refine aH ?_ Z
 refine jB 32 h1 h2 Tryd.func33 Z fun O hF=>?_
 have hl:t.xs.length≤L:=by simpa[As.fact,A.fact,M.fact,Ms.fact,D.fact,Ds.fact]using hF.1.2.1.1
 refine ah (jx Z (js Z (b0 (ap Z (fK Z (js Z (jf [3,2,1,0] Z (b0 (bQ Z (jf [9,3,2,1,0] Z (aO 3 Z Z Z (fun hx=>az hx Z (az hx Z (eC O hx Z Z Z Z (qd h1 h2) (ac Z) Z Z Z Z Z Z Z (B0:=13000) Z (AN.nil)))) Z Z (an (aA O Z Z Z Z Z) Z (js Z (jf [14,3,2,1,0] Z (aO 3 Z Z Z (fun hx=>az hx Z (az hx Z (eC O hx Z Z Z Z (qf h1 h2) (ac Z) Z Z Z Z Z Z Z (B0:=18000) Z (AN.nil)))) Z Z (an (aA O Z Z Z Z Z) Z (js Z (jf [19,3,2,1,0] Z (aO 11 Z Z Z (fun hx=>az hx Z (az hx Z (az hx Z (jL 7 Z Z Z Z (fun hx'=>az hx' Z (az hx' Z (az hx' Z (ct hx' (aj O Z Z (by first|omega|(simp only[bI]at *;omega)) (by first|omega|(simp only[bI]at *;omega))) Z (ct hx' (ek O Z Z Z Z Z Z Z Z (by first|omega|(simp only[bI]at *;omega)) (iw (by first|omega|(simp only[bI]at *;omega)) (by first|omega|(simp only[bI]at *;omega)))) Z (az hx' Z (az hx' Z (AN.nil)))))))) Z Z (ct hx (aS O Z Z Z Z Z) Z (AN.nil)))))) Z Z (an (aA O Z Z Z Z Z) Z (js Z (jf [2,1,0] Z (jr ?_)))))))))))))))))))))))
 refine aK Z ?_
 exact congrArg eB (mJ t)
inductive Tr where
  | node (s:Sm) (at_:Int) (kids:List Tr)
mutual
def Tr.d:Tr→D
  | .node s a ks=>.ptr [.int .i64 s.kind,.int .i64 s.var,.int .i64 s.event,.int .i64 s.sum.c,eX s.sum.xs,.int .i64 s.index.c,eX s.index.xs,po s.facts,.int .i64 a,.slc 1 (Trs.d ks)] 0
def Trs.d:List Tr→List (List D)
  | []=>[]
  | t::r=>[t.d]::Trs.d r
end
abbrev tB(r:Option (Tr×Nat)):Bool:=match r with|some _=>true|none=>false
structure RS where
  vars:List Int
  cells:List Int
  events:List Int
  fuel:Int
  steps:Int
  out:Int
structure RSok(r:RS):Prop where
  vars:nl r.vars 4=true
  cells:nl r.cells 8=true
  lo:0≤r.steps
  hi:r.steps≤r.fuel
  fuel:r.fuel≤2000
  events:(r.events.length:Int)≤r.steps
structure RSle(r r':RS):Prop where
  ok:RSok r'
  fuel:r'.fuel=r.fuel
  steps:r.steps≤r'.steps

mutual
/-- Each element is valid, and has the statements behind it that it bT. -/
def Tr.ok:Tr→Prop
  | .node s _ ks=>oN s=true∧(ks.length:Int)=pk s.kind∧Trs.ok ks
def Trs.ok:List Tr→Prop
  | []=>True
  | t::r=>t.ok∧Trs.ok r
end
def r0(s:Sx)(f:Int):RS:=⟨s.vars,s.cells,[],f,0,0⟩
structure Rs where
  v:List Int
  c:List Int
  ev:List Int
  out:Int
  st:Int
structure Cf where
  n:Nat
  ws:List Nat
  v:List Int
  c:List Int
  ev:List Int
  st:Int

structure Nd where
  kind:Int
  fact:Int
  term:Tm
  mul:List Int
  deriving Inhabited,DecidableEq
structure Sq where
  facts:List Tm
  goal:Tm
  deriving Inhabited,DecidableEq
abbrev Sq.cells(s:Sq):List D:=[po s.facts,.int .i64 s.goal.c,eX s.goal.xs]
abbrev ng(s:Sq):A:=.agg (s.cells.map .d)
theorem oV{L:Nat}(h1:4096≤L)(h2:L≤1073741824){xs:List Int}:MC Tryd.prog L 63 [bm xs] [] (Plain (bm xs)):=(qg h1 h2).frozen (.v (.c (.whole rfl (ep _).symm)))
theorem oU{L:Nat}(h1:4096≤L)(h2:L≤1073741824){xs:List Int}:MC Tryd.prog L 72 [bm xs] [] (Plain (bm xs)):=(qe h1 h2).frozen (.v (.c (.whole rfl (ep _).symm)))
abbrev nz(ts:List Tm):B:=.row false 2 (ts.map Tm.cells)

theorem qh:MQ h1 h2 37 [df t] [] (Plain (df t)):=by
 refine MC.data (jB 9 h1 h2 Tryd.func37 Z fun O hF=>?_)
 refine ah (jx Z (jl Z (jn (ae (jy [_,_,_,_,_,_,_] [pn [] 0 1,pn [0] 0 1,aM,af [2],pe [2,3] 0,pn (rg 0 5) 1 1,pe (rg 0 6) 1] [4,6] [_,_,_] (ai (kc Z (V Z)) (ai (kc Z (V Z)) (kc Z (kc Z (ai (kd O (B0:=8000) Z Z Z Z (oU (xs:=t.xs) h1 h2) (ac Z) Z Z Z Z Z) (kc Z (ai (eS Z Z Z) trivial))))))) ?_)))))
 refine pF ?_
 refine aK Z ?_
 exact .v (.agg (aT Z))
def aW(xs:List Int):List Int:=(xs.reverse.dropWhile (· == 0)).reverse
theorem gJ{xs:List Int}:aW (xs++[0])=aW xs:=by simp[aW]
theorem kS{xs:List Int}{x:Int}(h:x≠0):aW (xs++[x])=xs++[x]:=by simp[aW,h]
theorem gK{xs:List Int}{n:Nat}(h:n<xs.length)(h0:xs.getD n default=0):aW (xs.take (n+1))=aW (xs.take n):=by
 rw[List.take_succ_eq_append_getElem h,←ax h,h0,gJ]
theorem e5{xs:List Int}{n:Nat}(hn:n≤xs.length)(h:n=0∨xs.getD (n-1) default≠0):aW (xs.take n)=xs.take n:=by
 cases n with
 | zero=>simp[aW]
 | succ n=>
  have h':xs.getD n default≠0:=by
   rcases h with h|h
   cases h
   exact h
  rw[ax (by omega)]at h'
  rw[List.take_succ_eq_append_getElem (by omega),kS h']
def dR(c:Int)(xs:List Int):Tm×Bool:=if(Tm.mk c (aW xs)).ok=true then(⟨c,aW xs⟩,true)else(⟨0,[]⟩,false)
abbrev km(r:Tm×Bool):A:=.tup [df r.1,eB r.2]
def pV(a:Tm)(m:Int)(b:Tm)(n:Int):List Int:=(List.range 10).map fun i=>m*a.xs.getD i 0+n*b.xs.getD i 0
def pU(a:Tm)(m:Int)(b:Tm)(n:Int):Tm×Bool:=dR (m*a.c+n*b.c) (pV a m b n)
def n9(t:Tm):Tm×Bool:=pU t (-1) ⟨1,[]⟩ (-1)
structure Small(t:Tm):Prop where
  c:num t.c=true
  xs:t.xs.all num=true
theorem io{a b:Int}(h1:num a=true)(h2:num b=true): -1000000000000≤a*b∧a*b≤1000000000000:=by
 have h1:=px.1 h1
 have h2:=px.1 h2
 have h3:a.natAbs≤1000000:=by omega
 have h4:b.natAbs≤1000000:=by omega
 have h5:=Nat.mul_le_mul h3 h4
 rw[←Int.natAbs_mul]at h5
 omega
theorem Small.get{t:Tm}(h:Small t)(i:Nat):num (t.xs.getD i 0)=true:=by
 by_cases hi:i<t.xs.length
 have:t.xs.getD i 0=t.xs[i]:=by simp[hi]
 rw[this]
 exact List.all_eq_true.1 h.xs _ (List.getElem_mem hi)
 have:t.xs.getD i 0=0:=by simp[Nat.not_lt.1 hi]
 rw[this];decide
theorem eK{t:Tm}(h:t.ok=true):Small t:=by
 simp only[Tm.ok,aL,Bool.not_eq_true']at h
 refine⟨?_,h.2⟩
 cases hn:num t.c with
 | true=>rfl
 | false=>rw[hn]at h;simp at h
theorem lU{t:Tm}(h:t.ok=true):t.xs.length≤10:=by
 simp only[Tm.ok,aL,Bool.not_eq_true']at h
 by_cases h1:(10:Int)<t.xs.length
 rw[decide_eq_true h1]at h
 cases num t.c<;>simp at h
 omega
theorem lF{c:Int}:MQ h1 h2 29 [eI c,bm xs] [] (Plain (km (dR c xs))):=by
 refine MC.data (jB 32 h1 h2 Tryd.func29 Z fun O hF=>?_)
 have hl:xs.length≤L:=by simpa[As.fact,A.fact,M.fact,D.fact,Ds.fact]using hF.2.1.1
 refine ah (jl Z (js Z (b0 (js Z (fK Z (js Z (jf [6,5,4,0,1] Z (jn (ae (ak (av (X:=Nat) (fun n=>⟨[(0,eI c),(1,bm xs),(4,.c (.pt 4 0 0)),(6,eI n)],[(4,.box [.d (.int .i64 0),.d .nils])]⟩) (fun n=>n≤xs.length∧aW (xs.take n)=aW xs) (fun n=>n) xs.length (Ent.env ⟨Z,Z,Z,Z,aw⟩) ?_ (fun n hi=>?_))))))))))))
 exact⟨bp _,by rw[List.take_length]⟩
 refine ae (ah (bQ Z (jf [12,0,1,4,6] Z (aO 6 Z Z Z (fun hx=>az hx Z (az hx Z (ct hx (vF Z) Z (ct hx (vD Z) Z (az hx Z (az hx Z (AN.nil))))))) Z Z (an (aA O Z Z Z Z Z) Z (jf [19,0,1,4,6] Z (jn (aB Z (fun z19=>?_) (fun z19=>?_)))))))))
 refine ao (ak (ag (js Z (ji Z (js Z (jf [6,19,0,1,4] Z (jn ?_)))))))
 rw[Bool.cond_false_right,aL,decide_eq_true_eq,decide_eq_true_eq]at z19
 obtain⟨k,hk⟩: ∃k,n=k+1:=⟨n-1,by omega⟩
 subst hk
 have hk2:((k+1:Nat):Int)-1=k:=by omega
 rw[hk2]at z19
 refine⟨k,Ent.to ⟨Z,Z,Z,by rw[hk2];rfl,aw⟩ Z,⟨by omega,?_⟩,Nat.lt_succ_self k⟩
 rw[←hi.2,gK (by omega) (by simpa using z19.2)]
 refine bi (ah (bQ Z ?_))
 have hd:aW (xs.take n)=xs.take n:=e5 hi.1 (by
  rw[Bool.cond_false_right]at z19
  rcases Nat.eq_zero_or_pos n with h0|h0
  ·
   exact .inl h0
  ·
   refine .inr (fun h9=>?_)
   have e1:((n:Int)-1).toNat=n-1:=by omega
   rw[e1,h9]at z19;simp at z19;omega)
 have ht:=hi.2
 rw[hd]at ht
 refine an ((dI O Z Z ⟨by omega,by simp;omega⟩).cast (v':=bm (aW xs)) (by rw[←ht];simp[List.map_take])) Z (jf [25,22,19,0,1,4,6] Z (am O Z Z Z Z (oV (xs:=aW xs) h1 h2) (ac Z) Z Z Z Z (B0:=27000) Z Z (js Z (jf [27,19,0,1,4,6] Z (jl Z (jo Z (jn (ae (ah (dQ O Z Z Z Z (qi (t:=⟨c,aW xs⟩) h1 h2) (.cons (.c (.pb (cs:=Tm.cells ⟨c,aW xs⟩) Z (aT Z))) .nil) Z Z Z Z Z (B0:=29000) Z (js Z (jn (aB Z (fun z29=>?_) (fun z29=>?_))))))))))))))
 refine ah (js Z (jo Z (js Z (jr ?_))))
 refine aK Z ?_
 have hok:(Tm.mk c (aW xs)).ok=false:=by simpa using z29
 rw[show dR c xs=(⟨0,[]⟩,false)from if_neg (by rw[hok];decide)]
 exact .tup (.cons (.agg (.cons .d (.cons .nils .nil))) (.cons (.c .d) .nil))
 refine ao (ah (js Z (jo Z (js Z (jr ?_)))))
 refine aK Z ?_
 have hok:(Tm.mk c (aW xs)).ok=true:=by simpa using z29
 rw[show dR c xs=(⟨c,aW xs⟩,true)from if_pos hok]
 exact .tup (.cons (.agg (aT Z)) (.cons (.c .d) .nil))
def fh(ts:List Tm)(n:Int):Bool:=ts.all Tm.ok&&decide ((ts.length:Int)≤n)
def fT(s:Sq):Bool:=fh s.facts 13&&s.goal.ok
def co(x:Int):Bool:=decide (0≤x)&&decide (x≤1000000)
def dl(k:Int):Int:=if k=1 then -1 else if k=2 then 1 else 0
def oe:List Nd→Int→Option Nat
  | [],need=>if need≤0 then some 0 else none
  | s::r,need=>if need≤0 then some 0 else(oe r (need+dl s.kind)).map (· + 1)
def p8(p:List Nd)(k:Nat):Int:=match oe (p.drop k) 1 with
  | some n=>k+n
  | none=> -1
def n4(p:List Nd)(k:Nat):Nat→Int×Bool
  | 0=>(-1,false)
  | i+1=>if(p.getD i default).kind=1∨p8 p i≤k then n4 p k i else(i,decide (i+1=k))
def cu(xs:List Int):Nat:=xs.foldl (fun g x=>Nat.gcd g x.natAbs) 0
theorem gS{xs:List Int}{i:Nat}(h:i<xs.length):cu (xs.take (i+1))=Nat.gcd (cu (xs.take i)) (xs.getD i default).natAbs:=by
 rw[List.take_succ_eq_append_getElem h,cu,List.foldl_append,ax h];rfl
theorem kG{xs:List Int}(h:xs.all num=true): ∀{i:Nat},i≤xs.length→cu (xs.take i)≤1000000
 | 0,_=>by simp[cu]
 | i+1,hi=>by
  rw[gS (by omega)]
  have ih:=kG h (i:=i) (by omega)
  have hx:=px.1 (List.all_eq_true.1 h _ (List.getElem_mem (show i<xs.length by omega)))
  rw[←ax (by omega)]at hx
  by_cases h0:(xs.getD i default).natAbs=0
  rw[h0,Nat.gcd_zero_right];exact ih
  have:=Nat.gcd_le_right (cu (xs.take i)) (Nat.pos_of_ne_zero h0)
  omega
def mx(a b:Int):Int:=if a>b then a else b
theorem nN(x:Int):mx x (0-x)=(x.natAbs:Int):=by unfold mx;split<;>omega
def bB(t:Tm):Tm×Bool:=if cu t.xs<2 then(⟨0,[]⟩,false)else
  dR (if t.c.tmod (cu t.xs)<0 then t.c.tdiv (cu t.xs)-1 else t.c.tdiv (cu t.xs)) (t.xs.map fun x=>x.tdiv (cu t.xs))
theorem kx{a b:Int}(h: -1000000≤a∧a≤1000000): -1000000≤a.tdiv b∧a.tdiv b≤1000000:=by
 have h1:(a.tdiv b).natAbs≤a.natAbs:=by rw[Int.natAbs_tdiv];exact Nat.div_le_self _ _
 omega
theorem kw{a b:Int}(h: -1000000≤a∧a≤1000000): -1000000≤a.tmod b∧a.tmod b≤1000000:=by
 have h1:(a.tmod b).natAbs≤a.natAbs:=by rw[Int.natAbs_tmod];exact Nat.mod_le _ _
 omega
def nX(n:Nd)(ctx:List Tm)(first:Bool):List Tm:=if n.kind=3 then ctx++[(bB (ctx.getD n.fact.toNat default)).1]else if first=true then ctx++[n.term]else ctx++[(n9 n.term).1]
def aY(f:Tm→Int):List Tm→List Int→Int
  | t::ts,m::ms=>m*f t+aY f ts ms
  | _,_=>0
theorem dO{f:Tm→Int}: ∀{ts:List Tm} {ms:List Int} {i:Nat},i<ts.length→i<ms.length→aY f (ts.take (i+1)) (ms.take (i+1))=aY f (ts.take i) (ms.take i)+ms.getD i default*f (ts.getD i default)
 | [],_,i,h,_=>by simp at h
 | _::_,[],i,_,h=>by simp at h
 | x::xs,y::ys,0,_,_=>by simp[aY]
 | x::xs,y::ys,i+1,h1,h2=>by
  have:=dO (f:=f) (ts:=xs) (ms:=ys) (i:=i) (by simpa using h1) (by simpa using h2)
  simp only[List.take_succ_cons,aY,List.getD_cons_succ]at this ⊢
  omega
theorem ix{f:Tm→Int}{ts:List Tm}{ms:List Int}(hf: ∀t∈ts,num (f t)=true)(hm:ms.all num=true): ∀{i:Nat},i≤ts.length→i≤ms.length→ -(i*1000000000000:Int)≤aY f (ts.take i) (ms.take i)∧aY f (ts.take i) (ms.take i)≤i*1000000000000
 | 0,_,_=>by simp[aY]
 | i+1,h1,h2=>by
  have ih:=ix hf hm (i:=i) (by omega) (by omega)
  rw[dO (by omega) (by omega)]
  have a1:=hf _ (List.getElem_mem (show i<ts.length by omega))
  have a2:=List.all_eq_true.1 hm _ (List.getElem_mem (show i<ms.length by omega))
  have:=io a2 a1
  rw[ax (by omega),ax (by omega)]
  omega
abbrev lE(k:Nat):Tm→Int:=fun t=>t.xs.getD k 0
def ba(ts:List Tm)(ms:List Int):List Int:=(List.range 10).map fun k=>aY (lE k) ts ms
def m6(ctx:List Tm)(ms:List Int):Bool:=decide (ctx.length=ms.length)&&((ba ctx ms).all (fun x=>decide (x=0))&&decide (aY Tm.c ctx ms<0))
def lQ(n:Nd)(ctx:List Tm):Bool:=if n.kind=1 then m6 ctx n.mul else if 20≤ctx.length then false else if n.kind=2 then(n9 n.term).2 else if n.fact≥ctx.length then false else(bB (ctx.getD n.fact.toNat default)).2

theorem qa{a b:Int}:MQ h1 h2 75 [eI a,eI b] [] (Plain (eI (mx a b))):=by
 refine aH ?_ Z
 refine jB 10 h1 h2 Tryd.func75 Z fun O hF=>?_
 refine ah (js Z (jn (ae (ah (bQ Z (jn (aB Z (fun z7=>?_) (fun z7=>?_))))))))
 try simp only[bI]at z7
 refine ah (ap Z (jr ?_))
 refine aK Z ?_
 rw[mx,if_pos z7]
 try simp only[bI]at z7
 refine ao (ah (ap Z (jr ?_)))
 refine aK Z ?_
 rw[mx,if_neg (by omega)]
theorem qc(ht:t.xs.all num=true):MQ h1 h2 65 [ptr t.cells] [] (Plain (eI (cu t.xs))):=by
 refine aH ?_ Z
 refine jB 40 h1 h2 Tryd.func65 Z fun O hF=>?_
 have hl:t.xs.length≤L:=by simpa[As.fact,A.fact,M.fact,D.fact,Ds.fact]using hF.1.2.1.1
 refine ah (js Z (b0 (js Z (jn (ae (ah (js Z (jn (ak (av (X:=Nat) (fun i=>⟨[(0,ptr t.cells),(3,eI (cu (t.xs.take i))),(4,eI i)],[]⟩) (fun i=>i≤t.xs.length) (fun i=>t.xs.length-i) 0 (Ent.env ⟨Z,Z,Z,aw⟩) ?_ (fun i hi=>?_)))))))))))
 exact fE _
 refine ae (ah (cb Z (js Z (fK Z (js Z (jn (aB Z (fun z13=>?_) (fun z13=>?_))))))))
 try simp only[bI]at z13
 refine ao (ae (ak (ae ?_)))
 have hi0:=hi
 have hx:=px.1 (List.all_eq_true.1 ht _ (List.getElem_mem (show i<t.xs.length by omega)))
 rw[←ax (by omega)]at hx
 have hgs:=gS (xs:=t.xs) (i:=i) (by omega)
 have hgl:=kG ht hi
 have hmx:=nN (t.xs.getD i default)
 refine jy [_,_,_,_,_,_,_,_,_,_,_,_,_,_,_,_,_] [aM,af [0],af [0,1],af [0,1,2],aM,af (rg 0 5),af (rg 0 6),aM,af [7],af [7,8],af [7,8,9],aM,af (rg 7 5),af (rg 7 6),af (rg 7 7),pe (rg 0 15) 0,pn (rg 0 16) 1 1] [15] [_,_] (eT Z (kc Z (ai (vD Z) (eT Z (kc Z (kc Z (ai (vD Z) (kc Z (ai (aj O Z Z (by rw[Int.toNat_natCast];omega) (by rw[Int.toNat_natCast];omega)) (ai (bG O (B0:=32000) Z Z Z Z ((qa (a:=t.xs.getD ((i:Int)).toNat default) (b:=0-t.xs.getD ((i:Int)).toNat default) h1 h2).plain (u:=eI ((t.xs.getD i default).natAbs)) (by rw[Int.toNat_natCast,hmx])) (ac Z) Z Z Z Z Z) (kc Z trivial))))))))))) ?_
 refine jw [5,13,0,3,4] Z (g9 ?_)
 refine ak (av (X:=Nat×Nat) (fun z=>⟨[(0,ptr t.cells),(3,eI z.1),(4,eI i),(5,eI z.2)],[]⟩) (fun z=>Nat.gcd z.1 z.2=Nat.gcd (cu (t.xs.take i)) (t.xs.getD i default).natAbs∧z.1≤1000000∧z.2≤1000000) (fun z=>z.2) (cu (t.xs.take i),(t.xs.getD i default).natAbs) (Ent.env ⟨Z,Z,Z,Z,aw⟩) ?_ (fun z hi=>?_))
 exact⟨Z,hgl,by show(t.xs.getD i default).natAbs≤1000000;omega⟩
 have hz:=kw (a:=z.1) (b:=z.2) (by omega)
 refine ae (ah (ap Z (jn (aB Z (fun z33=>?_) (fun z33=>?_)))))
 try simp only[bI]at z33
 refine ao (ak (ah (ap Z (an (vR Z Z Z Z) Z (js Z (b0 (ap Z (jn (ag (ap Z (jn ?_)))))))))))
 have hm:z.1%z.2<z.2:=Nat.mod_lt _ (by omega)
 refine⟨(z.2,z.1%z.2),Ent.env ⟨Z,Z,Z,Z,aw⟩,⟨?_,hi.2.2,by show z.1%z.2≤1000000;omega⟩,hm⟩
 show Nat.gcd z.2 (z.1%z.2)=_
 rw[←hi.1,Nat.gcd_comm z.2,←Nat.gcd_rec,Nat.gcd_comm]
 try simp only[bI]at z33
 refine bi (ag (js Z (ji Z (js Z (jn ?_)))))
 have hz0:z.2=0:=by omega
 have hz1:z.1=cu (t.xs.take (i+1)):=by rw[hgs,←hi.1,hz0,Nat.gcd_zero_right]
 rw[hz1]
 exact⟨i+1,Ent.env ⟨Z,Z,Z,aw⟩,by omega,by omega⟩
 try simp only[bI]at z13
 refine bi (ah (ap Z (jr ?_)))
 refine aK Z ?_
 obtain rfl:i=t.xs.length:=by omega
 rw[List.take_length]
def cC(ts:List Tm)(ms:List Int)(i j:Nat):List Int:=(List.range 10).map fun k=>aY (lE k) (ts.take i) (ms.take i)+(if k<j then ms.getD i default*(ts.getD i default).xs.getD k 0 else 0)
theorem be{ts ms i j}:(cC ts ms i j).length=10:=by simp[cC]
theorem kX{ts ms i}:cC ts ms i 0=ba (ts.take i) (ms.take i):=by simp[cC,ba]
theorem i3{ts ms i j}(h:j<10):(cC ts ms i j).getD j default=aY (lE j) (ts.take i) (ms.take i):=by
 rw[ax (by rw[be];exact h)]
 simp[cC]
theorem kY{ts ms i j}(h:j<10):(cC ts ms i j).set j ((cC ts ms i j).getD j default+ms.getD i default*(ts.getD i default).xs.getD j default)=cC ts ms i (j+1):=by
 rw[i3 h]
 apply List.ext_getElem?
 intro k
 rw[List.getElem?_set]
 by_cases hk:k<10
 by_cases e:j=k
 subst e
 rw[if_pos Z,if_pos (by rw[be];exact h)]
 simp[cC,h]
 rw[if_neg e]
 have h3:(k<j+1)=(k<j):=by apply propext;omega
 simp only[cC,List.getElem?_map,List.getElem?_range hk,Option.map_some,h3]
 have h1:(cC ts ms i j)[k]? = none:=List.getElem?_eq_none (by rw[be];omega)
 have h2:(cC ts ms i (j+1))[k]? = none:=List.getElem?_eq_none (by rw[be];omega)
 rw[if_neg (by omega),h1,h2]
theorem me{ts ms i j}(h1:i<ts.length)(h2:i<ms.length)(h:(ts.getD i default).xs.length≤j):cC ts ms i j=ba (ts.take (i+1)) (ms.take (i+1)):=by
 unfold cC ba
 apply List.map_congr_left
 intro k hk
 rw[dO h1 h2]
 by_cases e:k<j
 rw[if_pos e]
 rw[if_neg e]
 show _+0=_+_*(ts.getD i default).xs.getD k 0
 rw[show(ts.getD i default).xs.getD k 0=0 by rw[List.getD_eq_getElem?_getD,List.getElem?_eq_none (by omega)];rfl,Int.mul_zero]
theorem iG{ts ms}:(ba ts ms).length=10:=by simp[ba]
structure CtxOk(ctx:List Tm):Prop where
  ok: ∀t∈ctx,t.ok=true
  len:ctx.length≤1000
theorem CtxOk.get{ctx:List Tm}(h:CtxOk ctx){i:Nat}(hi:i<ctx.length):(ctx.getD i default).ok=true:=by rw[ax hi];exact h.ok _ (List.getElem_mem hi)
end Go.Al
