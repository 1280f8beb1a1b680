/- Numbers, nodes and proofs as texts: plain Lean, the readers, walked; what the package-level variables hold. -/
import Derived.Test.YtlofbdghppgnbaaDoorE
import Derived.Test.YtlofbdghppgnbaaDoorH
import Derived.Test.YtlofbdghppgnbaaDoorTie
import Derived.Test.YtlofbdghppgnbaaDoorCards
import Derived.ProofKit
import Derived.OpenShut
import Derived.LaidMore
import Derived.LaidLaws
import Derived.Lay
import Derived.SevenTiedAt
import Derived.Shelf.Vars
import Derived.Stop.Joined
import Derived.Stop.LaidErr
import Derived.Lib.ParseIntBTie
import Derived.Test.YtlofbdghppgnbaaDoorS
import Derived.WalkKit
import Derived.Deep.QuietTactic
import Derived.BigQuiet
set_option linter.unusedVariables false
set_option linter.unusedSimpArgs false
set_option maxRecDepth 10000
set_option maxHeartbeats 4000000
open Go.Proofs
/- What the rows of the texts share: what the package-level variables hold in every world that a row ranges over. -/
namespace Go.Proofs.YtlofbdghppgnbaaDoor
open Go.ChangeShapes Go.WideShapes Go.ChangeAt Go.RowKit Go.Al
theorem wrapLaid{H:Type}{enc:TypeId×Value→H}{a:Assume}{C:Checked}{os:Os}{f:FuncId}{fn:Func}{s:ChangeSpec}{conds:List PathCond}{apart fresh handsOn again:Bool}{X:World→Array Value→Prop}
    (hX: ∀(w w':World) (args:Array Value),w.heap=w'.heap→X w args→X w' args)
    (own:ownKnob C.prog.godebug=none) (started:os.Started) (noInit:C.prog.inits.idxOf? f=none) (hfn:C.prog.funcs[f]? = some fn)
    (witness: ∃(w:World) (tape:Tape) (i:Input),w.os=os∧(w.forCall tape i).Shaped C.prog∧i.vars=[]∧Input.okWide C.prog (w.forCall tape i) .any w.heap.size f i∧
      ((s.pre enc C.prog fn conds apart (w.forCall tape i).memory i.args∧X (w.forCall tape i).memory i.args)∧sizedMet enc C.prog fn (OpenSpec.ofChange s) apart (w.forCall tape i).memory i.args)∧a.holds C.prog (lone (Frame.enter C.prog f i.args .normal) [] (w.forCall tape i)))
    (contract: ∀(W:World) (base:Nat) (args:Array Value) (ds gs:List (DataW H)) (before:List MemPlace),
      (∀(j:Nat) t v,fn.params[j]? = some t→args[j]? = some v→Value.okWide C.prog W .any base t v)→
      DataW.Whole enc C.prog fn.params.toList s.vars apart W args.toList ds gs before→X W args→W.ShapedOpen C.prog→
      Calls C.prog f args W fun e W'=> ∃v,e= .returned v∧s.post enc C.prog fn apart fresh handsOn again W args v W') :
    ReturnsInHanded a C os f .any (fun w args=>(s.pre enc C.prog fn conds apart w args∧X w args)∧sizedMet enc C.prog fn (OpenSpec.ofChange s) apart w args) (s.post enc C.prog fn apart fresh handsOn again):=by
 refine returnsInHanded_of_calls own started noInit witness ?_
 intro w tape i _ hsh _ hok hpre hholds
 obtain⟨_,_,_,fn',hfn',_,_,_,_,hval⟩:=hok
 have e:fn'=fn:=Option.some.inj (hfn'.symm.trans hfn)
 subst e
 obtain⟨⟨⟨ds,gs,before,hw,hc⟩,hx⟩,hz⟩:=hpre
 have hw':=DataW.Whole.of_heap (w':=w.forCall tape i) (by rfl) hw
 refine(contract (w.forCall tape i) w.heap.size i.args ds gs before hval hw' (hX _ _ _ (by rfl) hx) hsh).mono fun e W' ⟨v,he,hp⟩=>?_
 subst he
 exact ChangeSpec.post_blind hp
theorem gb{P:Program}{w:World}: ∀{l:List (String×DataW Unit)} {ps:List MemPlace},DataW.LaidVars P w l ps→∀{x:String×DataW Unit},x∈l→
    ∃g t cs fuel p,P.globalNamed x.1=some g∧(P.globals[g]?).map (·.type)=some t∧w.var? P x.1=some cs∧DataW.trod (fun _=>()) P w 0 (fun _=>true) false fuel t cs.toList=some (x.2,p)
 | [],_,_,_,h=>by cases h
 | (n,d)::l,_,h,x,hx=>by
  obtain⟨g,t,cs,fuel,p,q,hg,ht,hv,hd,hr,_⟩:=h
  rcases List.mem_cons.1 hx with rfl|hx
  exact⟨g,t,cs,fuel,p,hg,ht,hv,hd⟩
  exact gb hr hx
theorem oe{P:Program}{w:World}{n:Nat}{t e:TypeId}{fuel:Nat}{cs:Array Value}{zs:List Int}{p:List MemPlace}(ht:P.underlying t=some (.array n e))(he:P.underlying e=some (.int .u64))(hc:P.cellsOf t=n)(hce:P.cellsOf e=1)(hn:zs.length=n)
    (hd:DataW.trod (fun _:TypeId×Value=>()) P w 0 (fun _=>true) false fuel t cs.toList=some (.agg (zs.map fun z=>.lit (.int .u64 z)),p)):cs=(zs.map fun z=>Value.int .u64 z).toArray:=by
 obtain⟨xs,m,_,ex,hl,hxs,hel⟩:=DataW.trod_array ht hd
 have e3:(xs.map (·.1))=zs.map fun z=>.lit (.int .u64 z):=(DataW.agg.inj (Prod.mk.inj ex).1).symm
 have key:cs.toList=zs.map fun z=>Value.int .u64 z:=by
  refine List.ext_getElem (by simp[hl,hc,hn]) fun i h1 h2=>?_
  have hi:i<n:=by simpa[hn]using h2
  have hE:=hel i hi
  rw[hce,Nat.mul_one,List.getElem?_eq_getElem (by omega)]at hE
  obtain⟨z,e1,e2,_⟩:=DataW.trod_int he hE
  have e4:(xs.map (·.1))[i]? = (zs.map fun z=>(DataW.lit (.int .u64 z):DataW Unit))[i]? := by rw[e3]
  rw[List.getElem?_map,List.getElem?_map,List.getElem?_eq_getElem (by omega:i<xs.length),List.getElem?_eq_getElem (by omega:i<zs.length),e2]at e4
  simp only[Option.map_some,dc,DataW.lit.injEq,Lit.int.injEq,true_and]at e4
  have h0:((cs.toList.drop i).take 1)[0]? = some (.int .u64 z):=by rw[e1];rfl
  have h3:cs.toList[i]? = some (.int .u64 z):=by simpa using h0
  rw[List.getElem?_eq_getElem h1]at h3
  rw[Option.some.inj h3,e4,List.getElem_map]
 rw[←key]
theorem mf:(Rows.laid_internal_strconv_uint64pow10:DataW Unit)= .agg (Lib.pow10Tab.map fun z=>.lit (.int .u64 z)):=by kernel_rfl
end Go.Proofs.YtlofbdghppgnbaaDoor
/- The package-level variables of the rows that list four of them. -/
namespace Go.Proofs.YtlofbdghppgnbaaDoor
open Go.ChangeShapes Go.WideShapes Go.ChangeAt Go.RowKit Go.Al
theorem m1: "*" ++ "errors.errorString" = "*errors.errorString" := by decide
theorem oU(u:TypeId)(h:Tryd.prog.typeName? 3 u=some "*errors.errorString"):u=176:=
  typeName_ptr_named (nm:= "errors.errorString") (by rw[m1];kernel_rfl) (by kernel_rfl) (by decide) u (by rw[m1];exact h)
theorem mn{W:World}{r:List (String×DataW Unit)}(h:laidMet Tryd.prog (("strconv.ErrRange",Rows.laid_strconv_ErrRange)::r) W): ∃cs,W.var? Tryd.prog "strconv.ErrRange" = some cs∧∃te pe,cs[0]? = some (Value.iface te pe):=by
 obtain⟨a,s,hv,_⟩:=laid_sentinel h (show Tryd.prog.globalNamed "strconv.ErrRange" = some 5 by kernel_rfl) (show(Tryd.prog.globals[5]?).map (·.type)=some 135 by kernel_rfl) Tryd.underlying135 oU Tryd.underlying176 Tryd.underlying178 rfl rfl Tryd.underlying9 (by kernel_rfl) (by kernel_rfl)
 exact⟨_,hv,_,_,Z⟩
theorem k0{W:World}{r:List (String×DataW Unit)}(h:laidMet Tryd.prog (("strconv.ErrSyntax",Rows.laid_strconv_ErrSyntax)::r) W): ∃cs,W.var? Tryd.prog "strconv.ErrSyntax" = some cs∧∃te pe,cs[0]? = some (Value.iface te pe):=by
 obtain⟨a,s,hv,_⟩:=laid_sentinel h (show Tryd.prog.globalNamed "strconv.ErrSyntax" = some 4 by kernel_rfl) (show(Tryd.prog.globals[4]?).map (·.type)=some 135 by kernel_rfl) Tryd.underlying135 oU Tryd.underlying176 Tryd.underlying178 rfl rfl Tryd.underlying9 (by kernel_rfl) (by kernel_rfl)
 exact⟨_,hv,_,_,Z⟩
theorem gok4{W:World}{laid r1 r2:List (String×DataW Unit)}(hl:laidMet Tryd.prog laid W)(hm:("internal/strconv.uint64pow10",Rows.laid_internal_strconv_uint64pow10)∈laid)(hR:laidMet Tryd.prog (("strconv.ErrRange",Rows.laid_strconv_ErrRange)::r1) W)(hS:laidMet Tryd.prog (("strconv.ErrSyntax",Rows.laid_strconv_ErrSyntax)::r2) W)(hs:W.ShapedOpen Tryd.prog):GOk Tryd.prog W okAll:=by
 intro n g hn hg
 refine⟨trivial,?_⟩
 simp only[GN,List.mem_cons,List.mem_nil_iff,or_false]at hn
 rcases hn with rfl|rfl|rfl|rfl
 obtain⟨ps,hv,_,_⟩:=hl
 obtain⟨g',t,cs,fuel,p,hg',ht,hv,hd⟩:=gb hv (x:=("internal/strconv.uint64pow10",Rows.laid_internal_strconv_uint64pow10)) hm
 obtain rfl:=Option.some.inj ((show Tryd.prog.globalNamed "internal/strconv.uint64pow10" = some 1 by kernel_rfl).symm.trans hg')
 obtain rfl:=Option.some.inj ((show(Tryd.prog.globals[1]?).map (·.type)=some 162 by kernel_rfl).symm.trans ht)
 refine⟨cs,hv,fun _=>?_,fun h=>absurd h (by simp),fun h=>absurd h (by simp)⟩
 refine oe (n:=20) (e:=87) Tryd.underlying162 Tryd.underlying87 (by kernel_rfl) (by kernel_rfl) Lib.pow10Tab_length (p:=p) (fuel:=fuel) (P:=Tryd.prog) (w:=W) ?_
 rw[←mf]
 exact hd
 obtain rfl:=Option.some.inj ((show Tryd.prog.globalNamed "internal/bytealg.MaxLen" = some 0 by kernel_rfl).symm.trans hg)
 obtain⟨m,hm⟩:=cell_of_shapedOpen_int (k:=.i64) (g:=0) (t:=3) (zero:= #[.int .i64 0]) hs (bf (by kernel_rfl)) (by kernel_rfl) rfl (by kernel_rfl) (by kernel_rfl) Tryd.underlying3
 have hm':=hm
 unfold World.cell? at hm'
 unfold World.var?
 rw[hg,Option.bind_some]
 cases hb:W.heap[0]? with
 | none=>simp[hb]at hm'
 | some o=>
  cases o with
  | cells cs c d=>exact⟨cs,Z,fun h=>absurd h (by simp),fun _=>⟨m,by simpa[hb]using hm'⟩,fun h=>absurd h (by simp)⟩
  | _=>simp[hb]at hm'
 obtain⟨cs,hv,te,pe,hc⟩:=k0 hS
 exact⟨cs,hv,fun h=>absurd h (by simp),fun h=>absurd h (by simp),fun _=>⟨_,hc,.inr ⟨te,pe,Z⟩⟩⟩
 obtain⟨cs,hv,te,pe,hc⟩:=mn hR
 exact⟨cs,hv,fun h=>absurd h (by simp),fun h=>absurd h (by simp),fun _=>⟨_,hc,.inr ⟨te,pe,Z⟩⟩⟩
end Go.Proofs.YtlofbdghppgnbaaDoor
/- Numbers read from their decimal texts; nodes and proofs read from their texts: plain Lean. -/
namespace Go.Al
variable{L:Nat}(h1:4096≤L)(h2:L≤1073741824)
open Go.Lib
theorem oz(m:Nat): ∀(acc:Nat) (r:Str),acc*10^nDigits m+m≤1000000000000000000→parseUintM 18446744073709551615 acc (decDigits m++r)=parseUintM 18446744073709551615 (acc*10^nDigits m+m) r:=by
 induction m using Nat.strongRecOn with
 | _ m ih=>
  intro acc r h
  by_cases hm:m<10
  rw[nDigits_small hm]at h ⊢
  rw[decDigits,dif_pos hm,List.singleton_append,parseUintM,bq hm,if_pos (by omega),if_neg (by omega),if_neg (by omega)]
  congr 1;omega
  rw[nDigits_big hm,Nat.pow_succ,←Nat.mul_assoc]at h ⊢
  have hd:m%10<10:=Nat.mod_lt _ (by decide)
  rw[decDigits,dif_neg hm,cM,List.singleton_append,ih (m/10) (by omega) acc _ (by omega),parseUintM,bq hd,if_pos (by omega),if_neg (by omega),if_neg (by omega)]
  congr 1;omega
theorem lS{m:Nat}(h:m≤1000000000):parseUintB 64 (decDigits m)= .ok m:=by
 have h1:=oz m 0 [] (by omega)
 rw[List.append_nil,Nat.zero_mul,Nat.zero_add]at h1
 unfold parseUintB
 rw[if_neg (cp m),show 2^64-1=18446744073709551615 from Z,h1];rfl
theorem nE{n:Int}(h: -1000000000≤n∧n≤1000000000):parseIntB 64 (itoa n)= .ok n:=by
 unfold itoa
 by_cases hn:n<0
 rw[if_pos hn,parseIntB_minus,lS (by omega)]
 unfold signedC
 simp only
 rw[if_neg (by simp;omega)]
 congr 1;omega
 rw[if_neg hn]
 obtain⟨b,r,hb,hd⟩:=fB n.toNat []
 rw[List.append_nil]at hb
 have hd':48≤b.toNat∧b.toNat≤57:=by unfold fJ at hd;simpa using hd
 have hp:=lS (m:=n.toNat) (by omega)
 rw[hb]at hp
 rw[hb,parseIntB_plain _ _ _ (by omega) (by omega),hp]
 unfold signlessC
 simp only
 rw[if_neg (by simp;omega)]
 congr 1;omega
def cJ(s:Str):Option Int:=match parseIntB 64 s with
  | .ok v=>if(-1000000000≤v∧v≤1000000000)∧itoa v=s then some v else none
  | _=>none
theorem gt(s:Str)(n:Int):cJ s=some n↔(-1000000000≤n∧n≤1000000000)∧s=itoa n:=by
 constructor
 intro h
 unfold cJ at h
 split at h
 split at h
 rename_i h2;cases h;exact⟨h2.1,h2.2.symm⟩
 cases h
 cases h
 rintro⟨h,rfl⟩
 unfold cJ
 rw[nE h]
 exact if_pos ⟨h,Z⟩
def fI:Int→Str→Int
  | n,[]=>n
  | n,b::r=>fI (if fJ b then 10*n+(b.toNat-48:Int)else n) r
theorem jz: ∀(p r:Str) (n:Int),fI n (p++r)=fI (fI n p) r
 | [],_,_=>rfl
 | b::p,r,n=>by rw[List.cons_append,fI,jz p r,fI]
theorem lW(m:Nat): ∀(n:Int),fI n (decDigits m)=n*(10^nDigits m:Nat)+m:=by
 induction m using Nat.strongRecOn with
 | _ m ih=>
  intro n
  by_cases h:m<10
  rw[decDigits,dif_pos h,nDigits_small h,fI,fI,if_pos (by unfold fJ;rw[bq h];simp;omega),bq h]
  simp;omega
  have hd:m%10<10:=Nat.mod_lt _ (by decide)
  rw[nDigits_big h,decDigits,dif_neg h,jz,ih (m/10) (by omega),fI,fI,if_pos (by unfold fJ;rw[bq hd];simp;omega),bq hd,Nat.pow_succ,Int.natCast_mul]
  have:(m:Int)=10*((m/10:Nat):Int)+((m%10:Nat):Int):=by omega
  generalize (10^nDigits (m/10):Nat)=p at *
  have e:10*(n*(p:Int))=n*((p:Int)*((10:Nat):Int)):=by
   rw[show((10:Nat):Int)=10 from Z,Int.mul_comm 10 (n*_),Int.mul_assoc]
  rw[Int.mul_add,e]
  omega
def nV(s:Str):Int:=if s.head? = some 45 then -(fI 0 s)else fI 0 s
def kC(s:Str):Option Int:=if 11<s.length then none else if(-1000000000≤nV s∧nV s≤1000000000)∧itoa (nV s)=s then some (nV s)else none
theorem oD{n:Int}(h: -1000000000≤n∧n≤1000000000):(itoa n).length≤11:=by
 have key: ∀m:Nat,m≤1000000000→(decDigits m).length≤10:=fun m hm=>by
  rw[decDigits_eq,cz,List.length_range]
  exact dP (k:=9) (by omega)
 unfold itoa
 split
 have:=key n.natAbs (by omega);rw[er];omega
 have:=key n.toNat (by omega);omega
theorem nx{n:Int}:nV (itoa n)=n:=by
 unfold itoa nV
 by_cases hn:n<0
 rw[if_pos hn,List.head?_cons,if_pos Z,fI,if_neg (by decide),lW];omega
 rw[if_neg hn]
 obtain⟨b,r,hb,hd⟩:=fB n.toNat []
 rw[List.append_nil]at hb
 have hd':48≤b.toNat∧b.toNat≤57:=by unfold fJ at hd;simpa using hd
 rw[if_neg,lW]
 omega
 rw[hb,List.head?_cons]
 intro h
 have:=Option.some.inj h
 subst this
 revert hd';decide
theorem lK(s:Str)(n:Int):kC s=some n↔(-1000000000≤n∧n≤1000000000)∧s=itoa n:=by
 constructor
 intro h
 unfold kC at h
 split at h
 cases h
 split at h
 rename_i h2;cases h;exact⟨h2.1,h2.2.symm⟩
 cases h
 rintro⟨h,rfl⟩
 unfold kC
 have:=oD h
 rw[if_neg (by omega),nx,if_pos ⟨h,rfl⟩]
theorem lp(s:Str):cJ s=kC s:=by
 cases h:cJ s with
 | some n=>exact((lK s n).2 ((gt s n).1 h)).symm
 | none=>
  cases h2:kC s with
  | none=>rfl
  | some n=>rw[(gt s n).2 ((lK s n).1 h2)]at h;cases h
theorem kN: ∀(p:Str) (n:Int),0≤n→0≤fI n p∧fI n p<(n+1)*10^p.length
 | [],n,h=>by simp only[fI,List.length_nil];omega
 | b::r,n,h=>by
  rw[fI,er,Int.pow_succ]
  by_cases hb:fJ b=true
  rw[if_pos hb]
  have hd':48≤b.toNat∧b.toNat≤57:=by unfold fJ at hb;simpa using hb
  have:=kN r (10*n+(b.toNat-48:Int)) (by omega)
  refine⟨this.1,Int.lt_of_lt_of_le this.2 ?_⟩
  rw[Int.mul_comm (10^r.length) 10,←Int.mul_assoc]
  exact Int.mul_le_mul_of_nonneg_right (by omega) (Int.pow_nonneg (by decide))
  rw[if_neg hb]
  have:=kN r n h
  refine⟨this.1,Int.lt_of_lt_of_le this.2 ?_⟩
  rw[Int.mul_comm (10^r.length) 10,←Int.mul_assoc]
  exact Int.mul_le_mul_of_nonneg_right (by omega) (Int.pow_nonneg (by decide))
theorem nk{p:Str}(h:p.length≤11):0≤fI 0 p∧fI 0 p<100000000000:=by
 have h1:=kN p 0 (by omega)
 refine⟨h1.1,Int.lt_of_lt_of_le h1.2 ?_⟩
 rw[Int.zero_add,Int.one_mul]
 have h2:(10:Nat)^p.length≤10^11:=Nat.pow_le_pow_right (by decide) h
 have h3:((10:Int))^p.length=((10^p.length:Nat):Int):=by rw[Int.natCast_pow];rfl
 rw[h3]
 omega
end Go.Al
/- Nodes and proofs read from their texts: plain Lean. -/
namespace Go.Al
variable{L:Nat}(h1:4096≤L)(h2:L≤1073741824)
open Go.Lib
abbrev mF:Nd:=⟨0,0,⟨0,[]⟩,[]⟩
abbrev qk(ms:List Int):Nd:=⟨1,0,⟨0,[]⟩,ms⟩
abbrev qj(t:Tm):Nd:=⟨2,0,t,[]⟩
abbrev ql(n:Int):Nd:=⟨3,n,⟨0,[]⟩,[]⟩
def dY:Option Int→Int×Bool
  | none=>(0,false)
  | some n=>(n,true)
def iv(r:Str):Option (List Int):=if r=[]then some []else aI cJ (aC 44 r)
def iu(s:Str):Nd×Bool:=
  if s=[]then(mF,false)
  else if s.getD 0 0=99 then(match iv (s.drop 1)with
    | none=>(mF,false)
    | some ms=>(qk ms,true))
  else if s.getD 0 0=115 then(qj (fo (fj (s.drop 1))).1,(fo (fj (s.drop 1))).2)
  else if s.getD 0 0=116 then(ql (dY (cJ (s.drop 1))).1,(dY (cJ (s.drop 1))).2)
  else(mF,false)
def iy:List Str→List Int
  | []=>[]
  | p :: r=>match cJ p with
    | none=>[]
    | some n=>n::iy r
def gm(s:Str):Nd×Bool:=
  if s=[]then(mF,false)
  else if s.getD 0 0=99 then(qk (if s.drop 1=[]then[]else iy (aC 44 (s.drop 1))),(iv (s.drop 1)).isSome)
  else if s.getD 0 0=115 then(match fj (s.drop 1)with
    | none=>(mF,false)
    | some t=>(qj t,true))
  else if s.getD 0 0=116 then(match cJ (s.drop 1)with
    | none=>(mF,false)
    | some n=>(ql n,true))
  else(mF,false)
def fH(s:Str):Option Nd:=if(iu s).2 then some (iu s).1 else none
theorem gM: ∀{ps:List Str} {ms:List Int},aI cJ ps=some ms→iy ps=ms
 | [],ms,h=>by rw[aI]at h;cases h;rfl
 | p::r,ms,h=>by
  rw[aI]at h
  rw[iy]
  split at h
  cases h
  rename_i t ht
  rw[ht]
  split at h
  cases h
  rename_i ts hts
  cases h
  simp only
  rw[gM hts]
theorem j0: ∀{a b:List Str} {x:Str} {ms:List Int},aI cJ a=some ms→cJ x=none→iy (a++x::b)=ms
 | [],b,x,ms,h,hx=>by rw[aI]at h;cases h;rw[List.nil_append,iy,hx]
 | p::r,b,x,ms,h,hx=>by
  rw[aI]at h
  rw[List.cons_append,iy]
  split at h
  cases h
  rename_i t ht
  rw[ht]
  split at h
  cases h
  rename_i ts hts
  cases h
  simp only
  rw[j0 hts hx]
theorem pM(s:Str):(gm s).2=(iu s).2∧((gm s).2=true→(gm s).1=(iu s).1):=by
 unfold gm iu
 split
 exact⟨Z,fun _=>rfl⟩
 split
 cases h:iv (s.drop 1)with
 | none=>exact⟨Z,fun h2=>absurd h2 (by simp)⟩
 | some ms=>
  refine⟨Z,fun _=>?_⟩
  unfold iv at h
  simp only
  split at h
  rename_i h2;cases h;rw[if_pos h2]
  rename_i h2;rw[if_neg h2,gM h]
 split
 cases h:fj (s.drop 1)with
 | none=>exact⟨Z,fun h2=>absurd h2 (by simp)⟩
 | some t=>exact⟨Z,fun _=>rfl⟩
 split
 cases h:cJ (s.drop 1)with
 | none=>exact⟨Z,fun h2=>absurd h2 (by simp)⟩
 | some t=>exact⟨Z,fun _=>rfl⟩
 exact⟨Z,fun _=>rfl⟩
theorem pc(s:Str):fH s=if(gm s).2 then some (gm s).1 else none:=by
 obtain⟨h1,h2⟩:=pM s
 unfold fH
 rw[←h1]
 cases h:(gm s).2 with
 | true=>rw[if_pos Z,if_pos Z,h2 h]
 | false=>rfl
def aH(c:UInt8):List Str→Str
  | []=>[]
  | [p]=>p
  | p::q::r=>p++c::aH c (q::r)
theorem jc(c:UInt8): ∀(ps:List Str) (q:Str),aH c (ps++[q])=gD c ps++q
 | [],q=>rfl
 | [p],q=>by simp[aH,gD]
 | p::p2::r,q=>by
  have:=jc c (p2::r) q
  rw[List.cons_append]at this
  rw[List.cons_append,List.cons_append,aH,this,gD];simp[gD]
theorem nh(c:UInt8)(s:Str):aH c (aC c s)=s:=by
 obtain⟨ps,q,h1,h2,_,_⟩:=jT c s
 rw[h1,jc,←h2]
theorem oC{c:UInt8}{xs:List Str}{y:Str}(h:xs≠[]):aH c (xs++[y])=aH c xs++c::y:=by
 rw[jc]
 obtain⟨ps,q,rfl⟩: ∃ps q,xs=ps++[q]:=⟨xs.dropLast,xs.getLast h,(List.dropLast_concat_getLast h).symm⟩
 rw[jc]
 have: ∀(ps:List Str),gD c (ps++[q])=gD c ps++q++[c]:=by
  intro ps
  induction ps with
  | nil=>simp[gD]
  | cons p r ih=>rw[List.cons_append,gD,ih,gD];simp
 rw[this];simp
theorem ni{c:UInt8}: ∀{xs:List Str} {i:Nat},(aH c (xs.take i)).length≤(aH c xs).length
 | [],i=>by simp
 | p::r,0=>by simp[aH]
 | [p],i+1=>by simp
 | p::q::r,1=>by simp[aH]
 | p::q::r,i+2=>by
  have:=ni (c:=c) (xs:=q::r) (i:=i+1)
  rw[List.take_succ_cons]at this
  rw[List.take_succ_cons,List.take_succ_cons,aH,aH]
  simp only[cS,er];omega
def bu(x:Nd):Str:=if x.kind=1 then 99::aH 44 (x.mul.map itoa)else if x.kind=2 then 115::tS x.term else if x.kind=3 then 116::itoa x.fact else[]
def qo(n:Int):Bool:=decide (-1000000000≤n)&&decide (n≤1000000000)
theorem ny(s:Str)(n:Int):cJ s=some n↔qo n=true∧s=itoa n:=by
 rw[gt];unfold qo;simp
structure NdR(x:Nd):Prop where
  kind:x.kind=1∨x.kind=2∨x.kind=3
  fact: -1000000000≤x.fact∧x.fact≤1000000000
  term:x.term.ok=true
  mul: ∀m∈x.mul,-1000000000≤m∧m≤1000000000
theorem fU{s:Str}(h:s≠[]):s=s.getD 0 0::s.drop 1:=by
 cases s with
 | nil=>exact absurd Z h
 | cons b r=>rfl
theorem oQ:Tm.ok ⟨0,[]⟩=true:=by decide
theorem nA{s:Str}{x:Nd}(h:fH s=some x):s=bu x∧NdR x:=by
 unfold fH at h
 cases hb:(iu s).2 with
 | false=>rw[hb]at h;cases h
 | true=>
  rw[hb,if_pos Z]at h
  have h:=Option.some.inj h
  unfold iu at h hb
  have h2:=hb
  split at h2
  cases h2
  rename_i hs
  rw[if_neg hs]at h
  split at h2
  rename_i h99
  rw[if_pos h99]at h
  cases hm:iv (s.drop 1)with
  | none=>rw[hm]at h2;cases h2
  | some ms=>
   rw[hm]at h
   subst h
   have key:s.drop 1=aH 44 (ms.map itoa)∧∀m∈ms,qo m=true:=by
    unfold iv at hm
    split at hm
    rename_i h9;cases hm;exact⟨h9,by simp⟩
    obtain⟨q1,q2⟩:=(fR (ok:=qo) (tx:=itoa) ny).1 hm
    exact⟨by rw[←q2,nh],q1⟩
   refine⟨?_,⟨.inl Z,by simp,oQ,fun m hm=>by have:=key.2 m hm;unfold qo at this;simpa using this⟩⟩
   show s=if(1:Int)=1 then _ else _
   rw[if_pos Z,←key.1,←h99]
   exact fU hs
  rename_i h99
  rw[if_neg h99]at h
  split at h2
  rename_i h115
  rw[if_pos h115]at h
  cases hm:fj (s.drop 1)with
  | none=>rw[hm]at h2;cases h2
  | some t=>
   rw[hm]at h
   subst h
   obtain⟨q1,q2⟩:=(jm _ _).1 hm
   refine⟨?_,⟨.inr (.inl Z),by simp,q1,by simp⟩⟩
   show s=if(2:Int)=1 then _ else if(2:Int)=2 then _ else _
   rw[if_neg (by decide),if_pos Z,show(fo (some t)).1=t from Z,←q2,←h115]
   exact fU hs
  rename_i h115
  rw[if_neg h115]at h
  split at h2
  rename_i h116
  rw[if_pos h116]at h
  cases hm:cJ (s.drop 1)with
  | none=>rw[hm]at h2;cases h2
  | some n=>
   rw[hm]at h
   subst h
   obtain⟨q1,q2⟩:=(gt _ _).1 hm
   refine⟨?_,⟨.inr (.inr Z),q1,oQ,by simp⟩⟩
   show s=if(3:Int)=1 then _ else if(3:Int)=2 then _ else if(3:Int)=3 then _ else _
   rw[if_neg (by decide),if_neg (by decide),if_pos Z,show(dY (some n)).1=n from Z,←q2,←h116]
   exact fU hs
  cases h2
def rP(t:Str):Option (List Nd):=match aI fH (aC 47 t)with
  | none=>none
  | some p=>if mH p=true then some p else none
theorem f4: ∀{ss:List Str} {p:List Nd},aI fH ss=some p→ss=p.map bu∧∀x∈p,NdR x
 | [],p,h=>by rw[aI]at h;cases h;simp
 | s::r,p,h=>by
  rw[aI]at h
  split at h
  cases h
  rename_i t ht
  split at h
  cases h
  rename_i ts hts
  cases h
  obtain⟨h1,h2⟩:=nA ht
  obtain⟨h3,h4⟩:=f4 hts
  refine⟨by rw[h3,h1];rfl,fun x hx=>?_⟩
  rcases List.mem_cons.1 hx with rfl|hx
  exact h2
  exact h4 x hx
theorem rP_text{t:Str}{p:List Nd}(h:aI fH (aC 47 t)=some p):aH 47 (p.map bu)=t∧∀x∈p,NdR x:=by
 obtain⟨h1,h2⟩:=f4 h
 exact⟨by rw[←h1,nh],h2⟩
abbrev n8(r:Option Int):A:=.tup [eI (dY r).1,eB (dY r).2]
theorem oE{s:Str}{i:Nat}(h:i<s.length):fI 0 (s.take (i+1))=if 48≤bt s i∧bt s i≤57 then 10*fI 0 (s.take i)+(bt s i-48)else fI 0 (s.take i):=by
 have e:s[i]=s.getD i 0:=by simp[h]
 rw[List.take_succ_eq_append_getElem h,jz,e,fI,fI]
 by_cases h2:48≤bt s i∧bt s i≤57
 rw[if_pos h2,if_pos (by rw[gI];simp[h2.1,h2.2])]
 rw[if_neg h2,if_neg (jd h2)]
theorem rJ{s:Str}:s.head? = some 45↔0<s.length∧bt s 0=45:=by
 cases s with
 | nil=>simp
 | cons b r=>
  have h:bt (b::r) 0=45↔b=45:=fp (b:=b) (n:=45) (by decide)
  rw[h];simp
theorem pH{s:Str}{n:Int}{k:Bool}(h:(bif !k then true else !decide (Lib.itoa n=s))=true)(hk:k=(decide (-1000000000≤n)&&decide (n≤1000000000))): ¬((-1000000000≤n∧n≤1000000000)∧Lib.itoa n=s):=by
 rintro⟨⟨h1,h2⟩,h3⟩
 rw[hk]at h
 simp[h1,h2,h3]at h
theorem pG{s:Str}{n:Int}{k:Bool}(h: ¬(bif !k then true else !decide (Lib.itoa n=s))=true)(hk:k=(decide (-1000000000≤n)&&decide (n≤1000000000))):(-1000000000≤n∧n≤1000000000)∧Lib.itoa n=s:=by
 subst hk
 by_cases h1: -1000000000≤n<;>by_cases h2:n≤1000000000<;>by_cases h3:Lib.itoa n=s<;>simp_all
theorem pi{s:Str}:MQ h1 h2 81 [aS8 s] [] (Plain (n8 (kC s))):=by
 refine MC.data (jB 53 h1 h2 Tryd.func81 Z fun O hF=>?_)
 refine ac (ae Z (jn (ag (ac (js Z (aa (aV (p:=s) O Z Z Z Z Z Z Z Z Z) Z (js Z (jf [8,3,2,0] Z (jn (ak Z (fun z8=>?_) (fun z8=>?_)))))))))))
 refine ac (ae Z (jr ?_))
 refine az Z ?_
 rw[show kC s=none from if_pos (by have:=bf z8;omega)]
 exact .tup (.cons (.c .d) (.cons (.c .d) .nil))
 refine af (ac ?_)
 have hs11:s.length≤11:=by have:=bB z8;omega
 refine js Z (jn (ag (ac (js Z (jn (am (ax (X:=Nat×Int) (fun z=>⟨[(0,aS8 s),(4,eI z.2),(5,eI (z.1:Nat))],[]⟩) (fun z=>z.1≤s.length∧z.2=fI 0 (s.take z.1)) (fun z=>s.length-z.1) (0,0) (Ent.to ⟨Z,Z,Z,aq⟩ Z) ?_ (fun z hi=>?_))))))))
 exact⟨dU _,Z⟩
 refine ag (ac (ae Z (aa (aV (p:=s) O Z Z Z Z Z Z Z Z Z) Z (js Z (jf [12,0,4,5] Z (jn (ak Z (fun z12=>?_) (fun z12=>?_))))))))
 refine af (ag (am (ac (ae Z ?_))))
 have hz0:z.1<s.length:=by have:=bf z12;omega
 have hzb:=nk (p:=s.take z.1) (by rw[List.length_take];omega)
 rw[←hi.2]at hzb
 have hby:0≤((s.getD z.1 0).toNat:Int)∧((s.getD z.1 0).toNat:Int)≤255:=iE s z.1
 refine aa (aw (p:=s) (b:=s.getD z.1 0) O Z Z Z Z Z Z Z (by omega) (aS hz0)) Z (ae Z (jf [19,12,0,4,5] Z (ar 4 Z Z Z (fun hx=>ap hx Z (ap hx Z (bg hx (aw (p:=s) (b:=s.getD z.1 0) O Z Z Z Z Z Z Z (by omega) (aS hz0)) Z (ap hx Z (AN.nil))))) Z Z ?_)))
 first|refine aa (aj O Z Z Z Z Z) Z ?_|refine aa (ao O Z Z Z Z Z) Z ?_|refine aa (Val.pickB O Z Z Z Z Z) Z ?_
 refine jf [24,12,0,4,5] Z (jn ?_)
 obtain⟨n1,hn1⟩: ∃n1:Int,n1=if 48≤((s.getD z.1 0).toNat:Int)∧((s.getD z.1 0).toNat:Int)≤57 then 10*z.2+(((s.getD z.1 0).toNat:Int)-48)else z.2:=⟨_,rfl⟩
 refine bk ⟨[(0,aS8 s),(4,eI n1),(5,eI (z.1:Nat))],[]⟩ ?_ ?_
 refine ak Z (fun z24=>?_) (fun z24=>?_)
 refine ab (js Z (aa (aM O Z Z (by omega) (by omega)) Z (ae Z ?_)))
 have h2:=rE.1 z24
 refine aa (aw (p:=s) (b:=s.getD z.1 0) O Z Z Z Z Z Z Z (by omega) (aS hz0)) Z (aa (cm (k:=.u8) (n:=((s.getD z.1 0).toNat:Int)-48) O Z Z (by show(0:Int)≤_;omega) (by show _≤(255:Int);omega)) Z (aa ((Val.conv (b:=true) (dt:=.int .u8) O Z Z Z (by kernel_rfl) (by kernel_rfl)).cast (v':=eI (((s.getD z.1 0).toNat:Int)-48)) (by rw[cP .i64 _ (by show(-9223372036854775808:Int)≤_;omega) (by show _≤(9223372036854775807:Int);omega)])) Z (aa (aM O Z Z (by omega) (by omega)) Z (js Z (jf [4,24,12,0,5] Z (jn ?_))))))
 have h2:=rE.1 z24
 exact⟨Z,Ent.to ⟨Z,congrArg (fun z=>some (eI z)) (show 10*z.2+(((s.getD z.1 0).toNat:Int)-48)=n1 by rw[hn1,if_pos h2]),Z,aq⟩ Z⟩
 refine af ?_
 have h2:=fL z24 rE
 exact⟨Z,Ent.to ⟨Z,congrArg (fun z=>some (eI z)) (show z.2=n1 by rw[hn1,if_neg h2]),Z,aq⟩ Z⟩
 refine ab (js Z ?_)
 first|refine ji Z ?_|refine bv Z Z ?_
 refine js Z (jf [5,0,4] Z (jn ?_))
 refine⟨(z.1+1,n1),Ent.to ⟨Z,Z,Z,aq⟩ Z,⟨by show z.1+1≤_;omega,by show n1=fI 0 (s.take (z.1+1));rw[oE hz0,←hi.2];exact hn1⟩,by show s.length-(z.1+1)<s.length-z.1;omega⟩
 refine aZ (ag (ac (js Z ?_)))
 have hz1:z.1=s.length:=by have:=bB z12;omega
 have hz2:=hi.2
 rw[hz1,List.take_length]at hz2
 have hzb:=nk (p:=s) hs11
 refine aa (aV (p:=s) O Z Z Z Z Z Z Z Z Z) Z (ae Z (jf [36,12,0,4,5] Z (ar 3 Z Z Z (fun hx=>ap hx Z (bg hx (aw (p:=s) (b:=s.getD 0 0) O Z Z Z Z Z Z Z (by omega) (aS (i:=0) (by have:=oP hx;omega))) Z (ap hx Z (AN.nil)))) Z Z ?_)))
 first|refine aa (aj O Z Z Z Z Z) Z ?_|refine aa (ao O Z Z Z Z Z) Z ?_|refine aa (Val.pickB O Z Z Z Z Z) Z ?_
 refine jf [40,12,0,4,5] Z (jn ?_)
 obtain⟨n2,hn2⟩: ∃n2:Int,n2=nV s:=⟨_,rfl⟩
 have hn2b: -100000000000<n2∧n2<100000000000:=by rw[hn2,nV];split<;>omega
 refine bk ⟨[(0,aS8 s),(4,eI n2)],[]⟩ ?_ ?_
 refine ak Z (fun z40=>?_) (fun z40=>?_)
 refine ab (js Z (aa (aM O Z Z (by omega) (by omega)) Z (js Z (jf [4,40,12,0,5] Z (jn ?_)))))
 have h2:=rE.1 z40
 exact⟨Z,Ent.to ⟨Z,congrArg (fun z=>some (eI z)) (show 0-z.2=n2 by rw[hn2,nV,if_pos (rJ.2 ⟨by omega,h2.2⟩),←hz2];omega),aq⟩ Z⟩
 refine af ?_
 have h2:=fL z40 rE
 exact⟨Z,Ent.to ⟨Z,congrArg (fun z=>some (eI z)) (show z.2=n2 by rw[hn2,nV,if_neg (fun e=>h2 ⟨by have:=(rJ.1 e).1;omega,(rJ.1 e).2⟩),←hz2]),aq⟩ Z⟩
 refine ag (ac (js Z (cH Z (qq (x:=n2) (lo:= -1000000000) (hi:=1000000000) h1 h2) 45000 Z (ae Z (jf [46,0,4] Z (ar 4 Z Z Z (fun hx=>ap hx Z (bO O hx Z Z Z Z (lB (n:=n2) h1 h2 (by omega) (by omega)) (al Z) Z Z Z Z Z Z Z (B0:=49000) Z (ap hx Z (bg hx (dN (p:=Lib.itoa n2) (q:=s) O Z Z Z Z Z Z) Z (AN.nil))))) Z Z ?_))))))
 first|refine aa (ao O Z Z Z Z Z) Z ?_|refine aa (Val.pickB O Z Z Z Z Z) Z ?_|refine aa (aj O Z Z Z Z Z) Z ?_
 refine jf [51,0,4] Z (jn (ak Z (fun z51=>?_) (fun z51=>?_)))
 refine ac (ae Z (jr ?_))
 refine az Z ?_
 have h9:=pH z51 Z
 rw[hn2]at h9
 rw[show kC s=none by unfold kC;rw[if_neg (by omega),if_neg h9]]
 exact .tup (.cons (.c .d) (.cons (.c .d) .nil))
 refine af (ac (aP Z (jr ?_)))
 refine az Z ?_
 have h9:=pG (by rw[z51];simp) Z
 rw[show kC s=some n2 by rw[hn2]at h9 ⊢;unfold kC;rw[if_neg (by omega),if_pos h9]]
 exact .tup (.cons (.c .d) (.cons (.c .d) .nil))
theorem m4{c:UInt8}: ∀{p:Str},c ∉ p→aC c p=[p]
 | [],_=>rfl
 | b::r,h=>by
  rw[aC,if_neg (fun e=>h (by rw[e];exact List.mem_cons_self ..)),m4 (fun hh=>h (List.mem_cons_of_mem _ hh))];rfl
theorem pD{c:UInt8}{s:Str}{f i:Nat}(hf:f≤i)(hi:i<s.length)(hn:c ∉ (s.drop f).take (i-f))(hc:s.getD i 0=c):aC c (s.drop f)=(s.drop f).take (i-f)::aC c (s.drop (i+1)):=by
 have e:s.drop f=(s.drop f).take (i-f)++c::s.drop (i+1):=by
  conv=>lhs;rw[←List.take_append_drop (i-f) (s.drop f)]
  rw[List.drop_drop,show f+(i-f)=i by omega,bT hi,hc]
 conv=>lhs;rw[e]
 rw[lJ _ hn]
theorem oA{c:UInt8}{s:Str}{f i:Nat}(hf:f≤i)(hi:i<s.length)(hn:c ∉ (s.drop f).take (i-f))(hc: ¬s.getD i 0=c):c ∉ (s.drop f).take (i+1-f):=by
 have e:(s.drop f).take (i+1-f)=(s.drop f).take (i-f)++[s.getD i 0]:=by
  rw[show i+1-f=(i-f)+1 by omega,List.take_succ_eq_append_getElem (by rw[List.length_drop];omega),List.getElem_drop]
  simp[show f+(i-f)=i by omega,hi]
 rw[e]
 simp only[List.mem_append,List.mem_singleton,not_or]
 exact⟨hn,fun h=>hc h.symm⟩
theorem so{a b:UInt8}:((a.toNat:Int)=(b.toNat:Int))↔a=b:=by
 rw[Int.natCast_inj,UInt8.toNat_inj]
theorem pl{s:Str}{m:UInt8}(hs:s.length<L)(hs2:s.length≤1100000):MQ h1 h2 53 [aS8 s,.c (.d (.int .u8 (m.toNat:Int)))] [] (Plain (.c (.d (strs (aC m s))))):=by
 refine MC.data (jB 35 h1 h2 Tryd.func53 Z fun O hF=>?_)
 refine ac (js Z (bM (bc (HS.lit O Z Z Z) Z (aD ?_))))
 refine js Z (bM (js Z (jn (ag (ac (js Z (jn (am (ax (X:=Nat×Nat×List Str) (fun z=>⟨[(0,aS8 s),(1,.c (.d (.int .u8 (m.toNat:Int)))),(5,.c (.rs 900 0 z.2.2.length)),(6,eI (z.2.1:Nat)),(7,eI (z.1:Nat))],[(900,.row false 1 (z.2.2.map (fun p=>[sD p])))]⟩) (fun z=>z.2.1≤z.1∧z.1≤s.length∧m ∉ ((s.drop z.2.1).take (z.1-z.2.1))∧aC m s=z.2.2++aC m (s.drop z.2.1)∧z.2.2.length≤z.1) (fun z=>s.length-z.1) (0,0,[]) ((fV 8 Z).trans ((bw 8 900 Z Z).trans (Ent.to ⟨Z,Z,Z,Z,Z,aq⟩ Z))) ?_ (fun z hi=>?_))))))))))
 exact⟨bD _,dU _,by show m ∉ ((s.drop 0).take (0-0));simp,Z,bD _⟩
 refine ag (ac (ae Z (aa (aV (p:=s) O Z Z Z Z Z Z Z Z Z) Z (js Z (jf [12,0,1,5,6,7] Z (jn (ak Z (fun z12=>?_) (fun z12=>?_))))))))
 refine af (ag (am (ac (ae Z ?_))))
 have hz0:z.1<s.length:=by have:=bf z12;omega
 have hol:z.2.2.length≤z.1:=hi.2.2.2.2
 refine aa (aw (p:=s) (b:=s.getD z.1 0) O Z Z Z Z Z Z Z (by omega) (aS hz0)) Z (ae Z (jf [19,12,0,1,5,6,7] Z (jn (ak Z (fun z19=>?_) (fun z19=>?_)))))
 refine ac (bn Z (aa (aY (p:=s) (a:=z.2.1) (b:=z.1) O Z Z Z Z Z Z Z Z Z Z hi.1 hi.2.1) Z (jf [24,20,19,12,0,1,5,6,7] Z (bc (dj O Z Z Z Z Z Z Z Z Z Z Z) Z (aD ?_)))))
 refine jf [25,20,19,12,0,1,5,6,7] Z (bc (fY (own:=false) (xs:=z.2.2.map (fun p=>[sD p])) (ys:=[[sD ((s.drop z.2.1).take (z.1-z.2.1))]]) (zs:=(z.2.2++[((s.drop z.2.1).take (z.1-z.2.1))]).map (fun p=>[sD p])) (n:=(z.2.2++[((s.drop z.2.1).take (z.1-z.2.1))]).length) O Z (.row Z (cz _).symm) (.whole Z Z (.inr ⟨Z,Z⟩)) (by simp) Z (by simp;omega) (by simp;omega) (by simp) (by simp)) Z (aD ?_))
 refine aD ?_
 refine js Z (jf [5,19,12,0,1,6,7] Z (jn (ab (js Z ?_))))
 first|refine ji Z ?_|refine bv Z Z ?_
 refine js Z (jf [6,5,19,12,0,1,7] Z (jn (ab (js Z ?_))))
 first|refine ji Z ?_|refine bv Z Z ?_
 refine js Z (jf [7,6,5,19,12,0,1] Z (jn ?_))
 refine⟨(z.1+1,z.1+1,z.2.2++[((s.drop z.2.1).take (z.1-z.2.1))]),((aE [26] (e':=[(0,_),(1,_),(5,_),(6,_),(7,_)]) Z Z ⟨Z,Z,Z,Z,Z,aq⟩ Z).trans (bw 26 900 Z Z)).trans (Ent.to ⟨Z,Z,Z,Z,Z,aq⟩ Z),⟨bD _,by show z.1+1≤_;omega,?_,?_,by show(z.2.2++[((s.drop z.2.1).take (z.1-z.2.1))]).length≤z.1+1;rw[cS];have:=hi.2.2.2.2;exact Nat.succ_le_succ this⟩,by show s.length-(z.1+1)<s.length-z.1;omega⟩
 show m ∉ ((s.drop (z.1+1)).take (z.1+1-(z.1+1)));simp
 show aC m s=(z.2.2++[((s.drop z.2.1).take (z.1-z.2.1))])++aC m (s.drop (z.1+1))
 rw[hi.2.2.2.1,pD hi.1 hz0 hi.2.2.1 (so.1 (bf z19))];simp
 refine af (ab (js Z ?_))
 first|refine ji Z ?_|refine bv Z Z ?_
 refine js Z (jf [7,19,12,0,1,5,6] Z (jn ?_))
 refine⟨(z.1+1,z.2.1,z.2.2),Ent.to ⟨Z,Z,Z,Z,Z,aq⟩ Z,⟨by show z.2.1≤z.1+1;have:=hi.1;omega,by show z.1+1≤_;omega,oA hi.1 hz0 hi.2.2.1 (fun e=>bB z19 (so.2 e)),hi.2.2.2.1,by show z.2.2.length≤z.1+1;have:=hi.2.2.2.2;omega⟩,by show s.length-(z.1+1)<s.length-z.1;omega⟩
 refine aZ (ac (aP Z ?_))
 have hz1:z.1=s.length:=by have:=bB z12;have:=hi.2.1;omega
 have hol:z.2.2.length≤z.1:=hi.2.2.2.2
 have hff:z.2.1≤s.length:=by have:=hi.1;omega
 refine aa ((aY (p:=s) (a:=z.2.1) (b:=s.length) O Z Z Z Z Z Z Z Z Z Z (by omega) (bD _)).cast (v':=aS8 (s.drop z.2.1)) (by rw[List.take_of_length_le (by rw[List.length_drop];omega)])) Z (jf [32,29,12,0,1,5,6,7] Z (bc (dj O Z Z Z Z Z Z Z Z Z Z Z) Z (aD ?_)))
 refine jf [33,29,12,0,1,5,6,7] Z (bc (fY (own:=false) (xs:=z.2.2.map (fun p=>[sD p])) (ys:=[[sD (s.drop z.2.1)]]) (zs:=(z.2.2++[(s.drop z.2.1)]).map (fun p=>[sD p])) (n:=(z.2.2++[(s.drop z.2.1)]).length) O Z (.row Z (cz _).symm) (.whole Z Z (.inr ⟨Z,Z⟩)) (by simp) Z (by simp;omega) (by simp;omega) (by simp) (by simp)) Z (aD ?_))
 refine aD ?_
 refine js Z (jf [4,12,0,1,5,6,7] Z (jr ?_))
 refine az Z ?_
 have hno:=hi.2.2.1
 rw[hz1,List.take_of_length_le (by rw[List.length_drop];omega)]at hno
 rw[hi.2.2.2.1,m4 hno]
 exact .v (.c (.whole Z (cz _).symm))
def eP(c:UInt8)(ss:List Str):Str:=if ss=[]then[]else aH c ss++[c]
theorem rf{c:UInt8}{ss:List Str}{y:Str}:aH c (ss++[y])=eP c ss++y:=by
 unfold eP
 by_cases h:ss=[]
 rw[if_pos h,h];rfl
 rw[if_neg h,oC h];simp
theorem ly{α:Type}[Inhabited α]{c:UInt8}{f:α→Str}{p:List α}{i:Nat}(h:i<p.length):aH c ((p.take (i+1)).map f)=eP c ((p.take i).map f)++f (p.getD i default):=by
 rw[List.take_succ_eq_append_getElem h,List.map_append,List.map_singleton,rf,av h]
theorem qw{α:Type}{c:UInt8}{f:α→Str}{p:List α}{i:Nat}(h: ¬(0:Int)<(i:Int)):aH c ((p.take i).map f)=eP c ((p.take i).map f):=by
 obtain rfl:i=0:=by omega
 rfl
theorem n6{α:Type}{c:UInt8}{f:α→Str}{p:List α}{i:Nat}(h:(0:Int)<(i:Int))(hp:i<p.length):aH c ((p.take i).map f)++[c]=eP c ((p.take i).map f):=by
 unfold eP
 rw[if_neg]
 intro e
 have:=congrArg List.length e
 simp only[cz,List.length_take,List.length_nil]at this
 omega
theorem kb{c:UInt8}: ∀{ss:List Str},ss.length≤(aH c ss).length+1
 | []=>by simp
 | [p]=>by simp
 | p::q::r=>by
  have:=kb (c:=c) (ss:=q::r)
  rw[aH]
  simp only[cS,er]at *;omega
theorem lx{α:Type}{c:UInt8}{f:α→Str}{p:List α}{i:Nat}:(aH c ((p.take i).map f)).length≤(aH c (p.map f)).length:=by
 rw[List.map_take];exact ni
variable{p:List Nd}
theorem rt(hR: ∀x∈p,NdR x)(hl:(aH 47 (p.map bu)).length≤L):MQ h1 h2 56 [dp p] [] (Plain (aS8 (aH 47 (p.map bu)))):=by
 refine aA ?_ Z
 refine jB 72 h1 h2 Tryd.func56 Z fun O hF=>?_
 have hpl:p.length≤L:=by have h:=hF;simp only[As.fact,A.fact,M.fact,D.fact,cz]at h;exact h.1.1
 refine ac (js Z (bM (js Z (jn (ag (ac (js Z (jn (am (ax (X:=Nat) (fun i=>⟨[(0,dp p),(3,aS8 (aH 47 ((p.take i).map bu))),(4,eI i)],[]⟩) (fun i=>i≤p.length) (fun i=>p.length-i) 0 (Ent.to ⟨Z,Z,Z,aq⟩ Z) ?_ (fun i hi=>?_)))))))))))
 exact dU _
 refine ag (ac (ae Z ?_))
 first|refine et Z ?_|refine js Z ?_|refine bv Z Z ?_
 refine js Z (jf [9,0,3,4] Z (jn (ak Z (fun z9=>?_) (fun z9=>?_))))
 refine af (ag (am (ag (ac ?_))))
 have hi0:i<p.length:=by have:=bf z9;omega
 have hOl:(aH 47 ((p.take i).map bu)).length≤L:=Nat.le_trans lx hl
 have hOl2:0<i→(aH 47 ((p.take i).map bu)).length+1≤L:=fun h0=>by have h5:=n6 (c:=47) (f:=bu) (p:=p) (i:=i) (by omega) hi0;have h6:(aH 47 ((p.take (i+1)).map bu)).length≤L:=Nat.le_trans lx hl;have h7:=congrArg List.length (ly (c:=47) (f:=bu) hi0);rw[cS]at h7;have h8:=congrArg List.length h5;rw[cS]at h8;have h9:[(47:UInt8)].length=1:=rfl;omega
 refine ae Z (jn ?_)
 have hxR:NdR (p.getD i default):=by rw[av hi0];exact hR _ (List.getElem_mem hi0)
 have hT:(aH 47 ((p.take (i+1)).map bu))=(eP 47 ((p.take i).map bu))++bu (p.getD i default):=ly hi0
 have hTl:(aH 47 ((p.take (i+1)).map bu)).length≤L:=Nat.le_trans lx hl
 rw[hT,cS]at hTl
 refine bk ⟨[(0,dp p),(3,aS8 (eP 47 ((p.take i).map bu))),(4,eI i)],[]⟩ ?_ ?_
 refine ak Z (fun z13=>?_) (fun z13=>?_)
 refine ab (js Z (aa (aW (p:=(aH 47 ((p.take i).map bu))) (q:=[47]) O Z Z Z Z Z Z (by have h:=hOl2 (by have:=bf z13;omega);exact h) (by show L≤_;omega)) Z (js Z (jf [3,13,12,9,0,4] Z (jn ?_)))))
 exact⟨Z,Ent.to ⟨Z,congrArg (fun s=>some (aS8 s)) (n6 (bf z13) hi0),Z,aq⟩ Z⟩
 refine af ?_
 exact⟨Z,Ent.to ⟨Z,congrArg (fun s=>some (aS8 s)) (qw (bB z13)),Z,aq⟩ Z⟩
 refine ac (ae Z (aa (aL O Z Z Z Z Z Z Z Z (dZ hi0)) Z (ae Z (jf [20,0,3,4] Z (jn (bk ⟨[(0,dp p),(3,aS8 (aH 47 ((p.take (i+1)).map bu))),(4,eI i)],[]⟩ ?_ ?_))))))
 refine am (ac (ae Z (jn (ak Z (fun z21=>?_) (fun z21=>?_)))))
 refine ac (js Z ?_)
 have hk1:(p.getD i default).kind=1:=bf z21
 have hn1:bu (p.getD i default)=99::aH 44 (((p.getD i default).mul).map Lib.itoa):=if_pos hk1
 rw[hn1,er]at hTl
 have hml:=kb (c:=44) (ss:=((p.getD i default).mul).map Lib.itoa)
 rw[cz]at hml
 refine aa (aW (p:=(eP 47 ((p.take i).map bu))) (q:=[99]) O Z Z Z Z Z Z (by show(eP 47 ((p.take i).map bu)).length+1≤L;omega) (by show L≤_;omega)) Z (js Z (jf [3,21,22,20,0,4] Z (bM (js Z (jn (am (ax (X:=Nat) (fun j=>⟨[(0,dp p),(3,aS8 ((eP 47 ((p.take i).map bu))++99::(aH 44 (((((p.getD i default).mul)).take j).map Lib.itoa)))),(4,eI i),(5,eI j)],[]⟩) (fun j=>j≤((p.getD i default).mul).length) (fun j=>((p.getD i default).mul).length-j) 0 (Ent.to ⟨Z,Z,Z,Z,aq⟩ Z) ?_ (fun j hi=>?_))))))))
 exact dU _
 refine ag (ac (aP Z (aa (aL O Z Z Z Z Z Z Z Z (dZ hi0)) Z (ae Z ?_))))
 first|refine et Z ?_|refine js Z ?_|refine bv Z Z ?_
 refine js Z (jf [32,0,3,4,5] Z (jn (ak Z (fun z32=>?_) (fun z32=>?_))))
 refine af (ag (am (ag (ac ?_))))
 have hj0:j<((p.getD i default).mul).length:=by have:=bf z32;omega
 have hJl:(aH 44 (((((p.getD i default).mul)).take (j+1)).map Lib.itoa)).length≤(aH 44 (((p.getD i default).mul).map Lib.itoa)).length:=lx
 have hJa:(aH 44 (((((p.getD i default).mul)).take (j+1)).map Lib.itoa))=(eP 44 (((((p.getD i default).mul)).take j).map Lib.itoa))++Lib.itoa (((p.getD i default).mul).getD j default):=ly hj0
 rw[hJa,cS]at hJl
 have hmR: -1000000000≤((p.getD i default).mul).getD j default∧((p.getD i default).mul).getD j default≤1000000000:=by rw[av hj0];exact hxR.mul _ (List.getElem_mem hj0)
 have hJ1:0<j→(aH 44 (((((p.getD i default).mul)).take j).map Lib.itoa)).length+1=(eP 44 (((((p.getD i default).mul)).take j).map Lib.itoa)).length:=fun h0=>by have h5:=congrArg List.length (n6 (c:=44) (f:=Lib.itoa) (p:=((p.getD i default).mul)) (i:=j) (by omega) hj0);rw[cS]at h5;exact h5
 refine ae Z (jn (bk ⟨[(0,dp p),(3,aS8 ((eP 47 ((p.take i).map bu))++99::(eP 44 (((((p.getD i default).mul)).take j).map Lib.itoa)))),(4,eI i),(5,eI j)],[]⟩ ?_ ?_))
 refine ak Z (fun z36=>?_) (fun z36=>?_)
 refine ab (js Z (aa (aW (p:=((eP 47 ((p.take i).map bu))++99::(aH 44 (((((p.getD i default).mul)).take j).map Lib.itoa)))) (q:=[44]) O Z Z Z Z Z Z (by have h:=hJ1 (by have:=bf z36;omega);have h2:[(44:UInt8)].length=1:=rfl;show _+_≤L;rw[cS,er];omega) (by show L≤_;omega)) Z (js Z (jf [3,36,35,32,0,4,5] Z (jn ?_)))))
 exact⟨Z,Ent.to ⟨Z,congrArg (fun s=>some (aS8 s)) (show((eP 47 ((p.take i).map bu))++99::(aH 44 (((((p.getD i default).mul)).take j).map Lib.itoa)))++[44]=(eP 47 ((p.take i).map bu))++99::(eP 44 (((((p.getD i default).mul)).take j).map Lib.itoa)) by rw[←n6 (bf z36) hj0];simp),Z,Z,aq⟩ Z⟩
 refine af ?_
 exact⟨Z,Ent.to ⟨Z,congrArg (fun s=>some (aS8 s)) (show(eP 47 ((p.take i).map bu))++99::(aH 44 (((((p.getD i default).mul)).take j).map Lib.itoa))=(eP 47 ((p.take i).map bu))++99::(eP 44 (((((p.getD i default).mul)).take j).map Lib.itoa)) by rw[qw (bB z36)]),Z,Z,aq⟩ Z⟩
 refine ab (aP Z (aa (aL O Z Z Z Z Z Z Z Z (dZ hi0)) Z (aP Z (aa (aL O Z Z Z Z Z Z Z Z (dZ hj0)) Z (js Z (jf [47,39,0,3,4,5] Z (cH Z (lB (n:=((p.getD i default).mul).getD j default) h1 h2 (by omega) (by omega)) 49000 Z (aa (aW (p:=((eP 47 ((p.take i).map bu))++99::(eP 44 (((((p.getD i default).mul)).take j).map Lib.itoa)))) (q:=(Lib.itoa (((p.getD i default).mul).getD j default))) O Z Z Z Z Z Z (by show _+_≤L;rw[cS,er];omega) (by show L≤_;omega)) Z (js Z (jf [3,0,4,5] Z (jn (ab (js Z ?_)))))))))))))
 first|refine ji Z ?_|refine bv Z Z ?_
 refine js Z (jf [5,3,0,4] Z (jn ?_))
 refine⟨j+1,Ent.to ⟨Z,congrArg (fun s=>some (aS8 s)) (show((eP 47 ((p.take i).map bu))++99::(eP 44 (((((p.getD i default).mul)).take j).map Lib.itoa)))++Lib.itoa (((p.getD i default).mul).getD j default)=(eP 47 ((p.take i).map bu))++99::(aH 44 (((((p.getD i default).mul)).take (j+1)).map Lib.itoa)) by rw[ly hj0];simp),Z,Z,aq⟩ Z,by omega,by omega⟩
 refine aZ ?_
 have hjl:j=((p.getD i default).mul).length:=by have:=bB z32;omega
 exact⟨Z,(aE [] (e':=[(0,_),(3,_),(4,_)]) Z Z ⟨Z,Z,Z,aq⟩ Z).trans (Ent.to ⟨Z,congrArg (fun s=>some (aS8 s)) (show(eP 47 ((p.take i).map bu))++99::(aH 44 (((((p.getD i default).mul)).take j).map Lib.itoa))=(aH 47 ((p.take (i+1)).map bu)) by rw[hT,hn1,hjl,List.take_length]),Z,aq⟩ Z)⟩
 refine ac (ae Z (jn (ak Z (fun z50=>?_) (fun z50=>?_))))
 refine ab ?_
 have hk2:(p.getD i default).kind=2:=bf z50
 have hn2:bu (p.getD i default)=115::tS (p.getD i default).term:=by unfold bu;rw[hk2,if_neg (by decide),if_pos Z]
 rw[hn2,er]at hTl
 refine aP Z (aa (aL O Z Z Z Z Z Z Z Z (dZ hi0)) Z (js Z (jf [56,52,50,51,21,22,20,0,3,4] Z (aX O Z Z Z Z (pj (t:=(p.getD i default).term) h1 h2 hxR.term) (.cons (.c (.sub Z)) .nil) Z Z Z Z Z (B0:=58000) Z (aa (aW (p:=[115]) (q:=(tS (p.getD i default).term)) O Z Z Z Z Z Z (by show 1+(tS (p.getD i default).term).length≤L;omega) (by show L≤_;omega)) Z (aa (aW (p:=(eP 47 ((p.take i).map bu))) (q:=(115::tS (p.getD i default).term)) O Z Z Z Z Z Z (by show _+_≤L;rw[er];omega) (by show L≤_;omega)) Z (js Z (jf [3,50,51,21,22,20,0,4] Z (jn ?_)))))))))
 exact⟨Z,(aE [] (e':=[(0,_),(3,_),(4,_)]) Z Z ⟨Z,Z,Z,aq⟩ Z).trans (Ent.to ⟨Z,congrArg (fun s=>some (aS8 s)) (show(eP 47 ((p.take i).map bu))++(115::tS (p.getD i default).term)=(aH 47 ((p.take (i+1)).map bu)) by rw[hT,hn2]),Z,aq⟩ Z)⟩
 refine ac (ae Z (jn (ak Z (fun z60=>?_) (fun z60=>?_))))
 refine ab ?_
 have hk3:(p.getD i default).kind=3:=bf z60
 have hn3:bu (p.getD i default)=116::Lib.itoa (p.getD i default).fact:=by unfold bu;rw[hk3,if_neg (by decide),if_neg (by decide),if_pos Z]
 rw[hn3,er]at hTl
 have hfR:=hxR.fact
 refine aP Z (aa (aL O Z Z Z Z Z Z Z Z (dZ hi0)) Z (ae Z (jf [67,62,60,61,50,51,21,22,20,0,3,4] Z (cH Z (lB (n:=(p.getD i default).fact) h1 h2 (by omega) (by omega)) 69000 Z (aa (aW (p:=[116]) (q:=(Lib.itoa (p.getD i default).fact)) O Z Z Z Z Z Z (by show 1+(Lib.itoa (p.getD i default).fact).length≤L;omega) (by show L≤_;omega)) Z (aa (aW (p:=(eP 47 ((p.take i).map bu))) (q:=(116::Lib.itoa (p.getD i default).fact)) O Z Z Z Z Z Z (by show _+_≤L;rw[er];omega) (by show L≤_;omega)) Z (js Z (jf [3,60,61,50,51,21,22,20,0,4] Z (jn ?_)))))))))
 exact⟨Z,(aE [] (e':=[(0,_),(3,_),(4,_)]) Z Z ⟨Z,Z,Z,aq⟩ Z).trans (Ent.to ⟨Z,congrArg (fun s=>some (aS8 s)) (show(eP 47 ((p.take i).map bu))++(116::Lib.itoa (p.getD i default).fact)=(aH 47 ((p.take (i+1)).map bu)) by rw[hT,hn3]),Z,aq⟩ Z)⟩
 refine af ?_
 exact absurd hxR.kind (by have h1:=bB z21;have h2:=bB z50;have h3:=bB z60;exact fun h=>h.elim h1 (fun h=>h.elim h2 h3))
 refine ab (js Z ?_)
 first|refine ji Z ?_|refine bv Z Z ?_
 refine js Z (jf [4,0,3] Z (jn ?_))
 refine⟨i+1,Ent.to ⟨Z,Z,Z,aq⟩ Z,by omega,by omega⟩
 refine aZ (ac (ae Z (jr ?_)))
 refine az Z ?_
 obtain rfl:i=p.length:=by have:=bB z9;omega
 rw[List.take_length]
theorem du{s:Str}{n:Nat}(hn:n<256)(h:s.getD 0 0=UInt8.ofNat n):((s.getD 0 0).toNat:Int)=n:=(fp hn).2 h
theorem bV{s:Str}{n:Nat}(hn:n<256)(h: ¬s.getD 0 0=UInt8.ofNat n): ¬((s.getD 0 0).toNat:Int)=n:=fun e=>h ((fp hn).1 e)
theorem be{s:Str}(h:s≠[]):0<s.length:=List.length_pos_iff.2 h
abbrev n0(r:Nd×Bool):A:=.tup [qf r.1,eB r.2]
theorem oY{s:Str}(h:s≠[])(hb:s.getD 0 0=99):gm s=(qk (if s.drop 1=[]then[]else iy (aC 44 (s.drop 1))),(iv (s.drop 1)).isSome):=by
 unfold gm;rw[if_neg h,if_pos hb]
theorem oW{s:Str}(h:s≠[])(hb:s.getD 0 0=115):gm s=(match fj (s.drop 1)with
    | none=>(mF,false)
    | some t=>(qj t,true)):=by
  unfold gm;rw[if_neg h,if_neg (by rw[hb];decide),if_pos hb]<;>rfl
theorem oV{s:Str}(h:s≠[])(hb:s.getD 0 0=116):gm s=(match cJ (s.drop 1)with
    | none=>(mF,false)
    | some t=>(ql t,true)):=by
  unfold gm;rw[if_neg h,if_neg (by rw[hb];decide),if_neg (by rw[hb];decide),if_pos hb]<;>rfl
theorem oX{s:Str}(h:s≠[]→¬s.getD 0 0=99∧¬s.getD 0 0=115∧¬s.getD 0 0=116):gm s=(mF,false):=by
 unfold gm
 by_cases hs:s=[]
 rw[if_pos hs]
 obtain⟨h1,h2,h3⟩:=h hs
 rw[if_neg hs,if_neg h1,if_neg h2,if_neg h3]
theorem nl{s:Str}(h:s.length≤1):s.drop 1=[]:=List.drop_eq_nil_of_le h
theorem pf{r:Str}{ms:List Int}(h:r≠[])(hr:aI cJ (aC 44 r)=some ms):iv r=some ms:=by unfold iv;rw[if_neg h,hr]
theorem kG{r:Option Int}(h:(dY r).2=true):r=some (dY r).1:=by
 cases r with
 | none=>cases h
 | some n=>rfl
theorem kH{r:Option Int}(h:(dY r).2=false):r=none:=by
 cases r with
 | none=>rfl
 | some n=>cases h
theorem p0{s:Str}(hsL:s.length≤L)(hs:s.length≤1048576)(hne:s≠[])(hb:s.getD 0 0=99):MQ h1 h2 54 [aS8 s] [] (Plain (n0 (gm s))):=by
 refine MC.data (jB 84 h1 h2 Tryd.func54 Z fun O hF=>?_)
 refine ac (jl Z (aD ?_))
 refine js Z (bM (bc (HS.lit O Z Z Z) Z (aD ?_)))
 refine js Z (jf [14,3,2,0] Z (jl Z (aD ?_)))
 refine jo Z (aD ?_)
 refine jn (ag (ac (js Z (aa (Val.seq (p:=s) (q:=[]) O Z Z Z Z Z Z) Z (jn (ak Z (fun z16=>?_) (fun z16=>?_)))))))
 exact absurd (bf z16) hne
 refine af (ag (ac (js Z (aa (aw (p:=s) (b:=s.getD 0 0) O Z Z Z Z Z Z Z (by omega) (aS (i:=0) (be hne))) Z (jf [19,15,4,14,3,2,0] Z (jn (am (ac (ae Z (jn (ak Z (fun z21=>?_) (fun z21=>?_))))))))))))
 refine ac (js Z (jf [23,22,19,15,4,14,3,2,0] Z (jo Z (aD ?_))))
 refine bM (js Z ?_)
 have hdl:(s.drop 1).length≤1048576:=by rw[List.length_drop];omega
 have hdL:(s.drop 1).length<L:=by have:=be hne;rw[List.length_drop];omega
 have hQ0:=dJ 44 (s.drop 1)
 have hQ1:0<(aC 44 (s.drop 1)).length:=List.length_pos_iff.2 (m5 44 _)
 refine aa ((aY (p:=s) (a:=1) (b:=s.length) O Z Z Z Z Z Z Z Z Z Z (be hne) (bD _)).cast (v':=aS8 (s.drop 1)) (by rw[List.take_of_length_le (by rw[List.length_drop];omega)])) Z (jf [25,23,22,19,15,4,14,3,2,0] Z (au O Z Z Z Z (pl (s:=s.drop 1) (m:=44) h1 h2 hdL (by omega)) (al Z) Z Z Z Z (B0:=27000) Z Z (js Z (jf [5,23,22,19,15,4,14,3,2,0] Z (bM (js Z (jn (am (ax (X:=Nat×List Int) (fun z=>⟨[(0,aS8 s),(2,.c (.pt 2 0 0)),(4,.c (.pt 4 0 0)),(5,.c (.d (strs (aC 44 (s.drop 1))))),(6,eI (z.1:Nat))],[(2,.box [.d (.int .i64 0),.d (.int .i64 0),.d (.int .i64 0),.d .nils,.d .nils]),(4,.box [.d (.int .i64 1),.d (.int .i64 0),.d (.int .i64 0),.d .nils,.rs 900 0 z.2.length]),(900,.row false 1 (z.2.map (fun n=>[D.int .i64 n])))]⟩) (fun z=>z.1≤(aC 44 (s.drop 1)).length∧z.2.length=z.1∧aI cJ ((aC 44 (s.drop 1)).take z.1)=some z.2∧(1<s.length∨z.1=0)) (fun z=>(aC 44 (s.drop 1)).length-z.1) (0,[]) ((fV 13 Z).trans ((bw 13 900 Z Z).trans (Ent.to ⟨Z,Z,Z,Z,Z,aq⟩ Z))) ?_ (fun z hi=>?_))))))))))
 exact⟨dU _,Z,Z,.inr Z⟩
 refine ag (ac (ae Z ?_))
 first|refine et Z ?_|refine js Z ?_|refine bv Z Z ?_
 refine ae Z (jf [31,0,2,4,5,6] Z (ar 3 Z Z Z (fun hx=>ap hx Z (bg hx (aV (p:=s) O Z Z Z Z Z Z Z Z Z) Z (ap hx Z (AN.nil)))) Z Z ?_))
 first|refine aa (aj O Z Z Z Z Z) Z ?_|refine aa (ao O Z Z Z Z Z) Z ?_|refine aa (Val.pickB O Z Z Z Z Z) Z ?_
 refine jf [35,0,2,4,5,6] Z (jn (ak Z (fun z35=>?_) (fun z35=>?_)))
 refine af (ag (am (ac (ae Z ?_))))
 have hcc:=rE.1 z35
 have hi0:z.1<(aC 44 (s.drop 1)).length:=by have:=hcc.1;omega
 obtain⟨n,hn⟩: ∃n,n=(dY (kC ((aC 44 (s.drop 1)).getD z.1 default))).1:=⟨_,rfl⟩
 obtain⟨nB,hnB⟩: ∃b,b=(dY (kC ((aC 44 (s.drop 1)).getD z.1 default))).2:=⟨_,rfl⟩
 refine aa (aL O Z Z Z Z Z Z Z Z (dZ (by omega))) Z (js Z (jf [42,35,0,2,4,5,6] Z (au O Z Z Z Z ((pi (s:=((aC 44 (s.drop 1)).getD z.1 default)) h1 h2).plain (v:=_) (u:=.tup [eI n,eB nB]) (by rw[hn,hnB])) (al Z) Z Z Z Z (B0:=44000) Z Z (bn Z (js Z (jf [8,7,35,0,2,4,5,6] Z (jn (ag (ac (ae Z (jf [47,7,35,0,2,4,5,6] Z (jn (ak Z (fun z47=>?_) (fun z47=>?_))))))))))))))
 refine ac (js Z (jo Z (aD ?_)))
 refine js Z (jr ?_)
 refine az Z ?_
 have h1s:s.drop 1≠[]:=fun e=>by have h7:=congrArg List.length e;rw[List.length_drop,List.length_nil]at h7;have:=hcc.2;omega
 have hx:cJ ((aC 44 (s.drop 1)).getD z.1 default)=none:=by rw[lp];exact kH (by rw[←hnB];simpa using z47)
 have hq:(aC 44 (s.drop 1))=(aC 44 (s.drop 1)).take z.1++((aC 44 (s.drop 1)).getD z.1 default)::(aC 44 (s.drop 1)).drop (z.1+1):=by conv=>lhs;rw[←List.take_append_drop z.1 (aC 44 (s.drop 1)),List.drop_eq_getElem_cons hi0,←av hi0]
 have hpv:iy (aC 44 (s.drop 1))=z.2:=by rw[hq];exact j0 hi.2.2.1 hx
 have hms:iv (s.drop 1)=none:=by unfold iv;rw[if_neg h1s,hq];exact cT hx
 rw[oY hne hb,if_neg h1s,hpv,hms]
 exact .tup (.cons (.agg (.cons .d (.cons .d (.cons .d (.cons .nils (.cons (.whole Z (cz _).symm) .nil)))))) (.cons (.c .d) .nil))
 refine af (ab ?_)
 have hok1:cJ ((aC 44 (s.drop 1)).getD z.1 default)=some n:=by rw[lp,hn];exact kG (by rw[←hnB];simpa using z47)
 refine aP Z (jf [51,50,47,35,0,2,4,5,6] Z (bc (dj O Z Z Z Z Z Z Z Z Z Z Z) Z (aD ?_)))
 refine jf [52,50,47,35,0,2,4,5,6] Z (bc (fY (own:=false) (xs:=z.2.map (fun n=>[D.int .i64 n])) (ys:=[[.int .i64 n]]) (zs:=(z.2++[n]).map (fun n=>[D.int .i64 n])) (n:=(z.2++[n]).length) O Z (.row Z (cz _).symm) (.whole Z Z (.inr ⟨Z,Z⟩)) (by simp) Z (by simp;omega) (by simp;omega) (by simp) (by simp)) Z (aD ?_))
 refine aD ?_
 refine js Z (jf [54,53,47,35,0,2,4,5,6] Z (jo Z (aD ?_)))
 refine jf [47,35,0,2,4,5,6] Z (jn (ab (js Z ?_)))
 first|refine ji Z ?_|refine bv Z Z ?_
 refine js Z (jf [6,47,35,0,2,4,5] Z (jn ?_))
 refine⟨(z.1+1,z.2++[n]),((aE [2,4,53] (e':=[(0,_),(2,_),(4,_),(5,_),(6,_)]) Z Z ⟨Z,Z,Z,Z,Z,aq⟩ Z).trans (bw 53 900 Z Z)).trans (Ent.to ⟨Z,Z,Z,Z,Z,aq⟩ Z),⟨by show z.1+1≤_;omega,by show(z.2++[n]).length=z.1+1;rw[cS,hi.2.1];rfl,?_,.inl (by have:=hcc.2;omega)⟩,by show(aC 44 (s.drop 1)).length-(z.1+1)<(aC 44 (s.drop 1)).length-z.1;omega⟩
 show aI cJ ((aC 44 (s.drop 1)).take (z.1+1))=some (z.2++[n])
 rw[List.take_succ_eq_append_getElem hi0,←av hi0]
 exact cw hi.2.2.1 hok1
 refine aZ (ac ?_)
 have hend:(z.1=(aC 44 (s.drop 1)).length∧1<s.length)∨s.length≤1:=by
  have h9:=fL z35 rE
  by_cases h8:1<s.length
  exact .inl ⟨by have h7: ¬(z.1:Int)<((aC 44 (s.drop 1)).length:Int):=fun e=>h9 ⟨e,by omega⟩;have:=hi.1;omega,h8⟩
  exact .inr (by omega)
 refine js Z (jo Z (aD ?_))
 refine js Z (jr ?_)
 refine az Z ?_
 have hmv:iv (s.drop 1)=some z.2∧(if s.drop 1=[]then[]else iy (aC 44 (s.drop 1)))=z.2:=by
  rcases hend with⟨h8,h9⟩|h8
  have h1s:s.drop 1≠[]:=fun e=>by have h7:=congrArg List.length e;rw[List.length_drop,List.length_nil]at h7;omega
  have hall:=hi.2.2.1
  rw[h8,List.take_length]at hall
  exact⟨pf h1s hall,by rw[if_neg h1s,gM hall]⟩
  have h7:z.1=0:=hi.2.2.2.resolve_left (by omega)
  have h6:z.2=[]:=List.length_eq_zero_iff.1 (by rw[hi.2.1,h7])
  rw[h6]
  exact⟨by unfold iv;rw[if_pos (nl h8)],if_pos (nl h8)⟩
 rw[oY hne hb,hmv.1,hmv.2]
 exact .tup (.cons (.agg (.cons .d (.cons .d (.cons .d (.cons .nils (.cons (.whole Z (cz _).symm) .nil)))))) (.cons (.c .d) .nil))
 exact absurd (du (n:=99) (by decide) hb) (bB z21)
theorem pZ{s:Str}(hsL:s.length≤L)(hs:s.length≤1048576)(hne:s≠[])(hb:s.getD 0 0=115):MQ h1 h2 54 [aS8 s] [] (Plain (n0 (gm s))):=by
 refine MC.data (jB 84 h1 h2 Tryd.func54 Z fun O hF=>?_)
 refine ac (jl Z (aD ?_))
 refine js Z (jn (ag (ab (bc (HS.lit O Z Z Z) Z (aD ?_)))))
 refine js Z (jf [14,3,2,0] Z (jl Z (aD ?_)))
 refine jo Z (aD ?_)
 refine jn (ag (ac (js Z (aa (Val.seq (p:=s) (q:=[]) O Z Z Z Z Z Z) Z (jn (ak Z (fun z16=>?_) (fun z16=>?_)))))))
 exact absurd (bf z16) hne
 refine af (ag (ac (js Z (aa (aw (p:=s) (b:=s.getD 0 0) O Z Z Z Z Z Z Z (by omega) (aS (i:=0) (be hne))) Z (jf [19,15,4,14,3,2,0] Z (jn (am (ac (ae Z (jn (ak Z (fun z21=>?_) (fun z21=>?_))))))))))))
 exact absurd (bf z21) (bV (n:=99) (by decide) (by rw[hb];decide))
 refine ac (ae Z (jf [55,22,19,15,4,14,3,2,0] Z (jn (ak Z (fun z55=>?_) (fun z55=>?_)))))
 refine ac (js Z ?_)
 have hdl:(s.drop 1).length≤1048576:=by rw[List.length_drop];omega
 obtain⟨t,ht⟩: ∃t,t=(fo (l7 (s.drop 1))).1:=⟨_,rfl⟩
 obtain⟨tB,htB⟩: ∃b,b=(fo (l7 (s.drop 1))).2:=⟨_,rfl⟩
 refine aa ((aY (p:=s) (a:=1) (b:=s.length) O Z Z Z Z Z Z Z Z Z Z (be hne) (bD _)).cast (v':=aS8 (s.drop 1)) (by rw[List.take_of_length_le (by rw[List.length_drop];omega)])) Z (jf [59,22,19,15,4,14,3,2,0] Z (au O Z Z Z Z ((rv (s:=s.drop 1) h1 h2 (by omega)).plain (v:=_) (u:=.tup [gE t,eB tB]) (by rw[ht,htB])) (al Z) Z Z Z Z (B0:=61000) Z Z (aP Z (jf [62,61,22,19,15,4,14,3,2,0] Z (jl Z (aD ?_))))))
 refine jo Z (aD ?_)
 refine js Z (jf [10,9,22,19,15,4,14,3,2,0] Z (jn (ag (ac (ae Z (jf [64,9,22,19,15,4,14,3,2,0] Z (jn (ak Z (fun z64=>?_) (fun z64=>?_)))))))))
 refine ac (js Z (jf [65,9,22,19,15,4,14,3,2,0] Z (jo Z (aD ?_))))
 refine js Z (jr ?_)
 refine az Z ?_
 have hx:fj (s.drop 1)=none:=by rw[o9];exact pO (by rw[←htB];simpa using z64)
 rw[oW hne hb,hx]
 exact .tup (.cons (.agg (.cons .d (.cons .d (.cons .d (.cons .nils (.cons (.whole Z Z) .nil)))))) (.cons (.c .d) .nil))
 refine af (ac (js Z (jf [66,9,22,19,15,4,14,3,2,0] Z (jo Z (aD ?_)))))
 refine jn (ab (ae Z (jo Z (aD ?_))))
 refine jf [66,9,22,19,15,4,14,3,2,0] Z (jn (ag (ab (js Z (jo Z (aD ?_))))))
 refine js Z (jr ?_)
 refine az Z ?_
 have hx:fj (s.drop 1)=some t:=by rw[o9,ht];exact pN (by rw[←htB];simpa using z64)
 rw[oW hne hb,hx]
 exact .tup (.cons (.agg (.cons .d (.cons .d (.cons .d (.cons .d (.cons (.whole Z Z) .nil)))))) (.cons (.c .d) .nil))
 exact absurd (du (n:=115) (by decide) hb) (bB z55)
theorem pY{s:Str}(hsL:s.length≤L)(hs:s.length≤1048576)(hne:s≠[])(hb:s.getD 0 0=116):MQ h1 h2 54 [aS8 s] [] (Plain (n0 (gm s))):=by
 refine MC.data (jB 84 h1 h2 Tryd.func54 Z fun O hF=>?_)
 refine ac (jl Z (aD ?_))
 refine js Z (jn (ag (ab (bc (HS.lit O Z Z Z) Z (aD ?_)))))
 refine js Z (jf [14,3,2,0] Z (jl Z (aD ?_)))
 refine jo Z (aD ?_)
 refine jn (ag (ac (js Z (aa (Val.seq (p:=s) (q:=[]) O Z Z Z Z Z Z) Z (jn (ak Z (fun z16=>?_) (fun z16=>?_)))))))
 exact absurd (bf z16) hne
 refine af (ag (ac (js Z (aa (aw (p:=s) (b:=s.getD 0 0) O Z Z Z Z Z Z Z (by omega) (aS (i:=0) (be hne))) Z (jf [19,15,4,14,3,2,0] Z (jn (am (ac (ae Z (jn (ak Z (fun z21=>?_) (fun z21=>?_))))))))))))
 exact absurd (bf z21) (bV (n:=99) (by decide) (by rw[hb];decide))
 refine ac (ae Z (jf [55,22,19,15,4,14,3,2,0] Z (jn (ak Z (fun z55=>?_) (fun z55=>?_)))))
 exact absurd (bf z55) (bV (n:=115) (by decide) (by rw[hb];decide))
 refine ac (ae Z (jf [69,22,19,15,4,14,3,2,0] Z (jn (ak Z (fun z69=>?_) (fun z69=>?_)))))
 refine ac (js Z ?_)
 obtain⟨t,ht⟩: ∃t,t=(dY (kC (s.drop 1))).1:=⟨_,rfl⟩
 obtain⟨tB,htB⟩: ∃b,b=(dY (kC (s.drop 1))).2:=⟨_,rfl⟩
 refine aa ((aY (p:=s) (a:=1) (b:=s.length) O Z Z Z Z Z Z Z Z Z Z (be hne) (bD _)).cast (v':=aS8 (s.drop 1)) (by rw[List.take_of_length_le (by rw[List.length_drop];omega)])) Z (jf [73,22,19,15,4,14,3,2,0] Z (au O Z Z Z Z ((pi (s:=s.drop 1) h1 h2).plain (v:=_) (u:=.tup [eI t,eB tB]) (by rw[ht,htB])) (al Z) Z Z Z Z (B0:=75000) Z Z (bn Z (js Z (jf [12,11,22,19,15,4,14,3,2,0] Z (jn (ag (ac (ae Z (jf [78,11,22,19,15,4,14,3,2,0] Z (jn (ak Z (fun z78=>?_) (fun z78=>?_)))))))))))))
 refine ac (js Z (jf [79,11,22,19,15,4,14,3,2,0] Z (jo Z (aD ?_))))
 refine js Z (jr ?_)
 refine az Z ?_
 have hx:cJ (s.drop 1)=none:=by rw[lp];exact kH (by rw[←htB];simpa using z78)
 rw[oV hne hb,hx]
 exact .tup (.cons (.agg (.cons .d (.cons .d (.cons .d (.cons .nils (.cons (.whole Z Z) .nil)))))) (.cons (.c .d) .nil))
 refine af (ac (js Z (jf [80,11,22,19,15,4,14,3,2,0] Z (jo Z (aD ?_)))))
 refine jn (ab (ae Z (jf [82,81,80,22,19,15,4,14,3,2,0] Z (jo Z (aD ?_)))))
 refine jf [80,22,19,15,4,14,3,2,0] Z (jn (ag (ab (js Z (jo Z (aD ?_))))))
 refine js Z (jr ?_)
 refine az Z ?_
 have hx:cJ (s.drop 1)=some t:=by rw[lp,ht];exact kG (by rw[←htB];simpa using z78)
 rw[oV hne hb,hx]
 exact .tup (.cons (.agg (.cons .d (.cons .d (.cons .d (.cons .nils (.cons (.whole Z Z) .nil)))))) (.cons (.c .d) .nil))
 exact absurd (du (n:=116) (by decide) hb) (bB z69)
theorem np{s:Str}(hsL:s.length≤L)(hs:s.length≤1048576)(hn:s≠[]→¬s.getD 0 0=99∧¬s.getD 0 0=115∧¬s.getD 0 0=116):MQ h1 h2 54 [aS8 s] [] (Plain (n0 (gm s))):=by
 refine MC.data (jB 84 h1 h2 Tryd.func54 Z fun O hF=>?_)
 refine ac (jl Z (aD ?_))
 refine js Z (bM (bc (HS.lit O Z Z Z) Z (aD ?_)))
 refine js Z (jf [14,3,2,0] Z (jl Z (aD ?_)))
 refine jo Z (aD ?_)
 refine jn (ag (ac (js Z (aa (Val.seq (p:=s) (q:=[]) O Z Z Z Z Z Z) Z (jn (ak Z (fun z16=>?_) (fun z16=>?_)))))))
 refine ac (js Z (jf [17,15,4,14,3,2,0] Z (jo Z (aD ?_))))
 refine js Z (jr ?_)
 refine az Z ?_
 rw[oX hn]
 exact .tup (.cons (.agg (.cons .d (.cons .d (.cons .d (.cons .nils (.cons (.whole Z Z) .nil)))))) (.cons (.c .d) .nil))
 refine af (ag (ac (js Z ?_)))
 have hne:s≠[]:=bB z16
 refine aa (aw (p:=s) (b:=s.getD 0 0) O Z Z Z Z Z Z Z (by omega) (aS (i:=0) (be hne))) Z (jf [19,15,4,14,3,2,0] Z (jn (am (ac (ae Z (jn (ak Z (fun z21=>?_) (fun z21=>?_))))))))
 exact absurd (bf z21) (bV (n:=99) (by decide) (hn hne).1)
 refine ac (ae Z (jf [55,22,19,15,4,14,3,2,0] Z (jn (ak Z (fun z55=>?_) (fun z55=>?_)))))
 exact absurd (bf z55) (bV (n:=115) (by decide) (hn hne).2.1)
 refine ac (ae Z (jf [69,22,19,15,4,14,3,2,0] Z (jn (ak Z (fun z69=>?_) (fun z69=>?_)))))
 exact absurd (bf z69) (bV (n:=116) (by decide) (hn hne).2.2)
 refine ac (js Z (jf [20,22,19,15,4,14,3,2,0] Z (jo Z (aD ?_))))
 refine js Z (jr ?_)
 refine az Z ?_
 rw[oX hn]
 exact .tup (.cons (.agg (.cons .d (.cons .d (.cons .d (.cons .nils (.cons (.whole Z Z) .nil)))))) (.cons (.c .d) .nil))
theorem ru{L:Nat}(h1:4096≤L)(h2:L≤1073741824){s:Str}(hsL:s.length≤L)(hs:s.length≤1048576):MC Tryd.prog L 54 [aS8 s] [] (Plain (n0 (gm s))):=by
 by_cases hne:s=[]
 exact np h1 h2 hsL hs (fun h=>absurd hne h)
 by_cases h99:s.getD 0 0=99
 exact p0 h1 h2 hsL hs hne h99
 by_cases h115:s.getD 0 0=115
 exact pZ h1 h2 hsL hs hne h115
 by_cases h116:s.getD 0 0=116
 exact pY h1 h2 hsL hs hne h116
 exact np h1 h2 hsL hs (fun _=>⟨h99,h115,h116⟩)
theorem eJ{T:Type}{rd:Str→Option T}: ∀{ss:List Str} {ts:List T},aI rd ss=some ts→ts.length=ss.length
 | [],ts,h=>by rw[aI]at h;cases h;rfl
 | s::r,ts,h=>by
  rw[aI]at h
  split at h
  cases h
  split at h
  cases h
  rename_i ts' hts
  cases h
  rw[er,er,eJ hts]
theorem kI{t:Str}(h:aI fH (aC 47 t)=none):rP t=none:=by unfold rP;rw[h]
theorem mM{t:Str}{p:List Nd}(h:aI fH (aC 47 t)=some p):rP t=if mH p=true then some p else none:=by unfold rP;rw[h]
theorem lR{t:Str}(h:60<(aC 47 t).length):rP t=none:=by
 cases h2:aI fH (aC 47 t)with
 | none=>exact kI h2
 | some p=>
  rw[mM h2,if_neg]
  intro h3
  have h4:=(gO h3).1
  rw[eJ h2]at h4
  omega
abbrev sO(r:Option (List Nd)):A:=match r with
  | none=>.tup [dp [],eB false]
  | some p=>.tup [dp p,eB true]
theorem rb{s:Str}(h:(gm s).2=true):fH s=some (gm s).1:=by rw[pc,h];rfl
theorem rc{s:Str}(h:(gm s).2=false):fH s=none:=by rw[pc,h];rfl
theorem l8{k:Bool}{a:Prop}[Decidable a]:(bif !k then true else decide a)=true↔(k=false∨a):=by
 cases k<;>simp
theorem q_or{k:Bool}{a:Prop}[Decidable a]:(bif !k then true else !decide a)=true↔(k=false∨¬a):=by
 cases k<;>simp
theorem c1327{t:Str}(hL:1048576<L)(hs:t.length≤1048576):MQ h1 h2 22 [aS8 t] [] (Plain (sO (rP t))):=by
 refine MC.data (jB 47 h1 h2 Tryd.func22 Z fun O hF=>?_)
 refine ac (ae Z (bM ?_))
 have hQ0:=dJ 47 t
 refine js Z (au O Z Z Z Z (pl (s:=t) (m:=47) h1 h2 (by omega) (by omega)) (al Z) Z Z Z Z (B0:=11000) Z Z (js Z (jf [4,3,2,0] Z (bM (bc (HS.lit O Z Z Z) Z (aD ?_))))))
 refine js Z (jn (ag (ac (js Z (jn (am (ax (X:=Nat×List Nd) (fun z=>⟨[(0,aS8 t),(4,.c (.d (strs (aC 47 t)))),(5,.c (.rs 900 0 z.2.length)),(6,eI (z.1:Nat))],[(900,.row false 5 (z.2.map Nd.cells))]⟩) (fun z=>z.1≤(aC 47 t).length∧z.2.length=z.1∧aI fH ((aC 47 t).take z.1)=some z.2∧z.2.length≤60) (fun z=>(aC 47 t).length-z.1) (0,[]) ((fV 11 Z).trans ((bw 11 900 Z Z).trans (Ent.to ⟨Z,Z,Z,Z,aq⟩ Z))) ?_ (fun z hi=>?_))))))))
 exact⟨dU _,Z,Z,by decide⟩
 refine ag (ac (ae Z ?_))
 first|refine et Z ?_|refine js Z ?_|refine bv Z Z ?_
 refine js Z (jf [15,0,4,5,6] Z (jn (ak Z (fun z15=>?_) (fun z15=>?_))))
 refine af (ag (am (ac (ae Z ?_))))
 have hi0:z.1<(aC 47 t).length:=by have:=bf z15;omega
 have hpl:((aC 47 t).getD z.1 default).length≤1048576:=by
  have h9:((aC 47 t).getD z.1 default)∈(aC 47 t):=by rw[av hi0];exact List.getElem_mem hi0
  have:=gH _ h9;omega
 obtain⟨x,hx⟩: ∃x,x=(gm ((aC 47 t).getD z.1 default)).1:=⟨_,rfl⟩
 obtain⟨b,hxb⟩: ∃b,b=(gm ((aC 47 t).getD z.1 default)).2:=⟨_,rfl⟩
 refine aa (aL O Z Z Z Z Z Z Z Z (dZ (by omega))) Z (js Z (jf [22,15,0,4,5,6] Z (au O Z Z Z Z ((ru (s:=((aC 47 t).getD z.1 default)) h1 h2 (by omega) (by omega)).plain (v:=_) (u:=.tup [qf x,eB b]) (by rw[hx,hxb])) (al Z) Z Z Z Z (B0:=24000) Z Z (aP Z (jf [25,24,15,0,4,5,6] Z (jl Z (aD ?_)))))))
 refine jo Z (aD ?_)
 refine js Z (jf [8,7,15,0,4,5,6] Z (jn (ag (ac (aP Z (jf [28,7,15,0,4,5,6] Z (ar 3 Z Z Z (fun hx=>ap hx Z (bg hx (bH O Z Z (by have:=hi.2.2.2;omega)) Z (ap hx Z (AN.nil)))) Z Z ?_)))))))
 first|refine aa (ao O Z Z Z Z Z) Z ?_|refine aa (Val.pickB O Z Z Z Z Z) Z ?_|refine aa (aj O Z Z Z Z Z) Z ?_
 refine jf [32,7,15,0,4,5,6] Z (jn (ak Z (fun z32=>?_) (fun z32=>?_)))
 refine ac (ae Z (jr ?_))
 refine az Z ?_
 have hbad:rP t=none:=by
  rcases l8.1 z32 with h|h
  refine kI ?_
  have hq:(aC 47 t)=(aC 47 t).take z.1++((aC 47 t).getD z.1 default)::(aC 47 t).drop (z.1+1):=by conv=>lhs;rw[←List.take_append_drop z.1 (aC 47 t),List.drop_eq_getElem_cons hi0,←av hi0]
  rw[hq];exact cT (rc (by rw[←hxb];exact h))
  exact lR (by have:=hi.2.1;omega)
 rw[hbad]
 exact .tup (.cons (.c .nils) (.cons (.c .d) .nil))
 refine af (ab ?_)
 have hno:=fL z32 l8
 have hb1:b=true:=by cases h:b with
 | true=>rfl
 | false=>exact absurd (.inl h) hno
 have hok1:fH ((aC 47 t).getD z.1 default)=some x:=by rw[hx];exact rb (by rw[←hxb];exact hb1)
 have h60: ¬z.2.length=60:=fun e=>hno (.inr (by omega))
 refine ae Z (bc (dj O Z Z Z Z Z Z Z Z Z Z Z) Z (aD ?_))
 refine jf [35,33,32,7,15,0,4,5,6] Z (bc (fY (own:=false) (xs:=z.2.map Nd.cells) (ys:=[Nd.cells x]) (zs:=(z.2++[x]).map Nd.cells) (n:=(z.2++[x]).length) O Z (.row Z (cz _).symm) (.whole Z Z (.inr ⟨Z,Z⟩)) (by simp) Z (by simp;omega) (by simp;omega) (by simp) (by simp)) Z (aD ?_))
 refine aD ?_
 refine js Z (jf [5,32,7,15,0,4,6] Z (jn (ab (js Z ?_))))
 first|refine ji Z ?_|refine bv Z Z ?_
 refine js Z (jf [6,5,32,7,15,0,4] Z (jn ?_))
 refine⟨(z.1+1,z.2++[x]),((aE [36] (e':=[(0,_),(4,_),(5,_),(6,_)]) Z Z ⟨Z,Z,Z,Z,aq⟩ Z).trans (bw 36 900 Z Z)).trans (Ent.to ⟨Z,Z,Z,Z,aq⟩ Z),⟨by show z.1+1≤_;omega,by show(z.2++[x]).length=z.1+1;rw[cS,hi.2.1];rfl,?_,by show(z.2++[x]).length≤60;rw[cS];have:[x].length=1:=rfl;omega⟩,by show(aC 47 t).length-(z.1+1)<(aC 47 t).length-z.1;omega⟩
 show aI fH ((aC 47 t).take (z.1+1))=some (z.2++[x])
 rw[List.take_succ_eq_append_getElem hi0,←av hi0]
 exact cw hi.2.2.1 hok1
 refine aZ (ag (ac ?_))
 have hz1:z.1=(aC 47 t).length:=by have:=bB z15;omega
 have hall:=hi.2.2.1
 rw[hz1,List.take_length]at hall
 obtain⟨htx,htR⟩:=rP_text hall
 refine js Z (aX O Z Z Z Z (c83 (p:=z.2) h1 h2) (.cons (.c (.whole Z (cz _).symm)) .nil) Z Z Z Z Z (B0:=39000) Z (ae Z (jf [40,15,0,4,5,6] Z (ar 4 Z Z Z (fun hx=>ap hx Z (bO O hx Z Z Z Z (rt (p:=z.2) h1 h2 htR (by rw[htx];omega)) (.cons (.c (.whole Z (cz _).symm)) .nil) Z Z Z Z Z Z Z (B0:=43000) Z (ap hx Z (bg hx (dN (p:=aH 47 (z.2.map bu)) (q:=t) O Z Z Z Z Z Z) Z (AN.nil))))) Z Z ?_))))
 first|refine aa (ao O Z Z Z Z Z) Z ?_|refine aa (Val.pickB O Z Z Z Z Z) Z ?_|refine aa (aj O Z Z Z Z Z) Z ?_
 refine jf [45,15,0,4,5,6] Z (jn (ak Z (fun z45=>?_) (fun z45=>?_)))
 refine ac (ae Z (jr ?_))
 refine az Z ?_
 have hbad:rP t=none:=by
  rw[mM hall,isI_eq]
  rcases q_or.1 z45 with h|h
  rw[h];rfl
  exact absurd htx h
 rw[hbad]
 exact .tup (.cons (.c .nils) (.cons (.c .d) .nil))
 refine af (ac (aP Z (jr ?_)))
 refine az Z ?_
 have hyes:rP t=some z.2:=by
  have h9:isB z.2=true:=by cases h:isB z.2 with
 | true=>rfl
 | false=>exact absurd (q_or.2 (.inl h)) (by rw[z45];simp)
  rw[mM hall,isI_eq,if_pos h9]
 rw[hyes]
 exact .tup (.cons (.c (.whole Z (cz _).symm)) (.cons (.c .d) .nil))
end Go.Al
/- What the program's ReadDecimal answers: strconv.ParseInt, a bound, and the decimal text compared. -/
namespace Go.Al
variable{L:Nat}(h1:4096≤L)(h2:L≤1073741824)
open Go.Proofs Go.RowKit
theorem Frame.below{w w':World}(h:Frame w w' []):Below w.heap.size w w':=⟨h.os,h.tape,h.output,h.size,fun k hk=>h.block k hk (by simp)⟩
theorem Frame.of_below{w w':World}(h:Below w.heap.size w w'):Frame w w' []:=⟨h.os,h.tape,h.output,h.size,fun k hk _=>h.block k hk⟩
theorem GOk.below{P:Program}{w w':World}{ok:Nat→Prop}(h:GOk P w ok)(hb:Below w.heap.size w w'):GOk P w' ok:=h.mono fun b h1 h2=>⟨h2,hb.block b h1⟩
theorem MC.calls{P:Program}{L f:Nat}{args:List A}{v:A}(h:MC P L f args [] (Plain v)){w:World}{ok:Nat→Prop}{vs:List Value}(hg:GOk P w ok)(ha:RAs L w ok (fun _=>.nil) args vs) :
    Calls P f vs.toArray w (i4 fun x w'=>Below w.heap.size w w'∧∃ok' m',RA L w' ok' m' v x):=by
 refine Calls.mono (h.2 w (fun _=>.nil) [] ok vs hg .nil List.nodup_nil (fun b hb=>by cases hb) (fun _ _ _ _ h=>by cases h) ha) fun e w' he=>?_
 cases e with
 | returned x=>
  obtain⟨res,H',m',F',⟨rfl,rfl⟩,_,_,_,hres,hf,_,_⟩:=he
  exact⟨hf.below,_,_,hres⟩
 | _=>exact he.elim
theorem gd{L:Nat}(h1:4096≤L)(h2:L≤1073741824){v:Int}{w:World}{ok:Nat→Prop}(hg:GOk Tryd.prog w ok)(hv: -9223372036854775808≤v∧v≤9223372036854775807) :
    Calls Tryd.prog 89 #[.int .i64 v,.int .i64 (-1000000000),.int .i64 1000000000] w fun e w'=>e= .returned (.bool (nY (-1000000000) 1000000000 v))∧Below w.heap.size w w':=by
 refine Calls.mono ((n7 (x:=v) (lo:= -1000000000) (hi:=1000000000) h1 h2).calls hg (vs:=[.int .i64 v,.int .i64 (-1000000000),.int .i64 1000000000]) (.cons (.c (.d (.int hv.1 hv.2))) (.cons (.c (.d (.int (by decide) (by decide)))) (.cons (.c (.d (.int (by decide) (by decide)))) .nil)))) fun e w' he=>?_
 cases e with
 | returned x=>
  obtain⟨hB,_,_,hr⟩:=he
  exact⟨by rw[hr.bool_inv],hB⟩
 | _=>exact he.elim
theorem jI{L:Nat}(h1:4096≤L)(h2:L≤1073741824){v:Int}{w:World}{ok:Nat→Prop}(hg:GOk Tryd.prog w ok)(hv: -9223372036854775808≤v∧v≤9223372036854775807) :
    Calls Tryd.prog 70 #[.int .i64 v] w fun e w'=>e= .returned (.string (bS (Lib.itoa v)))∧Below w.heap.size w w':=by
 refine Calls.mono ((mW (n:=v) h1 h2 hv.1 hv.2).calls hg (vs:=[.int .i64 v]) (.cons (.c (.d (.int hv.1 hv.2))) .nil)) fun e w' he=>?_
 cases e with
 | returned x=>
  obtain⟨hB,_,_,hr⟩:=he
  exact⟨by rw[hr.str_inv.1],hB⟩
 | _=>exact he.elim
theorem jU{s:ByteArray}{w:World}{v:Int}{tp:TypeId}(hP:Calls Tryd.prog 102 #[.string s,.int .i64 10,.int .i64 64] w fun e w'=> ∃p,e= .returned (.tuple #[.int .i64 v,.iface tp p])∧Below w.heap.size w w') :
    Calls Tryd.prog 86 #[.string s] w fun e w'=>e= .returned (.tuple #[.int .i64 0,.bool false])∧Below w.heap.size w w':=by
 go_enter Tryd.func86,Tryd.ntmps86
 go_wp2_with fail
 refine hP.mono fun e W1 ⟨p,he,hB⟩=>?_
 subst he
 go_wp2_with fail
 go_ret2
 exact⟨Z,hB⟩
theorem nz{s:ByteArray}{w:World}{v:Int}(hP:Calls Tryd.prog 102 #[.string s,.int .i64 10,.int .i64 64] w fun e w'=>e= .returned (.tuple #[.int .i64 v,.nilIface])∧Below w.heap.size w w')
    (hI: ∀W1,Below w.heap.size w W1→Calls Tryd.prog 89 #[.int .i64 v,.int .i64 (-1000000000),.int .i64 1000000000] W1 fun e w'=>e= .returned (.bool false)∧Below W1.heap.size W1 w') :
    Calls Tryd.prog 86 #[.string s] w fun e w'=>e= .returned (.tuple #[.int .i64 0,.bool false])∧Below w.heap.size w w':=by
 go_enter Tryd.func86,Tryd.ntmps86
 go_wp2_with fail
 refine hP.mono fun e W1 ⟨he,hB⟩=>?_
 subst he
 go_wp2_with fail
 refine(hI W1 hB).mono fun e W2 ⟨he,hB2⟩=>?_
 subst he
 go_wp2_with fail
 go_ret2
 exact⟨Z,hB.trans (hB2.mono hB.size)⟩
theorem ow{w:World}{v:Int}{s d:ByteArray}(hs:d=s)(hP:Calls Tryd.prog 102 #[.string s,.int .i64 10,.int .i64 64] w fun e w'=>e= .returned (.tuple #[.int .i64 v,.nilIface])∧Below w.heap.size w w')
    (hI: ∀W1,Below w.heap.size w W1→Calls Tryd.prog 89 #[.int .i64 v,.int .i64 (-1000000000),.int .i64 1000000000] W1 fun e w'=>e= .returned (.bool true)∧Below W1.heap.size W1 w')
    (hD: ∀W1,Below w.heap.size w W1→Calls Tryd.prog 70 #[.int .i64 v] W1 fun e w'=>e= .returned (.string d)∧Below W1.heap.size W1 w') :
    Calls Tryd.prog 86 #[.string s] w fun e w'=>e= .returned (.tuple #[.int .i64 v,.bool true])∧Below w.heap.size w w':=by
 subst hs
 go_enter Tryd.func86,Tryd.ntmps86
 go_wp2_with fail
 refine hP.mono fun e W1 ⟨he,hB⟩=>?_
 subst he
 go_wp2_with fail
 refine(hI W1 hB).mono fun e W2 ⟨he,hB2⟩=>?_
 subst he
 have hB3:=hB.trans (hB2.mono hB.size)
 go_wp2_with fail
 refine(hD W2 hB3).mono fun e W3 ⟨he,hB4⟩=>?_
 subst he
 have hB5:=hB3.trans (hB4.mono hB3.size)
 go_wp2_with fail
 go_ret2
 exact⟨Z,hB5⟩
theorem ov{w:World}{v:Int}{s d:ByteArray}(hs:(!d.toList==s.toList)=true)(hP:Calls Tryd.prog 102 #[.string s,.int .i64 10,.int .i64 64] w fun e w'=>e= .returned (.tuple #[.int .i64 v,.nilIface])∧Below w.heap.size w w')
    (hI: ∀W1,Below w.heap.size w W1→Calls Tryd.prog 89 #[.int .i64 v,.int .i64 (-1000000000),.int .i64 1000000000] W1 fun e w'=>e= .returned (.bool true)∧Below W1.heap.size W1 w')
    (hD: ∀W1,Below w.heap.size w W1→Calls Tryd.prog 70 #[.int .i64 v] W1 fun e w'=>e= .returned (.string d)∧Below W1.heap.size W1 w') :
    Calls Tryd.prog 86 #[.string s] w fun e w'=>e= .returned (.tuple #[.int .i64 0,.bool false])∧Below w.heap.size w w':=by
 go_enter Tryd.func86,Tryd.ntmps86
 go_wp2_with fail
 refine hP.mono fun e W1 ⟨he,hB⟩=>?_
 subst he
 go_wp2_with fail
 refine(hI W1 hB).mono fun e W2 ⟨he,hB2⟩=>?_
 subst he
 have hB3:=hB.trans (hB2.mono hB.size)
 go_wp2_with fail
 refine(hD W2 hB3).mono fun e W3 ⟨he,hB4⟩=>?_
 subst he
 have hB5:=hB3.trans (hB4.mono hB3.size)
 go_wp2_with fail
 go_ret2
 exact⟨Z,hB5⟩
theorem lA{s:Str}(hs:s.length≤1100000):MQ h1 h2 86 [aS8 s] [] (Plain (n8 (cJ s))):=by
 refine kR ⟨_,_,Tryd.func86,by kernel_rfl,Z⟩ fun w ok m vs h0 h5=>?_
 cases h5 with
 | cons a1 a2=>
  cases a2
  obtain⟨rfl,hsL⟩:=RA.str_inv a1
  have hsz:(bS s).size≤1100000:=by rw[bS_size];exact hs
  have hdl:(bS s).data.toList=s:=iF s
  have fin: ∀{n:Int} {b:Bool} {e w'},(-9223372036854775808≤n∧n≤9223372036854775807)→e=Ending.returned (.tuple #[.int .i64 n,.bool b])∧Below w.heap.size w w'→n8 (cJ s)= .tup [eI n,eB b]→i4 (fun x w'=>Frame w w' []∧∀ok' m',(∀b,w.heap.size≤b→ok' b)→RA L w' ok' m' (n8 (cJ s)) x) e w':=by
   rintro n b e w' hn ⟨rfl,hB⟩ hv
   rw[hv]
   exact⟨.of_below hB,fun ok' m' _=>.tup (.cons (.c (.d (.int hn.1 hn.2))) (.cons (.c (.d .bool)) .nil))⟩
  cases hp:Lib.parseIntB 64 s
  case ok v=>
   have hb:=Lib.parseIntB_bounds hp
   have hb2: -9223372036854775808≤v∧v≤9223372036854775807:=by simp at hb;omega
   have hP:=(Tryd.strconv_ParseInt_10_at64_ok (bS s) (by omega) v (by rw[hdl];exact hp) w).mono (R':=fun e w'=>e= .returned (.tuple #[.int .i64 v,.nilIface])∧Below w.heap.size w w') fun e w' ⟨a,hw⟩=>⟨a,by
    rcases hw with rfl|⟨t,rfl⟩
    ·
     exact Below.refl _ _
    ·
     exact Lib.bytesWorld_below _ _ _⟩
   by_cases hr: -1000000000≤v∧v≤1000000000
   ·
    have hin:nY (-1000000000) 1000000000 v=true:=by unfold nY;simp[hr.1,hr.2]
    have hW:=fun(W1:World) (hB:Below w.heap.size w W1)=>show Calls Tryd.prog 89 #[.int .i64 v,.int .i64 (-1000000000),.int .i64 1000000000] W1 fun e w'=>e= .returned (.bool true)∧Below W1.heap.size W1 w' by have h:=gd h1 h2 (h0.below hB) hb2;rw[hin]at h;exact h
    have hD:=fun(W1:World) (hB:Below w.heap.size w W1)=>jI h1 h2 (h0.below hB) hb2
    have hd:(bS (Lib.itoa v)=bS s)↔Lib.itoa v=s:=⟨fun h=>by have:=congrArg (fun b=>b.data.toList) h;simpa[iF]using this,fun h=>by rw[h]⟩
    by_cases h9:Lib.itoa v=s
    ·
     refine Calls.mono (ow (hd.2 h9) hP hW hD) fun e w' he=>fin (by omega) he ?_
     unfold cJ
     rw[hp]
     simp only[h9,hr,and_self,if_true];rfl
    ·
     refine Calls.mono (ov (by rw[fv,fv];simp[h9]) hP hW hD) fun e w' he=>fin (by decide) he ?_
     unfold cJ
     rw[hp]
     simp only[h9,hr,and_false,if_false];rfl
   ·
    have hin:nY (-1000000000) 1000000000 v=false:=by unfold nY;simp;omega
    refine Calls.mono (nz hP (fun W1 hB=>by have h:=gd h1 h2 (h0.below hB) hb2;rw[hin]at h;exact h)) fun e w' he=>fin (by decide) he ?_
    unfold cJ
    rw[hp]
    simp only[hr,false_and,if_false];rfl
  case range=>
   obtain⟨_,cs,hv,hc⟩:=h0 "strconv.ErrRange" 5 (by simp[GN]) (by kernel_rfl)
   obtain⟨ev,he,hev⟩:=nr hc (.inr rfl)
   have hcell:=World.var?_cell (show Tryd.prog.globalNamed "strconv.ErrRange" = some 5 by kernel_rfl) hv 0
   rw[he]at hcell
   refine Calls.mono (jU ((Tryd.strconv_ParseInt_10_at64_range (bS s) (by omega) (by rw[hdl];exact hp) ev w hcell hev).mono fun e w' ⟨N,a,_,_,hB⟩=>⟨_,a,hB⟩)) fun e w' he=>fin (by decide) he (by unfold cJ;rw[hp];rfl)
  ·
   obtain⟨_,cs,hv,hc⟩:=h0 "strconv.ErrSyntax" 4 (by simp[GN]) (by kernel_rfl)
   obtain⟨ev,he,hev⟩:=nr hc (.inl rfl)
   have hcell:=World.var?_cell (show Tryd.prog.globalNamed "strconv.ErrSyntax" = some 4 by kernel_rfl) hv 0
   rw[he]at hcell
   refine Calls.mono (jU ((Tryd.strconv_ParseInt_10_at64_syntax (bS s) (by omega) (by rw[hdl];exact hp) ev w hcell hev).mono fun e w' ⟨N,a,_,_,hB⟩=>⟨_,a,hB⟩)) fun e w' he=>fin (by decide) he (by unfold cJ;rw[hp];rfl)
theorem lu{s:Str}(h:s≠[])(hb:s.getD 0 0=99):iu s=(match iv (s.drop 1)with
    | none=>(mF,false)
    | some ms=>(qk ms,true)):=by
  unfold iu;rw[if_neg h,if_pos hb]<;>rfl
theorem o0{s:Str}(h:s≠[])(hb:s.getD 0 0=115):iu s=(qj (fo (fj (s.drop 1))).1,(fo (fj (s.drop 1))).2):=by
 unfold iu;rw[if_neg h,if_neg (by rw[hb];decide),if_pos hb]
theorem oZ{s:Str}(h:s≠[])(hb:s.getD 0 0=116):iu s=(ql (dY (cJ (s.drop 1))).1,(dY (cJ (s.drop 1))).2):=by
 unfold iu;rw[if_neg h,if_neg (by rw[hb];decide),if_neg (by rw[hb];decide),if_pos hb]
theorem lr{s:Str}(h:s≠[]→¬s.getD 0 0=99∧¬s.getD 0 0=115∧¬s.getD 0 0=116):iu s=(mF,false):=by
 unfold iu
 by_cases hs:s=[]
 rw[if_pos hs]
 obtain⟨h1,h2,h3⟩:=h hs
 rw[if_neg hs,if_neg h1,if_neg h2,if_neg h3]
theorem pW{s:Str}(hL:1048576<L)(hs:s.length≤1048576)(hne:s≠[])(hb:s.getD 0 0=99):MQ h1 h2 57 [aS8 s] [] (Plain (n0 (iu s))):=by
 refine MC.data (jB 71 h1 h2 Tryd.func57 Z fun O hF=>?_)
 refine ac (jl Z (aD ?_))
 refine js Z (jn (ag (ac (js Z (aa (Val.seq (p:=s) (q:=[]) O Z Z Z Z Z Z) Z (jn (ak Z (fun z15=>?_) (fun z15=>?_))))))))
 exact absurd (bf z15) hne
 refine af (ac (js Z ?_))
 have hdl:(s.drop 1).length≤1048576:=by rw[List.length_drop];omega
 refine aa ((aY (p:=s) (a:=1) (b:=s.length) O Z Z Z Z Z Z Z Z Z Z (be hne) (bD _)).cast (v':=aS8 (s.drop 1)) (by rw[List.take_of_length_le (by rw[List.length_drop];omega)])) Z (js Z (jf [4,14,3,2,0] Z (jn (ag (ac (js Z (aa (aw (p:=s) (b:=s.getD 0 0) O Z Z Z Z Z Z Z (by omega) (aS (i:=0) (be hne))) Z (jn (am (ac (ae Z (jn (ak Z (fun z21=>?_) (fun z21=>?_))))))))))))))
 refine ac (js Z (jf [23,22,20,19,4,14,3,2,0] Z (jl Z (aD ?_))))
 refine jo Z (aD ?_)
 refine jn (ag (ac (js Z (aa (Val.seq (p:=s.drop 1) (q:=[]) O Z Z Z Z Z Z) Z (jn (ak Z (fun z25=>?_) (fun z25=>?_)))))))
 refine ac (js Z (jf [26,24,5,23,22,20,19,4,14,3,2,0] Z (jo Z (aD ?_))))
 refine js Z (jr ?_)
 refine az Z ?_
 rw[lu hne hb,show iv (s.drop 1)=some [] by unfold iv;rw[if_pos (bf z25)]]
 exact .tup (.cons (.agg (.cons .d (.cons .d (.cons .d (.cons .nils (.cons .nils .nil)))))) (.cons (.c .d) .nil))
 refine af (ag (ac ?_))
 have hne1:s.drop 1≠[]:=bB z25
 have hQ0:=dJ 44 (s.drop 1)
 refine js Z (jf [27,24,5,23,22,20,19,4,14,3,2,0] Z (au O Z Z Z Z ((lC (s:=s.drop 1) (sep:=[44]) h1 h2 (by simp) (by rw[dq];omega)).plain (v:=_) (u:=.c (.d (strs (aC 44 (s.drop 1))))) (by rw[dq])) (al Z) Z Z Z Z (B0:=29000) Z Z ?_))
 first|refine et Z ?_|refine js Z ?_|refine bv Z Z ?_
 refine js Z (jn (am (ax (X:=Nat×List Int) (fun z=>⟨[(2,.c (.pt 2 0 0)),(5,.c (.pt 5 0 0)),(28,.c (.d (strs (aC 44 (s.drop 1))))),(29,eI (aC 44 (s.drop 1)).length),(30,eI (z.1:Nat))],[(2,.box [.d (.int .i64 0),.d (.int .i64 0),.d (.int .i64 0),.d .nils,.d .nils]),(5,.box [.d (.int .i64 1),.d (.int .i64 0),.d (.int .i64 0),.d .nils,.rs 900 0 z.2.length]),(900,.row false 1 (z.2.map (fun n=>[D.int .i64 n])))]⟩) (fun z=>z.1≤(aC 44 (s.drop 1)).length∧z.2.length=z.1∧aI cJ ((aC 44 (s.drop 1)).take z.1)=some z.2) (fun z=>(aC 44 (s.drop 1)).length-z.1) (0,[]) ((gl 5 900 1 false 4 Z Z Z).trans (Ent.to ⟨Z,Z,Z,Z,Z,aq⟩ Z)) ?_ (fun z hi=>?_))))
 exact⟨dU _,Z,Z⟩
 refine ac (js Z (jn (ag (ak Z (fun z31=>?_) (fun z31=>?_)))))
 refine af (ag (am (ac ?_)))
 have hi0:z.1<(aC 44 (s.drop 1)).length:=by have:=bf z31;omega
 have hpl:((aC 44 (s.drop 1)).getD z.1 default).length≤1048576:=by
  have h9:((aC 44 (s.drop 1)).getD z.1 default)∈(aC 44 (s.drop 1)):=by rw[av hi0];exact List.getElem_mem hi0
  have:=gH _ h9;omega
 obtain⟨n,hn⟩: ∃n,n=(dY (cJ ((aC 44 (s.drop 1)).getD z.1 default))).1:=⟨_,rfl⟩
 obtain⟨nB,hnB⟩: ∃b,b=(dY (cJ ((aC 44 (s.drop 1)).getD z.1 default))).2:=⟨_,rfl⟩
 refine aa (aL O Z Z Z Z Z Z Z Z (dZ (by omega))) Z (ae Z (jf [7,31,2,5,28,29,30] Z (bM (js Z (jf [35,31,2,5,28,29,30] Z (au O Z Z Z Z ((lA (s:=((aC 44 (s.drop 1)).getD z.1 default)) h1 h2 (by omega)).plain (v:=_) (u:=.tup [eI n,eB nB]) (by rw[hn,hnB])) (al Z) Z Z Z Z (B0:=37000) Z Z (bn Z (js Z (jf [9,8,31,2,5,28,29,30] Z (jn (ag (ac (ae Z (jf [40,8,31,2,5,28,29,30] Z (jn (ak Z (fun z40=>?_) (fun z40=>?_)))))))))))))))))
 refine ac (js Z (jo Z (aD ?_)))
 refine js Z (jr ?_)
 refine az Z ?_
 have hx:cJ ((aC 44 (s.drop 1)).getD z.1 default)=none:=kH (by rw[←hnB];simpa using z40)
 have hq:(aC 44 (s.drop 1))=(aC 44 (s.drop 1)).take z.1++((aC 44 (s.drop 1)).getD z.1 default)::(aC 44 (s.drop 1)).drop (z.1+1):=by conv=>lhs;rw[←List.take_append_drop z.1 (aC 44 (s.drop 1)),List.drop_eq_getElem_cons hi0,←av hi0]
 have hms:iv (s.drop 1)=none:=by unfold iv;rw[if_neg hne1,hq];exact cT hx
 rw[lu hne hb,hms]
 exact .tup (.cons (.agg (.cons .d (.cons .d (.cons .d (.cons .nils (.cons .nils .nil)))))) (.cons (.c .d) .nil))
 refine af (ab ?_)
 have hok1:cJ ((aC 44 (s.drop 1)).getD z.1 default)=some n:=by rw[hn];exact kG (by rw[←hnB];simpa using z40)
 refine aP Z (jf [44,43,40,31,2,5,28,29,30] Z (bc (dj O Z Z Z Z Z Z Z Z Z Z Z) Z (aD ?_)))
 refine jf [45,43,40,31,2,5,28,29,30] Z (bc (fY (own:=false) (xs:=z.2.map (fun n=>[D.int .i64 n])) (ys:=[[.int .i64 n]]) (zs:=(z.2++[n]).map (fun n=>[D.int .i64 n])) (n:=(z.2++[n]).length) O Z (.row Z (cz _).symm) (.whole Z Z (.inr ⟨Z,Z⟩)) (by simp) Z (by simp;omega) (by simp;omega) (by simp) (by simp)) Z (aD ?_))
 refine aD ?_
 refine js Z (jf [47,46,40,31,2,5,28,29,30] Z (jo Z (aD ?_)))
 refine jf [40,31,2,5,28,29,30] Z (jn (ab ?_))
 first|refine ji Z ?_|refine bv Z Z ?_
 refine js Z (jn ?_)
 refine⟨(z.1+1,z.2++[n]),((aE [2,5,46] (e':=[(2,_),(5,_),(28,_),(29,_),(30,_)]) Z Z ⟨Z,Z,Z,Z,Z,aq⟩ Z).trans (bw 46 900 Z Z)).trans (Ent.to ⟨Z,Z,Z,Z,Z,aq⟩ Z),⟨by show z.1+1≤_;omega,by show(z.2++[n]).length=z.1+1;rw[cS,hi.2.1];rfl,?_⟩,by show(aC 44 (s.drop 1)).length-(z.1+1)<(aC 44 (s.drop 1)).length-z.1;omega⟩
 show aI cJ ((aC 44 (s.drop 1)).take (z.1+1))=some (z.2++[n])
 rw[List.take_succ_eq_append_getElem hi0,←av hi0]
 exact cw hi.2.2 hok1
 refine aZ (ac (js Z (jo Z (aD ?_))))
 refine js Z (jr ?_)
 refine az Z ?_
 have hz1:z.1=(aC 44 (s.drop 1)).length:=by have:=bB z31;omega
 have hall:=hi.2.2
 rw[hz1,List.take_length]at hall
 rw[lu hne hb,pf hne1 hall]
 exact .tup (.cons (.agg (.cons .d (.cons .d (.cons .d (.cons .nils (.cons (.whole Z (cz _).symm) .nil)))))) (.cons (.c .d) .nil))
 exact absurd (du (n:=99) (by decide) hb) (bB z21)
theorem pV{s:Str}(hL:1048576<L)(hs:s.length≤1048576)(hne:s≠[])(hb:s.getD 0 0=115):MQ h1 h2 57 [aS8 s] [] (Plain (n0 (iu s))):=by
 refine MC.data (jB 71 h1 h2 Tryd.func57 Z fun O hF=>?_)
 refine ac (jl Z (aD ?_))
 refine js Z (jn (ag (ac (js Z (aa (Val.seq (p:=s) (q:=[]) O Z Z Z Z Z Z) Z (jn (ak Z (fun z15=>?_) (fun z15=>?_))))))))
 exact absurd (bf z15) hne
 refine af (ac (js Z ?_))
 have hdl:(s.drop 1).length≤1048576:=by rw[List.length_drop];omega
 refine aa ((aY (p:=s) (a:=1) (b:=s.length) O Z Z Z Z Z Z Z Z Z Z (be hne) (bD _)).cast (v':=aS8 (s.drop 1)) (by rw[List.take_of_length_le (by rw[List.length_drop];omega)])) Z (js Z (jf [4,14,3,2,0] Z (jn (ag (ac (js Z (aa (aw (p:=s) (b:=s.getD 0 0) O Z Z Z Z Z Z Z (by omega) (aS (i:=0) (be hne))) Z (jn (am (ac (ae Z (jn (ak Z (fun z21=>?_) (fun z21=>?_))))))))))))))
 exact absurd (bf z21) (bV (n:=99) (by decide) (by rw[hb];decide))
 refine ac (ae Z (jf [50,22,20,19,4,14,3,2,0] Z (jn (ak Z (fun z50=>?_) (fun z50=>?_)))))
 refine ac ?_
 obtain⟨t,ht⟩: ∃t,t=(fo (fj (s.drop 1))).1:=⟨_,rfl⟩
 obtain⟨tB,htB⟩: ∃b,b=(fo (fj (s.drop 1))).2:=⟨_,rfl⟩
 refine js Z (jf [53,22,20,19,4,14,3,2,0] Z (au O Z Z Z Z ((rx (s:=s.drop 1) h1 h2 (by omega)).plain (v:=_) (u:=.tup [gE t,eB tB]) (by rw[ht,htB])) (al Z) Z Z Z Z (B0:=55000) Z Z (aP Z (jf [56,55,22,20,19,4,14,3,2,0] Z (jl Z (aD ?_))))))
 refine jo Z (aD ?_)
 refine js Z (jf [11,10,22,20,19,4,14,3,2,0] Z (bM (aP Z (jf [59,58,10,22,20,19,4,14,3,2,0] Z (jo Z (aD ?_))))))
 refine js Z (jf [3,10,22,20,19,4,14,2,0] Z (jr ?_))
 refine az Z ?_
 rw[o0 hne hb,←ht,←htB]
 exact .tup (.cons (.agg (.cons .d (.cons .d (.cons .d (.cons .d (.cons .nils .nil)))))) (.cons (.c .d) .nil))
 exact absurd (du (n:=115) (by decide) hb) (bB z50)
theorem pU{s:Str}(hL:1048576<L)(hs:s.length≤1048576)(hne:s≠[])(hb:s.getD 0 0=116):MQ h1 h2 57 [aS8 s] [] (Plain (n0 (iu s))):=by
 refine MC.data (jB 71 h1 h2 Tryd.func57 Z fun O hF=>?_)
 refine ac (jl Z (aD ?_))
 refine js Z (jn (ag (ac (js Z (aa (Val.seq (p:=s) (q:=[]) O Z Z Z Z Z Z) Z (jn (ak Z (fun z15=>?_) (fun z15=>?_))))))))
 exact absurd (bf z15) hne
 refine af (ac (js Z ?_))
 have hdl:(s.drop 1).length≤1048576:=by rw[List.length_drop];omega
 refine aa ((aY (p:=s) (a:=1) (b:=s.length) O Z Z Z Z Z Z Z Z Z Z (be hne) (bD _)).cast (v':=aS8 (s.drop 1)) (by rw[List.take_of_length_le (by rw[List.length_drop];omega)])) Z (js Z (jf [4,14,3,2,0] Z (jn (ag (ac (js Z (aa (aw (p:=s) (b:=s.getD 0 0) O Z Z Z Z Z Z Z (by omega) (aS (i:=0) (be hne))) Z (jn (am (ac (ae Z (jn (ak Z (fun z21=>?_) (fun z21=>?_))))))))))))))
 exact absurd (bf z21) (bV (n:=99) (by decide) (by rw[hb];decide))
 refine ac (ae Z (jf [50,22,20,19,4,14,3,2,0] Z (jn (ak Z (fun z50=>?_) (fun z50=>?_)))))
 exact absurd (bf z50) (bV (n:=115) (by decide) (by rw[hb];decide))
 refine ac (ae Z (jf [60,22,20,19,4,14,3,2,0] Z (jn (ak Z (fun z60=>?_) (fun z60=>?_)))))
 refine ac ?_
 obtain⟨t,ht⟩: ∃t,t=(dY (cJ (s.drop 1))).1:=⟨_,rfl⟩
 obtain⟨tB,htB⟩: ∃b,b=(dY (cJ (s.drop 1))).2:=⟨_,rfl⟩
 refine js Z (jf [63,22,20,19,4,14,3,2,0] Z (au O Z Z Z Z ((lA (s:=s.drop 1) h1 h2 (by omega)).plain (v:=_) (u:=.tup [eI t,eB tB]) (by rw[ht,htB])) (al Z) Z Z Z Z (B0:=65000) Z Z (bn Z (js Z (jf [13,12,22,20,19,4,14,3,2,0] Z (bM (aP Z (jf [69,68,22,20,19,4,14,3,2,0] Z (jo Z (aD ?_))))))))))
 refine js Z (jf [3,22,20,19,4,14,2,0] Z (jr ?_))
 refine az Z ?_
 rw[oZ hne hb,←ht,←htB]
 exact .tup (.cons (.agg (.cons .d (.cons .d (.cons .d (.cons .nils (.cons .nils .nil)))))) (.cons (.c .d) .nil))
 exact absurd (du (n:=116) (by decide) hb) (bB z60)
theorem no{s:Str}(hL:1048576<L)(hs:s.length≤1048576)(hn:s≠[]→¬s.getD 0 0=99∧¬s.getD 0 0=115∧¬s.getD 0 0=116):MQ h1 h2 57 [aS8 s] [] (Plain (n0 (iu s))):=by
 refine MC.data (jB 71 h1 h2 Tryd.func57 Z fun O hF=>?_)
 refine ac (jl Z (aD ?_))
 refine js Z (jn (ag (ac (js Z (aa (Val.seq (p:=s) (q:=[]) O Z Z Z Z Z Z) Z (jn (ak Z (fun z15=>?_) (fun z15=>?_))))))))
 refine ac (js Z (jf [16,14,3,2,0] Z (jo Z (aD ?_))))
 refine js Z (jr ?_)
 refine az Z ?_
 rw[lr hn]
 exact .tup (.cons (.agg (.cons .d (.cons .d (.cons .d (.cons .nils (.cons .nils .nil)))))) (.cons (.c .d) .nil))
 refine af (ac (js Z ?_))
 have hne:s≠[]:=bB z15
 have hdl:(s.drop 1).length≤1048576:=by rw[List.length_drop];omega
 refine aa ((aY (p:=s) (a:=1) (b:=s.length) O Z Z Z Z Z Z Z Z Z Z (be hne) (bD _)).cast (v':=aS8 (s.drop 1)) (by rw[List.take_of_length_le (by rw[List.length_drop];omega)])) Z (js Z (jf [4,14,3,2,0] Z (jn (ag (ac (js Z (aa (aw (p:=s) (b:=s.getD 0 0) O Z Z Z Z Z Z Z (by omega) (aS (i:=0) (be hne))) Z (jn (am (ac (ae Z (jn (ak Z (fun z21=>?_) (fun z21=>?_))))))))))))))
 exact absurd (bf z21) (bV (n:=99) (by decide) (hn hne).1)
 refine ac (ae Z (jf [50,22,20,19,4,14,3,2,0] Z (jn (ak Z (fun z50=>?_) (fun z50=>?_)))))
 exact absurd (bf z50) (bV (n:=115) (by decide) (hn hne).2.1)
 refine ac (ae Z (jf [60,22,20,19,4,14,3,2,0] Z (jn (ak Z (fun z60=>?_) (fun z60=>?_)))))
 exact absurd (bf z60) (bV (n:=116) (by decide) (hn hne).2.2)
 refine af (ac (js Z (jf [70,22,20,19,4,14,3,2,0] Z (jo Z (aD ?_)))))
 refine js Z (jr ?_)
 refine az Z ?_
 rw[lr hn]
 exact .tup (.cons (.agg (.cons .d (.cons .d (.cons .d (.cons .nils (.cons .nils .nil)))))) (.cons (.c .d) .nil))
theorem rq{L:Nat}(h1:4096≤L)(h2:L≤1073741824){s:Str}(hL:1048576<L)(hs:s.length≤1048576):MC Tryd.prog L 57 [aS8 s] [] (Plain (n0 (iu s))):=by
 by_cases hne:s=[]
 exact no h1 h2 hL hs (fun h=>absurd hne h)
 by_cases h99:s.getD 0 0=99
 exact pW h1 h2 hL hs hne h99
 by_cases h115:s.getD 0 0=115
 exact pV h1 h2 hL hs hne h115
 by_cases h116:s.getD 0 0=116
 exact pU h1 h2 hL hs hne h116
 exact no h1 h2 hL hs (fun _=>⟨h99,h115,h116⟩)
theorem fQ{s:Str}{x:Nd}(h:fH s=some x):s≠[]∧((s.getD 0 0=99∧∃ms,iv (s.drop 1)=some ms∧x=qk ms)∨(s.getD 0 0=115∧∃t,fj (s.drop 1)=some t∧x=qj t)∨(s.getD 0 0=116∧∃n,cJ (s.drop 1)=some n∧x=ql n)):=by
 have hne:s≠[]:=fun e=>by
  unfold fH at h
  rw[lr (fun h9=>absurd e h9)]at h
  cases h
 refine⟨hne,?_⟩
 unfold fH at h
 by_cases h99:s.getD 0 0=99
 rw[lu hne h99]at h
 cases hm:iv (s.drop 1)with
 | none=>rw[hm]at h;cases h
 | some ms=>rw[hm]at h;exact .inl ⟨h99,ms,rfl,(Option.some.inj h).symm⟩
 by_cases h115:s.getD 0 0=115
 rw[o0 hne h115]at h
 cases hm:fj (s.drop 1)with
 | none=>rw[hm]at h;cases h
 | some t=>rw[hm]at h;exact .inr (.inl ⟨h115,t,rfl,(Option.some.inj h).symm⟩)
 by_cases h116:s.getD 0 0=116
 rw[oZ hne h116]at h
 cases hm:cJ (s.drop 1)with
 | none=>rw[hm]at h;cases h
 | some n=>rw[hm]at h;exact .inr (.inr ⟨h116,n,rfl,(Option.some.inj h).symm⟩)
 rw[lr (fun _=>⟨h99,h115,h116⟩)]at h
 cases h
theorem pg{r:Str}{ms:List Int}(h:iv r=some ms):(r=[]∧ms=[])∨(r≠[]∧aI cJ (aC 44 r)=some ms∧ms≠[]):=by
 unfold iv at h
 split at h
 rename_i h2;cases h;exact .inl ⟨h2,rfl⟩
 rename_i h2
 refine .inr ⟨h2,h,fun e=>?_⟩
 have h3:=eJ h
 rw[e]at h3
 exact m5 44 r (List.length_eq_zero_iff.1 h3.symm)
theorem oK{s:Str}{ms:List Int}(hL:1048576<L)(hs:s.length≤1048576)(hne:s≠[])(hb:s.getD 0 0=99)(hr:s.drop 1≠[])(hms:aI cJ (aC 44 (s.drop 1))=some ms):MQ h1 h2 57 [aS8 s] [] (Rows (.tup [.agg [.d (.int .i64 1),.d (.int .i64 0),.d (.int .i64 0),.d .nils,.rs 0 0 ms.length],eB true]) [cU ms]):=by
 refine di (jB 71 h1 h2 Tryd.func57 Z fun O hF=>?_)
 refine ac (jl Z (aD ?_))
 refine js Z (jn (ag (ac (js Z (aa (Val.seq (p:=s) (q:=[]) O Z Z Z Z Z Z) Z (jn (ak Z (fun z15=>?_) (fun z15=>?_))))))))
 exact absurd (bf z15) hne
 refine af (ac (js Z ?_))
 have hdl:(s.drop 1).length≤1048576:=by rw[List.length_drop];omega
 refine aa ((aY (p:=s) (a:=1) (b:=s.length) O Z Z Z Z Z Z Z Z Z Z (be hne) (bD _)).cast (v':=aS8 (s.drop 1)) (by rw[List.take_of_length_le (by rw[List.length_drop];omega)])) Z (js Z (jf [4,14,3,2,0] Z (jn (ag (ac (js Z (aa (aw (p:=s) (b:=s.getD 0 0) O Z Z Z Z Z Z Z (by omega) (aS (i:=0) (be hne))) Z (jn (am (ac (ae Z (jn (ak Z (fun z21=>?_) (fun z21=>?_))))))))))))))
 refine ac (js Z (jf [23,22,20,19,4,14,3,2,0] Z (jl Z (aD ?_))))
 refine jo Z (aD ?_)
 refine jn (ag (ac (js Z (aa (Val.seq (p:=s.drop 1) (q:=[]) O Z Z Z Z Z Z) Z (jn (ak Z (fun z25=>?_) (fun z25=>?_)))))))
 exact absurd (bf z25) hr
 refine af (ag (ac ?_))
 have hQ0:=dJ 44 (s.drop 1)
 refine js Z (jf [27,24,5,23,22,20,19,4,14,3,2,0] Z (au O Z Z Z Z ((lC (s:=s.drop 1) (sep:=[44]) h1 h2 (by simp) (by rw[dq];omega)).plain (v:=_) (u:=.c (.d (strs (aC 44 (s.drop 1))))) (by rw[dq])) (al Z) Z Z Z Z (B0:=29000) Z Z ?_))
 first|refine et Z ?_|refine js Z ?_|refine bv Z Z ?_
 refine js Z (jn (am (ax (X:=Nat×List Int) (fun z=>⟨[(2,.c (.pt 2 0 0)),(5,.c (.pt 5 0 0)),(28,.c (.d (strs (aC 44 (s.drop 1))))),(29,eI (aC 44 (s.drop 1)).length),(30,eI (z.1:Nat))],[(2,.box [.d (.int .i64 0),.d (.int .i64 0),.d (.int .i64 0),.d .nils,.d .nils]),(5,.box [.d (.int .i64 1),.d (.int .i64 0),.d (.int .i64 0),.d .nils,.rs 900 0 z.2.length]),(900,.row true 1 (z.2.map (fun n=>[D.int .i64 n])))]⟩) (fun z=>z.1≤(aC 44 (s.drop 1)).length∧z.2.length=z.1∧aI cJ ((aC 44 (s.drop 1)).take z.1)=some z.2) (fun z=>(aC 44 (s.drop 1)).length-z.1) (0,[]) ((gl 5 900 1 true 4 Z Z Z).trans (Ent.to ⟨Z,Z,Z,Z,Z,aq⟩ Z)) ?_ (fun z hi=>?_))))
 exact⟨dU _,Z,Z⟩
 refine ac (js Z (jn (ag (ak Z (fun z31=>?_) (fun z31=>?_)))))
 refine af (ag (am (ac ?_)))
 have hi0:z.1<(aC 44 (s.drop 1)).length:=by have:=bf z31;omega
 have hpl:((aC 44 (s.drop 1)).getD z.1 default).length≤1048576:=by
  have h9:((aC 44 (s.drop 1)).getD z.1 default)∈(aC 44 (s.drop 1)):=by rw[av hi0];exact List.getElem_mem hi0
  have:=gH _ h9;omega
 have hn0:cJ ((aC 44 (s.drop 1)).getD z.1 default)≠none:=fun h=>by
  have hq:(aC 44 (s.drop 1))=(aC 44 (s.drop 1)).take z.1++((aC 44 (s.drop 1)).getD z.1 default)::(aC 44 (s.drop 1)).drop (z.1+1):=by conv=>lhs;rw[←List.take_append_drop z.1 (aC 44 (s.drop 1)),List.drop_eq_getElem_cons hi0,←av hi0]
  rw[hq,cT h]at hms
  cases hms
 obtain⟨n,hok1⟩:=Option.ne_none_iff_exists'.1 hn0
 refine aa (aL O Z Z Z Z Z Z Z Z (dZ (by omega))) Z (ae Z (jf [7,31,2,5,28,29,30] Z (bM (js Z (jf [35,31,2,5,28,29,30] Z (au O Z Z Z Z ((lA (s:=((aC 44 (s.drop 1)).getD z.1 default)) h1 h2 (by omega)).plain (v:=_) (u:=.tup [eI n,eB true]) (by rw[hok1];rfl)) (al Z) Z Z Z Z (B0:=37000) Z Z (bn Z (js Z (jf [9,8,31,2,5,28,29,30] Z (jn (ag (ac (ae Z (jf [40,8,31,2,5,28,29,30] Z (jn (ak Z (fun z40=>?_) (fun z40=>?_)))))))))))))))))
 exact mL z40
 refine af (ab (aP Z (jf [44,43,40,31,2,5,28,29,30] Z (bc (HS.lit O Z Z Z) Z (aD ?_)))))
 refine jf [45,43,40,31,2,5,28,29,30] Z (bc (c6 (zs:=(z.2++[n]).map (fun n=>[D.int .i64 n])) (n:=(z.2++[n]).length) O Z Z Z Z Z Z Z Z Z Z Z Z Z Z Z Z (.row Z (cz _).symm) Z Z (by decide) Z (by simp;omega) (by simp;omega) (by simp) (by simp)) Z (aD ?_))
 refine aD ?_
 refine js Z (jf [47,46,40,31,2,5,28,29,30] Z (jo Z (aD ?_)))
 refine jf [40,31,2,5,28,29,30] Z (jn (ab ?_))
 first|refine ji Z ?_|refine bv Z Z ?_
 refine js Z (jn ?_)
 refine⟨(z.1+1,z.2++[n]),((aE [2,5,46] (e':=[(2,_),(5,_),(28,_),(29,_),(30,_)]) Z Z ⟨Z,Z,Z,Z,Z,aq⟩ Z).trans (bw 46 900 Z Z)).trans (Ent.to ⟨Z,Z,Z,Z,Z,aq⟩ Z),⟨by show z.1+1≤_;omega,by show(z.2++[n]).length=z.1+1;rw[cS,hi.2.1];rfl,?_⟩,by show(aC 44 (s.drop 1)).length-(z.1+1)<(aC 44 (s.drop 1)).length-z.1;omega⟩
 show aI cJ ((aC 44 (s.drop 1)).take (z.1+1))=some (z.2++[n])
 rw[List.take_succ_eq_append_getElem hi0,←av hi0]
 exact cw hi.2.2 hok1
 refine aZ (ac (js Z (jo Z (aD ?_))))
 refine js Z (jr ?_)
 have hz1:z.1=(aC 44 (s.drop 1)).length:=by have:=bB z31;omega
 have hall:=hi.2.2
 rw[hz1,List.take_length,hms]at hall
 obtain rfl:=Option.some.inj hall
 refine⟨.inl Z,_,dd,_,Z,[900],by decide,Z,Z,Z⟩
 exact absurd (du (n:=99) (by decide) hb) (bB z21)
theorem oG{s:Str}(hL:1048576<L)(hs:s.length≤1048576)(hne:s≠[])(hb:s.getD 0 0=99)(hr:s.drop 1=[]):MQ h1 h2 57 [aS8 s] [] (Plain (.tup [.agg [.d (.int .i64 1),.d (.int .i64 0),.d (.int .i64 0),.d .nils,.d .nils],eB true])):=by
 refine MC.data (jB 71 h1 h2 Tryd.func57 Z fun O hF=>?_)
 refine ac (jl Z (aD ?_))
 refine js Z (jn (ag (ac (js Z (aa (Val.seq (p:=s) (q:=[]) O Z Z Z Z Z Z) Z (jn (ak Z (fun z15=>?_) (fun z15=>?_))))))))
 exact absurd (bf z15) hne
 refine af (ac (js Z ?_))
 have hdl:(s.drop 1).length≤1048576:=by rw[List.length_drop];omega
 refine aa ((aY (p:=s) (a:=1) (b:=s.length) O Z Z Z Z Z Z Z Z Z Z (be hne) (bD _)).cast (v':=aS8 (s.drop 1)) (by rw[List.take_of_length_le (by rw[List.length_drop];omega)])) Z (js Z (jf [4,14,3,2,0] Z (jn (ag (ac (js Z (aa (aw (p:=s) (b:=s.getD 0 0) O Z Z Z Z Z Z Z (by omega) (aS (i:=0) (be hne))) Z (jn (am (ac (ae Z (jn (ak Z (fun z21=>?_) (fun z21=>?_))))))))))))))
 refine ac (js Z (jf [23,22,20,19,4,14,3,2,0] Z (jl Z (aD ?_))))
 refine jo Z (aD ?_)
 refine jn (ag (ac (js Z (aa (Val.seq (p:=s.drop 1) (q:=[]) O Z Z Z Z Z Z) Z (jn (ak Z (fun z25=>?_) (fun z25=>?_)))))))
 refine ac (js Z (jf [26,24,5,23,22,20,19,4,14,3,2,0] Z (jo Z (aD ?_))))
 refine js Z (jr ?_)
 refine az Z ?_
 exact .tup (.cons (.agg (bK Z)) (.cons (.c .d) .nil))
 exact absurd hr (bB z25)
 exact absurd (du (n:=99) (by decide) hb) (bB z21)
theorem oJ{s:Str}{t:Tm}(hL:1048576<L)(hs:s.length≤1048576)(hne:s≠[])(hb:s.getD 0 0=115)(ht:fj (s.drop 1)=some t):MQ h1 h2 57 [aS8 s] [] (Rows (.tup [.agg [.d (.int .i64 2),.d (.int .i64 0),.d (.int .i64 t.c),.rs 0 0 t.xs.length,.d .nils],eB true]) [cU t.xs]):=by
 refine di (jB 71 h1 h2 Tryd.func57 Z fun O hF=>?_)
 refine ac (jl Z (aD ?_))
 refine js Z (jn (ag (ac (js Z (aa (Val.seq (p:=s) (q:=[]) O Z Z Z Z Z Z) Z (jn (ak Z (fun z15=>?_) (fun z15=>?_))))))))
 exact absurd (bf z15) hne
 refine af (ac (js Z ?_))
 have hdl:(s.drop 1).length≤1048576:=by rw[List.length_drop];omega
 refine aa ((aY (p:=s) (a:=1) (b:=s.length) O Z Z Z Z Z Z Z Z Z Z (be hne) (bD _)).cast (v':=aS8 (s.drop 1)) (by rw[List.take_of_length_le (by rw[List.length_drop];omega)])) Z (js Z (jf [4,14,3,2,0] Z (jn (ag (ac (js Z (aa (aw (p:=s) (b:=s.getD 0 0) O Z Z Z Z Z Z Z (by omega) (aS (i:=0) (be hne))) Z (jn (am (ac (ae Z (jn (ak Z (fun z21=>?_) (fun z21=>?_))))))))))))))
 exact absurd (bf z21) (bV (n:=99) (by decide) (by rw[hb];decide))
 refine ac (ae Z (jf [50,22,20,19,4,14,3,2,0] Z (jn (ak Z (fun z50=>?_) (fun z50=>?_)))))
 refine ac (js Z (jf [53,22,20,19,4,14,3,2,0] Z (ba O (B0:=55000) Z Z Z Z (p8 (s:=s.drop 1) (t:=t) h1 h2 (by omega) ht) (al Z) Z Z Z Z Z Z (aD ?_))))
 refine aP Z (jf [56,55,22,20,19,4,14,3,2,0] Z (jl Z (aD ?_)))
 refine jo Z (aD ?_)
 refine js Z (jf [11,10,22,20,19,4,14,3,2,0] Z (bM (aP Z (jf [59,58,10,22,20,19,4,14,3,2,0] Z (jo Z (aD ?_))))))
 refine js Z (jf [3,10,22,20,19,4,14,2,0] Z (jr ?_))
 refine⟨.inl Z,_,dd,_,Z,[55000],by decide,Z,Z,Z⟩
 exact absurd (du (n:=115) (by decide) hb) (bB z50)
theorem oH{s:Str}{n:Int}(hL:1048576<L)(hs:s.length≤1048576)(hne:s≠[])(hb:s.getD 0 0=116)(hn:cJ (s.drop 1)=some n):MQ h1 h2 57 [aS8 s] [] (Plain (.tup [.agg [.d (.int .i64 3),.d (.int .i64 n),.d (.int .i64 0),.d .nils,.d .nils],eB true])):=by
 refine MC.data (jB 71 h1 h2 Tryd.func57 Z fun O hF=>?_)
 refine ac (jl Z (aD ?_))
 refine js Z (jn (ag (ac (js Z (aa (Val.seq (p:=s) (q:=[]) O Z Z Z Z Z Z) Z (jn (ak Z (fun z15=>?_) (fun z15=>?_))))))))
 exact absurd (bf z15) hne
 refine af (ac (js Z ?_))
 have hdl:(s.drop 1).length≤1048576:=by rw[List.length_drop];omega
 refine aa ((aY (p:=s) (a:=1) (b:=s.length) O Z Z Z Z Z Z Z Z Z Z (be hne) (bD _)).cast (v':=aS8 (s.drop 1)) (by rw[List.take_of_length_le (by rw[List.length_drop];omega)])) Z (js Z (jf [4,14,3,2,0] Z (jn (ag (ac (js Z (aa (aw (p:=s) (b:=s.getD 0 0) O Z Z Z Z Z Z Z (by omega) (aS (i:=0) (be hne))) Z (jn (am (ac (ae Z (jn (ak Z (fun z21=>?_) (fun z21=>?_))))))))))))))
 exact absurd (bf z21) (bV (n:=99) (by decide) (by rw[hb];decide))
 refine ac (ae Z (jf [50,22,20,19,4,14,3,2,0] Z (jn (ak Z (fun z50=>?_) (fun z50=>?_)))))
 exact absurd (bf z50) (bV (n:=115) (by decide) (by rw[hb];decide))
 refine ac (ae Z (jf [60,22,20,19,4,14,3,2,0] Z (jn (ak Z (fun z60=>?_) (fun z60=>?_)))))
 refine ac (js Z (jf [63,22,20,19,4,14,3,2,0] Z (au O Z Z Z Z ((lA (s:=s.drop 1) h1 h2 (by omega)).plain (v:=_) (u:=.tup [eI n,eB true]) (by rw[hn];rfl)) (al Z) Z Z Z Z (B0:=65000) Z Z (bn Z (js Z (jf [13,12,22,20,19,4,14,3,2,0] Z (bM (aP Z (jf [69,68,22,20,19,4,14,3,2,0] Z (jo Z (aD ?_)))))))))))
 refine js Z (jf [3,22,20,19,4,14,2,0] Z (jr ?_))
 refine az Z ?_
 exact .tup (.cons (.agg (bK Z)) (.cons (.c .d) .nil))
 exact absurd (du (n:=116) (by decide) hb) (bB z60)
theorem dg{L:Nat}(h1:4096≤L)(h2:L≤1073741824){s:Str}{x:Nd}(hL:1048576<L)(hs:s.length≤1048576)(hx:fH s=some x)(hk: ¬x.kind=2)(hm:x.mul≠[]):MC Tryd.prog L 57 [aS8 s] [] (Rows (.tup [.agg [.d (.int .i64 x.kind),.d (.int .i64 x.fact),.d (.int .i64 x.term.c),.d .nils,.rs 0 0 x.mul.length],eB true]) [cU x.mul])∧x.term.xs=[]:=by
 obtain⟨hne,h|h|h⟩:=fQ hx
 obtain⟨hb,ms,h3,rfl⟩:=h
 rcases pg h3 with⟨h4,h5⟩|⟨h4,h5,h6⟩
 exact absurd h5 hm
 exact⟨oK h1 h2 hL hs hne hb h4 h5,Z⟩
 obtain⟨_,t,_,rfl⟩:=h;exact absurd rfl hk
 obtain⟨_,t,_,rfl⟩:=h;exact absurd rfl hm
theorem fu{L:Nat}(h1:4096≤L)(h2:L≤1073741824){s:Str}{x:Nd}(hL:1048576<L)(hs:s.length≤1048576)(hx:fH s=some x)(hk:x.kind=2):MC Tryd.prog L 57 [aS8 s] [] (Rows (.tup [.agg [.d (.int .i64 x.kind),.d (.int .i64 x.fact),.d (.int .i64 x.term.c),.rs 0 0 x.term.xs.length,.d .nils],eB true]) [cU x.term.xs])∧x.mul=[]:=by
 obtain⟨hne,h|h|h⟩:=fQ hx
 obtain⟨hb,ms,h3,rfl⟩:=h;exact absurd hk (show¬(1:Int)=2 by decide)
 obtain⟨hb,t,ht,rfl⟩:=h;exact⟨oJ h1 h2 hL hs hne hb ht,rfl⟩
 obtain⟨_,t,_,rfl⟩:=h;exact absurd hk (show¬(3:Int)=2 by decide)
theorem dh{L:Nat}(h1:4096≤L)(h2:L≤1073741824){s:Str}{x:Nd}(hL:1048576<L)(hs:s.length≤1048576)(hx:fH s=some x)(hk: ¬x.kind=2)(hm:x.mul=[]):MC Tryd.prog L 57 [aS8 s] [] (Plain (.tup [.agg [.d (.int .i64 x.kind),.d (.int .i64 x.fact),.d (.int .i64 x.term.c),.d .nils,.d .nils],eB true]))∧x.term.xs=[]:=by
 obtain⟨hne,h|h|h⟩:=fQ hx
 obtain⟨hb,ms,h3,rfl⟩:=h
 rcases pg h3 with⟨h4,h5⟩|⟨h4,h5,h6⟩
 exact⟨oG h1 h2 hL hs hne hb h4,Z⟩
 exact absurd hm h6
 obtain⟨_,t,_,rfl⟩:=h;exact absurd rfl hk
 obtain⟨hb,n,hn,rfl⟩:=h;exact⟨oH h1 h2 hL hs hne hb hn,rfl⟩
set_option maxHeartbeats 8000000
theorem jZ{T:Type}[Inhabited T]{rd:Str→Option T}: ∀{ss:List Str} {ts:List T} {i:Nat},aI rd ss=some ts→i<ss.length→rd (ss.getD i default)=some (ts.getD i default)
 | [],ts,i,h,hi=>absurd hi (Nat.not_lt_zero _)
 | s::r,ts,i,h,hi=>by
  rw[aI]at h
  split at h
  cases h
  rename_i t ht
  split at h
  cases h
  rename_i ts' hts
  cases h
  cases i with
  | zero=>exact ht
  | succ i=>exact(jZ (ss:=r) (i:=i) hts (by rw[er]at hi;omega) :)
theorem rP_some{t:Str}{p:List Nd}(h:rP t=some p):aI fH (aC 47 t)=some p∧mH p=true:=by
 unfold rP at h
 split at h
 cases h
 rename_i q hq
 split at h
 rename_i hi;cases h;exact⟨hq,hi⟩
 cases h
theorem gp{a b c:D}{x y u v:D}(h1:NLe x u)(h2:NLe y v):NLess [[a,b,c,x,y]] [[a,b,c,u,v]]:=.cons (po (po (po (.cons h1 (.cons h2 .nil))))) .nil
theorem cK{xs:List Int}(h:xs=[]):NLe .nils (bl xs):=by subst h;exact .nil
theorem c1328{t:Str}(hL:1048576<L)(hs:t.length≤1048576):MQ h1 h2 23 [aS8 t] [] (Plain (sO (rP t))):=by
 refine MC.data (jB 37 h1 h2 Tryd.func23 Z fun O hF=>?_)
 refine ac (ae Z (bM (js Z (jn (ag (ac ?_))))))
 have hQ0:=dJ 47 t
 refine js Z (jf [9,4,3,2] Z (au O Z Z Z Z ((lC (s:=t) (sep:=[47]) h1 h2 (by simp) (by rw[dq];omega)).plain (v:=_) (u:=.c (.d (strs (aC 47 t)))) (by rw[dq])) (al Z) Z Z Z Z (B0:=11000) Z Z ?_))
 first|refine et Z ?_|refine js Z ?_|refine bv Z Z ?_
 refine js Z (jn (am (ax (X:=Nat×List Nd) (fun z=>⟨[(4,.c (.rs 900 0 z.2.length)),(10,.c (.d (strs (aC 47 t)))),(11,eI (aC 47 t).length),(12,eI (z.1:Nat))],[(900,.row false 5 (z.2.map Nd.cells))]⟩) (fun z=>z.1≤(aC 47 t).length∧z.2.length=z.1∧aI fH ((aC 47 t).take z.1)=some z.2∧z.2.length≤60) (fun z=>(aC 47 t).length-z.1) (0,[]) ((gk 4 900 5 false Z Z).trans (Ent.to ⟨Z,Z,Z,Z,aq⟩ Z)) ?_ (fun z hi=>?_))))
 exact⟨dU _,Z,Z,by decide⟩
 refine ac (js Z (jn (ag (ak Z (fun z13=>?_) (fun z13=>?_)))))
 refine af (ag (am (ac ?_)))
 have hi0:z.1<(aC 47 t).length:=by have:=bf z13;omega
 have hpl:((aC 47 t).getD z.1 default).length≤1048576:=by
  have h9:((aC 47 t).getD z.1 default)∈(aC 47 t):=by rw[av hi0];exact List.getElem_mem hi0
  have:=gH _ h9;omega
 obtain⟨x,hx⟩: ∃x,x=(iu ((aC 47 t).getD z.1 default)).1:=⟨_,rfl⟩
 obtain⟨b,hxb⟩: ∃b,b=(iu ((aC 47 t).getD z.1 default)).2:=⟨_,rfl⟩
 refine aa (aL O Z Z Z Z Z Z Z Z (dZ (by omega))) Z (ae Z (jf [6,13,4,10,11,12] Z (bM (js Z (jf [17,13,4,10,11,12] Z (au O Z Z Z Z ((rq (s:=((aC 47 t).getD z.1 default)) h1 h2 hL (by omega)).plain (v:=_) (u:=.tup [qf x,eB b]) (by rw[hx,hxb])) (al Z) Z Z Z Z (B0:=19000) Z Z (aP Z (jf [20,19,13,4,10,11,12] Z (jl Z (aD ?_))))))))))
 refine jo Z (aD ?_)
 refine js Z (jf [8,7,13,4,10,11,12] Z (jn (ag (ac (aP Z (jf [23,7,13,4,10,11,12] Z (ar 3 Z Z Z (fun hx=>ap hx Z (bg hx (bH O Z Z (by have:=hi.2.2.2;omega)) Z (ap hx Z (AN.nil)))) Z Z ?_)))))))
 first|refine aa (ao O Z Z Z Z Z) Z ?_|refine aa (Val.pickB O Z Z Z Z Z) Z ?_|refine aa (aj O Z Z Z Z Z) Z ?_
 refine jf [27,7,13,4,10,11,12] Z (jn (ak Z (fun z27=>?_) (fun z27=>?_)))
 refine ac (ae Z (jr ?_))
 refine az Z ?_
 have hbad:rP t=none:=by
  rcases l8.1 z27 with h|h
  refine kI ?_
  have hq:(aC 47 t)=(aC 47 t).take z.1++((aC 47 t).getD z.1 default)::(aC 47 t).drop (z.1+1):=by conv=>lhs;rw[←List.take_append_drop z.1 (aC 47 t),List.drop_eq_getElem_cons hi0,←av hi0]
  rw[hq];exact cT (by unfold fH;rw[←hxb,h];rfl)
  exact lR (by have:=hi.2.1;omega)
 rw[hbad]
 exact .tup (.cons (.c .nils) (.cons (.c .d) .nil))
 refine af (ab ?_)
 have hno:=fL z27 l8
 have hb1:b=true:=by cases h:b with
 | true=>rfl
 | false=>exact absurd (.inl h) hno
 have hok1:fH ((aC 47 t).getD z.1 default)=some x:=by unfold fH;rw[←hxb,hb1,hx];rfl
 have h60: ¬z.2.length=60:=fun e=>hno (.inr (by omega))
 refine ae Z (bc (dj O Z Z Z Z Z Z Z Z Z Z Z) Z (aD ?_))
 refine jf [30,28,27,7,13,4,10,11,12] Z (bc (fY (own:=false) (xs:=z.2.map Nd.cells) (ys:=[Nd.cells x]) (zs:=(z.2++[x]).map Nd.cells) (n:=(z.2++[x]).length) O Z (.row Z (cz _).symm) (.whole Z Z (.inr ⟨Z,Z⟩)) (by simp) Z (by simp;omega) (by simp;omega) (by simp) (by simp)) Z (aD ?_))
 refine aD ?_
 refine js Z (jf [4,27,7,13,10,11,12] Z (jn (ab ?_)))
 first|refine ji Z ?_|refine bv Z Z ?_
 refine js Z (jn ?_)
 refine⟨(z.1+1,z.2++[x]),((aE [31] (e':=[(4,_),(10,_),(11,_),(12,_)]) Z Z ⟨Z,Z,Z,Z,aq⟩ Z).trans (bw 31 900 Z Z)).trans (Ent.to ⟨Z,Z,Z,Z,aq⟩ Z),⟨by show z.1+1≤_;omega,by show(z.2++[x]).length=z.1+1;rw[cS,hi.2.1];rfl,?_,by show(z.2++[x]).length≤60;rw[cS];have:[x].length=1:=rfl;omega⟩,by show(aC 47 t).length-(z.1+1)<(aC 47 t).length-z.1;omega⟩
 show aI fH ((aC 47 t).take (z.1+1))=some (z.2++[x])
 rw[List.take_succ_eq_append_getElem hi0,←av hi0]
 exact cw hi.2.2.1 hok1
 refine aZ (ag (ac ?_))
 have hz1:z.1=(aC 47 t).length:=by have:=bB z13;omega
 have hall:=hi.2.2.1
 rw[hz1,List.take_length]at hall
 refine js Z (aX O Z Z Z Z (qI (p:=z.2) h1 h2) (.cons (.c (.whole Z (cz _).symm)) .nil) Z Z Z Z Z (B0:=35000) Z (js Z (jf [35,13,4,10,11,12] Z (jn (ak Z (fun z35=>?_) (fun z35=>?_))))))
 refine ac (ae Z (jr ?_))
 refine az Z ?_
 have h9:mH z.2=false:=by simpa using z35
 rw[mM hall,h9]
 exact .tup (.cons (.c .nils) (.cons (.c .d) .nil))
 refine af (ac (aP Z (jr ?_)))
 refine az Z ?_
 have h9:mH z.2=true:=by simpa using z35
 rw[mM hall,if_pos h9]
 exact .tup (.cons (.c (.whole Z (cz _).symm)) (.cons (.c .d) .nil))
variable{p:List Nd}
theorem c1328y{t:Str}(hL:1048576<L)(hs:t.length≤1048576)(hy:rP t=some p):MQ h1 h2 23 [aS8 t] [] (Rows (.tup [.c (.rs 0 0 p.length),eB true]) [fq p]):=by
 refine di (jB 37 h1 h2 Tryd.func23 Z fun O hF=>?_)
 obtain⟨hall,hI⟩:=rP_some hy
 have hp60:=(gO hI).1
 have hpQ:=eJ hall
 refine ac (ae Z (bM (js Z (jn (ag (ac ?_))))))
 have hQ0:=dJ 47 t
 refine js Z (jf [9,4,3,2] Z (au O Z Z Z Z ((lC (s:=t) (sep:=[47]) h1 h2 (by simp) (by rw[dq];omega)).plain (v:=_) (u:=.c (.d (strs (aC 47 t)))) (by rw[dq])) (al Z) Z Z Z Z (B0:=11000) Z Z ?_))
 first|refine et Z ?_|refine js Z ?_|refine bv Z Z ?_
 refine js Z (jn (am (ax (X:=Nat) (fun i=>⟨[(4,.c (.rs 900 0 i)),(10,.c (.d (strs (aC 47 t)))),(11,eI (aC 47 t).length),(12,eI i)],[(900,fq (p.take i))]⟩) (fun i=>i≤p.length) (fun i=>p.length-i) 0 ((gk 4 900 5 true Z Z).trans (Ent.to ⟨Z,Z,Z,Z,aq⟩ Z)) ?_ (fun i hi=>?_))))
 exact dU _
 refine ac (js Z (jn (ag (ak Z (fun z13=>?_) (fun z13=>?_)))))
 refine af (ag (am (ac ?_)))
 have hi0:i<(aC 47 t).length:=by have:=bf z13;omega
 have hpl:((aC 47 t).getD i default).length≤1048576:=by
  have h9:((aC 47 t).getD i default)∈(aC 47 t):=by rw[av hi0];exact List.getElem_mem hi0
  have:=gH _ h9;omega
 have hx:=jZ hall hi0
 refine aa (aL O Z Z Z Z Z Z Z Z (dZ (by omega))) Z (ae Z (jf [6,13,4,10,11,12] Z (bM ?_)))
 cases hb17:decide ((p.getD i default).kind=2)with
 | true=>
  have hk2:(p.getD i default).kind=2:=bf hb17
  have hm2:=(fu h1 h2 hL hpl hx hk2).2
  refine js Z ?_
  cases hb18:(p.getD i default).mul.isEmpty with
  | true=>
   have hm0:(p.getD i default).mul=[]:=List.isEmpty_iff.1 hb18
   refine jf [17,13,4,10,11,12] Z ?_
   first|refine ba O (B0:=19000) Z Z Z Z ((fu (s:=((aC 47 t).getD i default)) (x:=(p.getD i default)) h1 h2 hL hpl hx hk2).1) (al Z) Z Z Z Z Z Z ?_|refine ba O (B0:=19000) Z Z Z Z ((dg (s:=((aC 47 t).getD i default)) (x:=(p.getD i default)) h1 h2 hL hpl hx hk0 hm1).1) (al Z) Z Z Z Z Z Z ?_|refine au O Z Z Z Z ((dh (s:=((aC 47 t).getD i default)) (x:=(p.getD i default)) h1 h2 hL hpl hx hk0 hm0).1) (al Z) Z Z Z Z (B0:=19000) Z Z ?_
   refine aD ?_
   refine aP Z (jf [20,19,13,4,10,11,12] Z (jl Z (aD ?_)))
   refine jo Z (aD ?_)
   refine js Z (jf [8,7,13,4,10,11,12] Z (jn (ag (ac (aP Z (jf [23,7,13,4,10,11,12] Z (ar 3 Z Z Z (fun hx=>ap hx Z (bg hx (bH O Z Z (by omega)) Z (ap hx Z (AN.nil)))) Z Z ?_)))))))
   first|refine aa (ao O Z Z Z Z Z) Z ?_|refine aa (Val.pickB O Z Z Z Z Z) Z ?_|refine aa (aj O Z Z Z Z Z) Z ?_
   refine jf [27,7,13,4,10,11,12] Z (jn (ak Z (fun z27=>?_) (fun z27=>?_)))
   exact absurd ((l8 (k:=true)).1 z27) (by simp;omega)
   refine af (ab ?_)
   have hz:i<p.length:=by omega
   refine ae Z ?_
   first|refine aU (aE [900,19000] (e':=[(29,_),(28,_),(4,_),(10,_),(11,_),(12,_)]) Z Z ⟨Z,Z,Z,Z,Z,Z,aq⟩ Z) ?_|refine aU (aE [900] (e':=[(29,_),(28,_),(4,_),(10,_),(11,_),(12,_)]) Z Z ⟨Z,Z,Z,Z,Z,Z,aq⟩ Z) ?_
   first|refine bc (br (ds:=[.int .i64 (p.getD i default).kind,.int .i64 (p.getD i default).fact,.int .i64 (p.getD i default).term.c,bl (p.getD i default).term.xs,.nils]) O Z Z Z Z Z Z Z Z Z Z (.d Z (.d Z (.d Z (.rs Z (cz _).symm (.d Z .nil))))) Z Z Z) Z ?_|refine bc (br (ds:=[.int .i64 (p.getD i default).kind,.int .i64 (p.getD i default).fact,.int .i64 (p.getD i default).term.c,.nils,bl (p.getD i default).mul]) O Z Z Z Z Z Z Z Z Z Z (.d Z (.d Z (.d Z (.d Z (.rs Z (cz _).symm .nil))))) Z Z Z) Z ?_|refine bc (br (ds:=[.int .i64 (p.getD i default).kind,.int .i64 (p.getD i default).fact,.int .i64 (p.getD i default).term.c,.nils,.nils]) O Z Z Z Z Z Z Z Z Z Z (.d Z (.d Z (.d Z (.d Z (.d Z .nil))))) Z Z Z) Z ?_
   refine aD ?_
   first|refine aU (Ent.rowLe 30 (ys:=[Nd.cells (p.getD i default)]) Z (gp .refl (cK hm2))) ?_|refine aU (Ent.rowLe 30 (ys:=[Nd.cells (p.getD i default)]) Z (gp (cK (dg h1 h2 hL hpl hx hk0 hm1).2) .refl)) ?_|refine aU (Ent.rowLe 30 (ys:=[Nd.cells (p.getD i default)]) Z (gp (cK (dh h1 h2 hL hpl hx hk0 hm0).2) (cK hm0))) ?_
   refine aD ?_
   refine aD ?_
   refine jf [30,28,4,10,11,12] Z (bc (c6 (zs:=(p.take (i+1)).map Nd.cells) (n:=i+1) O Z Z Z Z Z Z Z Z Z Z Z Z Z Z Z Z (.row Z (by simp;omega)) Z Z (by decide) Z (by simp;omega) (by simp;omega) (by rw[List.take_succ_eq_append_getElem (show i<p.length by omega),av (show i<p.length by omega),List.map_append];rfl) (by simp;omega)) Z (aD ?_))
   refine aD ?_
   refine js Z (jf [4,10,11,12] Z (jn (ab ?_)))
   first|refine ji Z ?_|refine bv Z Z ?_
   refine js Z (jn ?_)
   refine⟨i+1,((aE [31] (e':=[(4,_),(10,_),(11,_),(12,_)]) Z Z ⟨Z,Z,Z,Z,aq⟩ Z).trans (bw 31 900 Z Z)).trans (Ent.to ⟨Z,Z,Z,Z,aq⟩ Z),by omega,by omega⟩
  | false=>
   have hm1:(p.getD i default).mul≠[]:=fun e=>by rw[e]at hb18;cases hb18
   refine jf [17,13,4,10,11,12] Z ?_
   first|refine ba O (B0:=19000) Z Z Z Z ((fu (s:=((aC 47 t).getD i default)) (x:=(p.getD i default)) h1 h2 hL hpl hx hk2).1) (al Z) Z Z Z Z Z Z ?_|refine ba O (B0:=19000) Z Z Z Z ((dg (s:=((aC 47 t).getD i default)) (x:=(p.getD i default)) h1 h2 hL hpl hx hk0 hm1).1) (al Z) Z Z Z Z Z Z ?_|refine au O Z Z Z Z ((dh (s:=((aC 47 t).getD i default)) (x:=(p.getD i default)) h1 h2 hL hpl hx hk0 hm0).1) (al Z) Z Z Z Z (B0:=19000) Z Z ?_
   refine aD ?_
   refine aP Z (jf [20,19,13,4,10,11,12] Z (jl Z (aD ?_)))
   refine jo Z (aD ?_)
   refine js Z (jf [8,7,13,4,10,11,12] Z (jn (ag (ac (aP Z (jf [23,7,13,4,10,11,12] Z (ar 3 Z Z Z (fun hx=>ap hx Z (bg hx (bH O Z Z (by omega)) Z (ap hx Z (AN.nil)))) Z Z ?_)))))))
   first|refine aa (ao O Z Z Z Z Z) Z ?_|refine aa (Val.pickB O Z Z Z Z Z) Z ?_|refine aa (aj O Z Z Z Z Z) Z ?_
   refine jf [27,7,13,4,10,11,12] Z (jn (ak Z (fun z27=>?_) (fun z27=>?_)))
   exact absurd ((l8 (k:=true)).1 z27) (by simp;omega)
   refine af (ab ?_)
   have hz:i<p.length:=by omega
   refine ae Z ?_
   first|refine aU (aE [900,19000] (e':=[(29,_),(28,_),(4,_),(10,_),(11,_),(12,_)]) Z Z ⟨Z,Z,Z,Z,Z,Z,aq⟩ Z) ?_|refine aU (aE [900] (e':=[(29,_),(28,_),(4,_),(10,_),(11,_),(12,_)]) Z Z ⟨Z,Z,Z,Z,Z,Z,aq⟩ Z) ?_
   first|refine bc (br (ds:=[.int .i64 (p.getD i default).kind,.int .i64 (p.getD i default).fact,.int .i64 (p.getD i default).term.c,bl (p.getD i default).term.xs,.nils]) O Z Z Z Z Z Z Z Z Z Z (.d Z (.d Z (.d Z (.rs Z (cz _).symm (.d Z .nil))))) Z Z Z) Z ?_|refine bc (br (ds:=[.int .i64 (p.getD i default).kind,.int .i64 (p.getD i default).fact,.int .i64 (p.getD i default).term.c,.nils,bl (p.getD i default).mul]) O Z Z Z Z Z Z Z Z Z Z (.d Z (.d Z (.d Z (.d Z (.rs Z (cz _).symm .nil))))) Z Z Z) Z ?_|refine bc (br (ds:=[.int .i64 (p.getD i default).kind,.int .i64 (p.getD i default).fact,.int .i64 (p.getD i default).term.c,.nils,.nils]) O Z Z Z Z Z Z Z Z Z Z (.d Z (.d Z (.d Z (.d Z (.d Z .nil))))) Z Z Z) Z ?_
   refine aD ?_
   first|refine aU (Ent.rowLe 30 (ys:=[Nd.cells (p.getD i default)]) Z (gp .refl (cK hm2))) ?_|refine aU (Ent.rowLe 30 (ys:=[Nd.cells (p.getD i default)]) Z (gp (cK (dg h1 h2 hL hpl hx hk0 hm1).2) .refl)) ?_|refine aU (Ent.rowLe 30 (ys:=[Nd.cells (p.getD i default)]) Z (gp (cK (dh h1 h2 hL hpl hx hk0 hm0).2) (cK hm0))) ?_
   refine aD ?_
   refine aD ?_
   refine jf [30,28,4,10,11,12] Z (bc (c6 (zs:=(p.take (i+1)).map Nd.cells) (n:=i+1) O Z Z Z Z Z Z Z Z Z Z Z Z Z Z Z Z (.row Z (by simp;omega)) Z Z (by decide) Z (by simp;omega) (by simp;omega) (by rw[List.take_succ_eq_append_getElem (show i<p.length by omega),av (show i<p.length by omega),List.map_append];rfl) (by simp;omega)) Z (aD ?_))
   refine aD ?_
   refine js Z (jf [4,10,11,12] Z (jn (ab ?_)))
   first|refine ji Z ?_|refine bv Z Z ?_
   refine js Z (jn ?_)
   refine⟨i+1,((aE [31] (e':=[(4,_),(10,_),(11,_),(12,_)]) Z Z ⟨Z,Z,Z,Z,aq⟩ Z).trans (bw 31 900 Z Z)).trans (Ent.to ⟨Z,Z,Z,Z,aq⟩ Z),by omega,by omega⟩
 | false=>
  have hk0: ¬(p.getD i default).kind=2:=bB hb17
  refine js Z ?_
  cases hb18:(p.getD i default).mul.isEmpty with
  | true=>
   have hm0:(p.getD i default).mul=[]:=List.isEmpty_iff.1 hb18
   refine jf [17,13,4,10,11,12] Z ?_
   first|refine ba O (B0:=19000) Z Z Z Z ((fu (s:=((aC 47 t).getD i default)) (x:=(p.getD i default)) h1 h2 hL hpl hx hk2).1) (al Z) Z Z Z Z Z Z ?_|refine ba O (B0:=19000) Z Z Z Z ((dg (s:=((aC 47 t).getD i default)) (x:=(p.getD i default)) h1 h2 hL hpl hx hk0 hm1).1) (al Z) Z Z Z Z Z Z ?_|refine au O Z Z Z Z ((dh (s:=((aC 47 t).getD i default)) (x:=(p.getD i default)) h1 h2 hL hpl hx hk0 hm0).1) (al Z) Z Z Z Z (B0:=19000) Z Z ?_
   refine aD ?_
   refine aP Z (jf [20,19,13,4,10,11,12] Z (jl Z (aD ?_)))
   refine jo Z (aD ?_)
   refine js Z (jf [8,7,13,4,10,11,12] Z (jn (ag (ac (aP Z (jf [23,7,13,4,10,11,12] Z (ar 3 Z Z Z (fun hx=>ap hx Z (bg hx (bH O Z Z (by omega)) Z (ap hx Z (AN.nil)))) Z Z ?_)))))))
   first|refine aa (ao O Z Z Z Z Z) Z ?_|refine aa (Val.pickB O Z Z Z Z Z) Z ?_|refine aa (aj O Z Z Z Z Z) Z ?_
   refine jf [27,7,13,4,10,11,12] Z (jn (ak Z (fun z27=>?_) (fun z27=>?_)))
   exact absurd ((l8 (k:=true)).1 z27) (by simp;omega)
   refine af (ab ?_)
   have hz:i<p.length:=by omega
   refine ae Z ?_
   first|refine aU (aE [900,19000] (e':=[(29,_),(28,_),(4,_),(10,_),(11,_),(12,_)]) Z Z ⟨Z,Z,Z,Z,Z,Z,aq⟩ Z) ?_|refine aU (aE [900] (e':=[(29,_),(28,_),(4,_),(10,_),(11,_),(12,_)]) Z Z ⟨Z,Z,Z,Z,Z,Z,aq⟩ Z) ?_
   first|refine bc (br (ds:=[.int .i64 (p.getD i default).kind,.int .i64 (p.getD i default).fact,.int .i64 (p.getD i default).term.c,bl (p.getD i default).term.xs,.nils]) O Z Z Z Z Z Z Z Z Z Z (.d Z (.d Z (.d Z (.rs Z (cz _).symm (.d Z .nil))))) Z Z Z) Z ?_|refine bc (br (ds:=[.int .i64 (p.getD i default).kind,.int .i64 (p.getD i default).fact,.int .i64 (p.getD i default).term.c,.nils,bl (p.getD i default).mul]) O Z Z Z Z Z Z Z Z Z Z (.d Z (.d Z (.d Z (.d Z (.rs Z (cz _).symm .nil))))) Z Z Z) Z ?_|refine bc (br (ds:=[.int .i64 (p.getD i default).kind,.int .i64 (p.getD i default).fact,.int .i64 (p.getD i default).term.c,.nils,.nils]) O Z Z Z Z Z Z Z Z Z Z (.d Z (.d Z (.d Z (.d Z (.d Z .nil))))) Z Z Z) Z ?_
   refine aD ?_
   first|refine aU (Ent.rowLe 30 (ys:=[Nd.cells (p.getD i default)]) Z (gp .refl (cK hm2))) ?_|refine aU (Ent.rowLe 30 (ys:=[Nd.cells (p.getD i default)]) Z (gp (cK (dg h1 h2 hL hpl hx hk0 hm1).2) .refl)) ?_|refine aU (Ent.rowLe 30 (ys:=[Nd.cells (p.getD i default)]) Z (gp (cK (dh h1 h2 hL hpl hx hk0 hm0).2) (cK hm0))) ?_
   refine aD ?_
   refine aD ?_
   refine jf [30,28,4,10,11,12] Z (bc (c6 (zs:=(p.take (i+1)).map Nd.cells) (n:=i+1) O Z Z Z Z Z Z Z Z Z Z Z Z Z Z Z Z (.row Z (by simp;omega)) Z Z (by decide) Z (by simp;omega) (by simp;omega) (by rw[List.take_succ_eq_append_getElem (show i<p.length by omega),av (show i<p.length by omega),List.map_append];rfl) (by simp;omega)) Z (aD ?_))
   refine aD ?_
   refine js Z (jf [4,10,11,12] Z (jn (ab ?_)))
   first|refine ji Z ?_|refine bv Z Z ?_
   refine js Z (jn ?_)
   refine⟨i+1,((aE [31] (e':=[(4,_),(10,_),(11,_),(12,_)]) Z Z ⟨Z,Z,Z,Z,aq⟩ Z).trans (bw 31 900 Z Z)).trans (Ent.to ⟨Z,Z,Z,Z,aq⟩ Z),by omega,by omega⟩
  | false=>
   have hm1:(p.getD i default).mul≠[]:=fun e=>by rw[e]at hb18;cases hb18
   refine jf [17,13,4,10,11,12] Z ?_
   first|refine ba O (B0:=19000) Z Z Z Z ((fu (s:=((aC 47 t).getD i default)) (x:=(p.getD i default)) h1 h2 hL hpl hx hk2).1) (al Z) Z Z Z Z Z Z ?_|refine ba O (B0:=19000) Z Z Z Z ((dg (s:=((aC 47 t).getD i default)) (x:=(p.getD i default)) h1 h2 hL hpl hx hk0 hm1).1) (al Z) Z Z Z Z Z Z ?_|refine au O Z Z Z Z ((dh (s:=((aC 47 t).getD i default)) (x:=(p.getD i default)) h1 h2 hL hpl hx hk0 hm0).1) (al Z) Z Z Z Z (B0:=19000) Z Z ?_
   refine aD ?_
   refine aP Z (jf [20,19,13,4,10,11,12] Z (jl Z (aD ?_)))
   refine jo Z (aD ?_)
   refine js Z (jf [8,7,13,4,10,11,12] Z (jn (ag (ac (aP Z (jf [23,7,13,4,10,11,12] Z (ar 3 Z Z Z (fun hx=>ap hx Z (bg hx (bH O Z Z (by omega)) Z (ap hx Z (AN.nil)))) Z Z ?_)))))))
   first|refine aa (ao O Z Z Z Z Z) Z ?_|refine aa (Val.pickB O Z Z Z Z Z) Z ?_|refine aa (aj O Z Z Z Z Z) Z ?_
   refine jf [27,7,13,4,10,11,12] Z (jn (ak Z (fun z27=>?_) (fun z27=>?_)))
   exact absurd ((l8 (k:=true)).1 z27) (by simp;omega)
   refine af (ab ?_)
   have hz:i<p.length:=by omega
   refine ae Z ?_
   first|refine aU (aE [900,19000] (e':=[(29,_),(28,_),(4,_),(10,_),(11,_),(12,_)]) Z Z ⟨Z,Z,Z,Z,Z,Z,aq⟩ Z) ?_|refine aU (aE [900] (e':=[(29,_),(28,_),(4,_),(10,_),(11,_),(12,_)]) Z Z ⟨Z,Z,Z,Z,Z,Z,aq⟩ Z) ?_
   first|refine bc (br (ds:=[.int .i64 (p.getD i default).kind,.int .i64 (p.getD i default).fact,.int .i64 (p.getD i default).term.c,bl (p.getD i default).term.xs,.nils]) O Z Z Z Z Z Z Z Z Z Z (.d Z (.d Z (.d Z (.rs Z (cz _).symm (.d Z .nil))))) Z Z Z) Z ?_|refine bc (br (ds:=[.int .i64 (p.getD i default).kind,.int .i64 (p.getD i default).fact,.int .i64 (p.getD i default).term.c,.nils,bl (p.getD i default).mul]) O Z Z Z Z Z Z Z Z Z Z (.d Z (.d Z (.d Z (.d Z (.rs Z (cz _).symm .nil))))) Z Z Z) Z ?_|refine bc (br (ds:=[.int .i64 (p.getD i default).kind,.int .i64 (p.getD i default).fact,.int .i64 (p.getD i default).term.c,.nils,.nils]) O Z Z Z Z Z Z Z Z Z Z (.d Z (.d Z (.d Z (.d Z (.d Z .nil))))) Z Z Z) Z ?_
   refine aD ?_
   first|refine aU (Ent.rowLe 30 (ys:=[Nd.cells (p.getD i default)]) Z (gp .refl (cK hm2))) ?_|refine aU (Ent.rowLe 30 (ys:=[Nd.cells (p.getD i default)]) Z (gp (cK (dg h1 h2 hL hpl hx hk0 hm1).2) .refl)) ?_|refine aU (Ent.rowLe 30 (ys:=[Nd.cells (p.getD i default)]) Z (gp (cK (dh h1 h2 hL hpl hx hk0 hm0).2) (cK hm0))) ?_
   refine aD ?_
   refine aD ?_
   refine jf [30,28,4,10,11,12] Z (bc (c6 (zs:=(p.take (i+1)).map Nd.cells) (n:=i+1) O Z Z Z Z Z Z Z Z Z Z Z Z Z Z Z Z (.row Z (by simp;omega)) Z Z (by decide) Z (by simp;omega) (by simp;omega) (by rw[List.take_succ_eq_append_getElem (show i<p.length by omega),av (show i<p.length by omega),List.map_append];rfl) (by simp;omega)) Z (aD ?_))
   refine aD ?_
   refine js Z (jf [4,10,11,12] Z (jn (ab ?_)))
   first|refine ji Z ?_|refine bv Z Z ?_
   refine js Z (jn ?_)
   refine⟨i+1,((aE [31] (e':=[(4,_),(10,_),(11,_),(12,_)]) Z Z ⟨Z,Z,Z,Z,aq⟩ Z).trans (bw 31 900 Z Z)).trans (Ent.to ⟨Z,Z,Z,Z,aq⟩ Z),by omega,by omega⟩
 refine aZ (ag (ac ?_))
 have hz1:i=p.length:=by have:=bB z13;omega
 rw[hz1,List.take_length]
 refine js Z (aX O Z Z Z Z (qI (p:=p) h1 h2) (.cons (.c (.whole Z (cz _).symm)) .nil) Z Z Z Z Z (B0:=35000) Z (js Z (jf [35,13,4,10,11,12] Z (jn (ak Z (fun z35=>?_) (fun z35=>?_))))))
 exact absurd z35 (by rw[hI];decide)
 refine af (ac (aP Z (jr ?_)))
 refine⟨.inl Z,_,dd,_,Z,[900],by decide,Z,Z,Z⟩
theorem c1318v{s:Str}{r:List Nd}{m0:Nat}(hm0:m0=r.length)(hcc:1+cnt nN r≤(1073741824:Int))(hs:s.length≤1048576)(cs:MQ h1 h2 22 [aS8 s] [] (Plain (.tup [dp r,eB true])))(ci:MQ h1 h2 23 [aS8 s] [] (Rows (.tup [.c (.rs 0 0 m0),eB true]) [fq r]))(hcp:1≤(1073741824:Int)):MQ h1 h2 6 [aS8 s] [] (Plain (eB true)):=by
 refine aA ?_ Z
 refine jB 66 h1 h2 Tryd.func6 Z fun O hF=>?_
 subst hm0
 have hbig:L≤9223372036854775807:=Nat.le_trans h2 (by decide)
 refine ac (js Z (jn (ag (ac (js Z (aa (aV (p:=s) O Z Z Z Z Z Z Z Z Z) Z (js Z (jf [13,2,0] Z (jn (ak Z (fun z13=>?_) (fun z13=>?_)))))))))))
 exact absurd (bf z13) (by omega)
 refine af (ac (js Z (jf [15,2,0] Z (au O Z Z Z Z (cs) (al Z) Z Z Z Z (B0:=17000) Z Z (bn Z (js Z (jf [4,3,2,0] Z (bM (js Z (ba O (B0:=22000) Z Z Z Z (ci) (.cons (.c .d) .nil) Z Z Z Z Z Z (aD ?_)))))))))))
 refine bn Z (js Z (jf [6,5,4,3,2,0] Z (jn (ag (ac (ae Z (aX O Z Z Z Z ((rD (xs:=r) (ys:=r) h1 h2).plain (u:=eB true) (by simp)) (.cons (.c (.whole Z (cz _).symm)) (.cons (.c .d) .nil)) Z Z Z Z Z (B0:=27000) Z (ae Z (jf [28,6,5,4,3,2,0] Z (mG Z (js Z (jf [29,28,5,4,3,2,0] Z (mG Z (js Z (mG Z (js Z (aa (eM O Z Z Z Z Z) Z (jf [32,5,4,3,2,0] Z (jn (ak Z (fun z32=>?_) (fun z32=>?_)))))))))))))))))))))
 exact mL z32
 refine af (ac (js Z (bM (ae Z (jf [34,33,7,5,4,3,2,0] Z (gW O [22000] (bin:=[fq r]) Z Z Z Z (c39 (ts:=r) (k:=1) h1 h2 (by decide) (by omega)) Z Z Z Z Z Z (B0:=36000) Z Z (aD ?_)))))))
 refine js Z (jf [7,5,4,3,2,0] Z (bM (js Z (bM (ae Z (aX O Z Z Z Z (lD (ts:=r) (k:=1) h1 h2 (by decide) (by omega)) (.cons (.c (.whole Z (by rw[cz,aO]))) (.cons (.c .d) .nil)) Z Z Z Z Z (B0:=39000) Z (js Z (jf [8,7,5,4,3,2,0] Z (jn (ag (ac (ae Z (jn (ak Z (fun z40=>?_) (fun z40=>?_)))))))))))))))
 exact absurd (bf z40) (by omega)
 refine af (ag (ac (aP Z (jf [43,39,8,7,5,4,3,2,0] Z (jn (ak Z (fun z43=>?_) (fun z43=>?_)))))))
 exact absurd z43 (by simp)
 refine af (ac (js Z (jf [45,39,8,7,5,4,3,2,0] Z (ba O (B0:=47000) Z Z Z Z (ci) (al Z) Z Z Z Z Z Z (aD ?_)))))
 refine bn Z (js Z (jf [10,9,39,8,7,5,4,3,2,0] Z (jn (ag (ac (ae Z (jf [50,49,10,39,8,7,5,4,3,2,0] Z (aX O Z Z Z Z ((rD (xs:=r) (ys:=r) h1 h2).plain (u:=eB true) (by simp)) (.cons (.c (.whole Z (cz _).symm)) (.cons (.c .d) .nil)) Z Z Z Z Z (B0:=52000) Z (ae Z (jf [53,10,39,8,7,5,4,3,2,0] Z (mG Z (js Z (jf [54,53,39,8,7,5,4,3,2,0] Z (mG Z (js Z (mG Z (js Z (aa (eM O Z Z Z Z Z) Z (jf [57,39,8,7,5,4,3,2,0] Z (jn (ak Z (fun z57=>?_) (fun z57=>?_))))))))))))))))))))))
 exact mL z57
 refine af (ac (js Z (bM (ae Z (jf [59,58,8,39,7,5,4,3,2,0] Z (aX O Z Z Z Z (lD (ts:=r) (k:=1) h1 h2 (by decide) (by omega)) (.cons (.c (.whole Z (by rw[cz,aO]))) (.cons (.c .d) .nil)) Z Z Z Z Z (B0:=61000) Z (js Z (jf [8,39,7,5,4,3,2,0] Z (jn (ag (ac (ae Z (jn (ak Z (fun z62=>?_) (fun z62=>?_)))))))))))))))
 exact absurd (bf z62) (by omega)
 refine af (ag (ac (aP Z (jf [65,61,8,39,7,5,4,3,2,0] Z (jn (ak Z (fun z65=>?_) (fun z65=>?_)))))))
 exact absurd z65 (by simp)
 refine af (ac (js Z (jr ?_)))
 refine az Z ?_
 rfl
theorem c1318n{s:Str}(hs:s.length≤1048576)(cs:MQ h1 h2 22 [aS8 s] [] (Plain (.tup [dp ([]:List Nd),eB false])))(ci:MQ h1 h2 23 [aS8 s] [] (Rows (.tup [.c (.d (oO [])),eB false]) []))(hcp:1≤(1073741824:Int)):MQ h1 h2 6 [aS8 s] [] (Plain (eB true)):=by
 refine aA ?_ Z
 refine jB 66 h1 h2 Tryd.func6 Z fun O hF=>?_
 have hbig:L≤9223372036854775807:=Nat.le_trans h2 (by decide)
 refine ac (js Z (jn (ag (ac (js Z (aa (aV (p:=s) O Z Z Z Z Z Z Z Z Z) Z (js Z (jf [13,2,0] Z (jn (ak Z (fun z13=>?_) (fun z13=>?_)))))))))))
 exact absurd (bf z13) (by omega)
 refine af (ac (js Z (jf [15,2,0] Z (au O Z Z Z Z (cs) (al Z) Z Z Z Z (B0:=17000) Z Z (bn Z (js Z (jf [4,3,2,0] Z (bM (js Z (ba O (B0:=22000) Z Z Z Z (ci) (.cons (.c .d) .nil) Z Z Z Z Z Z (aD ?_)))))))))))
 refine bn Z (js Z (jf [6,5,4,3,2,0] Z (jn (ag (ac (ae Z (aX O Z Z Z Z ((rD (xs:=([]:List Nd)) (ys:=([]:List Nd)) h1 h2).plain (u:=eB true) (by simp)) (.cons (.c .d) (.cons (.c .d) .nil)) Z Z Z Z Z (B0:=27000) Z (ae Z (jf [28,6,5,4,3,2,0] Z (mG Z (js Z (jf [29,28,5,4,3,2,0] Z (mG Z (js Z (mG Z (js Z (aa (eM O Z Z Z Z Z) Z (jf [32,5,4,3,2,0] Z (jn (ak Z (fun z32=>?_) (fun z32=>?_)))))))))))))))))))))
 exact mL z32
 refine af (ac (js Z (bM (ae Z (jf [34,33,7,5,4,3,2,0] Z (aX O Z Z Z Z (sa (k:=1) h1 h2) (.cons (.c .d) (.cons (.c .d) .nil)) Z Z Z Z Z (B0:=36000) Z (js Z (jf [7,5,4,3,2,0] Z (bM (js Z (bM (ae Z (aX O Z Z Z Z ((lD (ts:=([]:List Nd)) (k:=1) h1 h2 (by decide) (by decide)).plain (u:=eI 1) Z) (.cons (.c .d) (.cons (.c .d) .nil)) Z Z Z Z Z (B0:=39000) Z (js Z (jf [8,7,5,4,3,2,0] Z (jn (ag (ac (ae Z (jn (ak Z (fun z40=>?_) (fun z40=>?_))))))))))))))))))))))
 exact absurd (bf z40) (by decide)
 refine af (ag (ac (aP Z (jf [43,39,8,7,5,4,3,2,0] Z (jn (ak Z (fun z43=>?_) (fun z43=>?_)))))))
 exact absurd z43 (by simp)
 refine af (ac (js Z (jf [45,39,8,7,5,4,3,2,0] Z (ba O (B0:=47000) Z Z Z Z (ci) (al Z) Z Z Z Z Z Z (aD ?_)))))
 refine bn Z (js Z (jf [10,9,39,8,7,5,4,3,2,0] Z (jn (ag (ac (ae Z (jf [50,49,10,39,8,7,5,4,3,2,0] Z (aX O Z Z Z Z ((rD (xs:=([]:List Nd)) (ys:=([]:List Nd)) h1 h2).plain (u:=eB true) (by simp)) (.cons (.c .d) (.cons (.c .d) .nil)) Z Z Z Z Z (B0:=52000) Z (ae Z (jf [53,10,39,8,7,5,4,3,2,0] Z (mG Z (js Z (jf [54,53,39,8,7,5,4,3,2,0] Z (mG Z (js Z (mG Z (js Z (aa (eM O Z Z Z Z Z) Z (jf [57,39,8,7,5,4,3,2,0] Z (jn (ak Z (fun z57=>?_) (fun z57=>?_))))))))))))))))))))))
 exact mL z57
 refine af (ac (js Z (bM (ae Z (jf [59,58,8,39,7,5,4,3,2,0] Z (aX O Z Z Z Z ((lD (ts:=([]:List Nd)) (k:=1) h1 h2 (by decide) (by decide)).plain (u:=eI 1) Z) (.cons (.c .d) (.cons (.c .d) .nil)) Z Z Z Z Z (B0:=61000) Z (js Z (jf [8,39,7,5,4,3,2,0] Z (jn (ag (ac (ae Z (jn (ak Z (fun z62=>?_) (fun z62=>?_)))))))))))))))
 exact absurd (bf z62) (by decide)
 refine af (ag (ac (aP Z (jf [65,61,8,39,7,5,4,3,2,0] Z (jn (ak Z (fun z65=>?_) (fun z65=>?_)))))))
 exact absurd z65 (by simp)
 refine af (ac (js Z (jr ?_)))
 refine az Z ?_
 rfl
theorem c1318l{L:Nat}(h1:4096≤L)(h2:L≤9223372036854775807){s:Str}(hs:1048576<s.length):MC Tryd.prog L 6 [aS8 s] [] (Plain (eB true)):=by
 refine aA ?_ Z
 have O:=pz (nt:=66) h1 h2
 refine MC.body O Tryd.func6 (by kernel_rfl) Z Z (Nat.le_of_ble_eq_true Z) (fun hF=>?_)
 refine ac (js Z (jn (ag (ac (js Z (aa (aV (p:=s) O Z Z Z Z Z Z Z Z Z) Z (js Z (jf [13,2,0] Z (jn (ak Z (fun z13=>?_) (fun z13=>?_)))))))))))
 refine ac (js Z (jr ?_))
 refine az Z ?_
 rfl
 exact absurd z13 (by simp;omega)
end Go.Al
