/- Contracts of the program's functions for oK; the types of the arguments; what is drawn from bytes. -/
import Derived.Test.YtlofbdghppgnbaaDoorD
import Derived.Test.YtlofbdghppgnbaaDoorC
import Derived.Test.YtlofbdghppgnbaaDoorRows
set_option linter.unusedVariables false
set_option linter.unusedSimpArgs false
set_option maxRecDepth 10000
set_option maxHeartbeats 4000000
open Go.Proofs
namespace Go.Al
variable{L:Nat}(h1:4096≤L)(h2:L≤1073741824)
theorem nO{c:Int}{xs:List Int}(h:(dR c xs).2=true):(dR c xs).1.ok=true:=by
 unfold dR at h ⊢
 split at h
 rename_i h1;rw[if_pos h1];exact h1
 cases h
theorem kT{t:Tm}(h:(bB t).2=true):(bB t).1.ok=true:=by
 unfold bB at h ⊢
 split at h
 cases h
 rename_i h1;rw[if_neg h1];exact nO h
structure CS where
  all:List (List Tm)
  has:List Bool
  right:List Bool
  flaw:Int
structure CSok(p:List Nd)(k:Nat)(z:CS):Prop where
  all:z.all.length=k
  has:z.has.length=k
  right:z.right.length=k
  flaw: -1≤z.flaw∧z.flaw<k
  ctx: ∀j,j<k→z.has.getD j default=true→CtxOk (z.all.getD j default)
  good: ∀j,j<k→z.right.getD j default=true→z.has.getD j default=true∧lQ (p.getD j default) (z.all.getD j default)=true
structure Con where
  all:List (List Tm)
  has:List Bool
  flaw:Int
  ok:Bool
theorem e6{s:Sq}(h:fT s=true):(∀t∈s.facts,t.ok=true)∧s.facts.length≤13∧s.goal.ok=true:=by
 simp only[fT,fh,aL,decide_eq_true_eq,List.all_eq_true]at h
 exact⟨h.1.1,by omega,h.2⟩
theorem g2{a b:Bool}:(bif !a then true else !b)= !(a&&b):=by cases a<;>cases b<;>rfl
abbrev sqs(ss:List Sq):D:=.slc 3 (ss.map Sq.cells)
abbrev mF(ss:List Sq):A:=.c (.d (sqs ss))
variable{ts:List Tm}{n:Int}
theorem qb:MQ h1 h2 71 [fG ts,eI n] [] (Plain (eB (fh ts n))):=by
 refine aH ?_ Z
 refine jB 21 h1 h2 Tryd.func71 Z fun O hF=>?_
 have hl:ts.length≤L:=by simpa[As.fact,A.fact,M.fact,D.fact,Ds.fact]using hF.1.1
 refine ah (js Z (jn (ae (ah (js Z (fK Z (ap Z (jn (aB Z (fun z10=>?_) (fun z10=>?_))))))))))
 try simp only[bI]at z10
 refine ah (js Z (jr ?_))
 refine aK Z ?_
 rw[fh,decide_eq_false (show¬(ts.length:Int)≤n by omega),Bool.and_false]
 try simp only[bI]at z10
 refine ao (ae (ah (js Z (fK Z (js Z (jn (ak (av (X:=Nat) (fun i=>⟨[(1,eI n),(11,fG ts),(12,eI ts.length),(13,eI i)],[]⟩) (fun i=>i≤ts.length∧∀j (h:j<ts.length),j<i→Tm.ok ts[j]=true) (fun i=>ts.length-i) 0 (Ent.to ⟨Z,Z,Z,Z,aw⟩ Z) ?_ (fun i hi=>?_)))))))))
 exact⟨fE _,fun j h hj=>absurd hj (Nat.not_lt_zero j)⟩
 refine ah (js Z (jn (ae (aB Z (fun z14=>?_) (fun z14=>?_)))))
 try simp only[bI]at z14
 refine ao (ae (ak (ah (pB Z Z (js Z (jl Z (jo Z (b0 (js Z (cR Z (mD (t:=ts.getD i default) h1 h2) 19000 Z (js Z (jn (aB Z (fun z19=>?_) (fun z19=>?_))))))))))))))
 try simp only[bI]at z19
 refine ah (js Z (jr ?_))
 refine aK Z ?_
 rw[ax (by omega)]at z19
 rw[fh,iz i (by omega) z19,Bool.false_and]
 try simp only[bI]at z19
 refine ao (ag (ji Z (js Z (jn ?_))))
 refine⟨i+1,(aV [] (e':=[(1,_),(11,_),(12,_),(13,_)]) Z Z ⟨Z,Z,Z,Z,aw⟩ Z),⟨by omega,fun j h hj=>?_⟩,by omega⟩
 by_cases e:j=i
 subst e;rw[ax h]at z19;exact z19
 exact hi.2 j h (by omega)
 try simp only[bI]at z14
 refine bi (ah (js Z (jr ?_)))
 refine aK Z ?_
 rw[fh,jF (fun j hj=>hi.2 j hj (by omega)),decide_eq_true (show(ts.length:Int)≤n by omega),Bool.true_and]
theorem oh{s:Sq}:MQ h1 h2 35 [ng s] [] (Plain (eB (fT s))):=by
 refine aH ?_ Z
 refine jB 11 h1 h2 Tryd.func35 Z fun O hF=>?_
 refine ah (jx Z (js Z (b0 (ap Z (cR Z (qb h1 h2) 6000 Z (js Z (aO 3 Z Z Z (fun hx=>az hx Z (az hx Z (eC O hx Z Z Z Z (mD h1 h2) (ac Z) Z Z Z Z Z Z Z (B0:=10000) Z (AN.nil)))) Z Z (an (aA O Z Z Z Z Z) Z (js Z (jr ?_))))))))))
 refine aK Z ?_
 rw[Bool.cond_false_right];rfl
variable{t:Tm}
theorem p9:MQ h1 h2 36 [df t] [] (Plain (df ⟨t.c,aW t.xs⟩)):=by
 refine MC.data (jB 26 h1 h2 Tryd.func36 Z fun O hF=>?_)
 have hl:t.xs.length≤L:=by simpa[As.fact,A.fact,M.fact,Ms.fact,D.fact,Ds.fact]using hF.1.2.1.1
 refine ah (jx Z (jl Z (b0 (ap Z (fK Z (js Z (jn (ae (ak (av (X:=Nat) (fun n=>⟨[(1,.c (.pt 1 0 0)),(2,.c (.pt 2 0 0)),(3,eI n)],[(1,.box [.d (.int .i64 t.c),.d (eX t.xs)]),(2,.box [.d (.int .i64 0),.d .nils])]⟩) (fun n=>n≤t.xs.length∧aW (t.xs.take n)=aW t.xs) (fun n=>n) t.xs.length (Ent.env ⟨Z,Z,Z,aw⟩) ?_ (fun n hi=>?_)))))))))))
 exact⟨bp _,by rw[List.take_length]⟩
 refine ae (ah (bQ Z (aO 7 Z Z Z (fun hx=>az hx Z (az hx Z (az hx Z (ct hx (vF Z) Z (ct hx (vD Z) Z (az hx Z (az hx Z (AN.nil)))))))) Z Z (an (aA O Z Z Z Z Z) Z (jn (aB Z (fun z17=>?_) (fun z17=>?_)))))))
 refine ao (ak (ag (js Z (ji Z (js Z (jn ?_))))))
 rw[Bool.cond_false_right,aL,decide_eq_true_eq,decide_eq_true_eq]at z17
 obtain⟨k,hk⟩: ∃k,n=k+1:=⟨n-1,by omega⟩
 subst hk
 have hk2:((k+1:Nat):Int)-1=k:=by omega
 rw[hk2]at z17
 refine⟨k,Ent.to ⟨Z,Z,by rw[hk2];rfl,aw⟩ Z,⟨by omega,?_⟩,Nat.lt_succ_self k⟩
 rw[←hi.2,gK (by omega) (by simpa using z17.2)]
 refine bi (ah (bQ Z ?_))
 have hd:aW (t.xs.take n)=t.xs.take n:=e5 hi.1 (by
  rw[Bool.cond_false_right]at z17
  rcases Nat.eq_zero_or_pos n with h0|h0
  ·
   exact .inl h0
  ·
   refine .inr (fun h9=>?_)
   have e1:((n:Int)-1).toNat=n-1:=by omega
   rw[e1,h9]at z17;simp at z17;omega)
 have ht:=hi.2
 rw[hd]at ht
 refine an ((dI O Z Z ⟨by omega,by simp;omega⟩).cast (v':=bm (aW t.xs)) (by rw[←ht];simp[List.map_take])) Z (js Z (jo Z (b0 (js Z (jo Z (jr ?_))))))
 refine aK Z ?_
 exact .v (.agg (aT Z))
theorem gb{f:Tm→Int}: ∀{ts:List Tm} {ms:List Int},ts.length≤ms.length→aY f (ts.take ts.length) (ms.take ts.length)=aY f ts ms
 | [],ms,_=>by cases ms<;>simp[aY]
 | t::ts,[],h=>by simp at h
 | t::ts,m::ms,h=>by
  have:=gb (f:=f) (ts:=ts) (ms:=ms) (by simpa using h)
  simp only[fI,List.take_succ_cons,aY]at this ⊢
  rw[this]
theorem k7{ts:List Tm}{ms:List Int}(h:ts.length≤ms.length):ba (ts.take ts.length) (ms.take ts.length)=ba ts ms:=by
 unfold ba
 apply List.map_congr_left
 intro k _
 exact gb h
theorem nA{x:Int}(hx: -1000000≤x∧x≤1000000):MQ h1 h2 69 [eI x] [] (Plain (eI x.natAbs)):=by
 refine aH ?_ Z
 refine jB 7 h1 h2 Tryd.func69 Z fun O hF=>?_
 refine ah (js Z (b0 (ap Z (ji Z (ap Z (jr ?_))))))
 refine aK Z ?_
 exact congrArg eI (show(if 0-x>x then 0-x else x)=(x.natAbs:Int) by split<;>omega)
theorem qk{t:Tm}:t.ok=true↔num t.c=true∧t.xs.all num=true∧t.xs.length≤10∧(t.xs=[]∨t.xs.getD (t.xs.length-1) default≠0):=by
 unfold Tm.ok
 have hz:((t.xs.length:Int)-1).toNat=t.xs.length-1:=by omega
 rw[hz]
 cases h1:num t.c<;>cases h2:t.xs.all num<;>simp
 by_cases h3:t.xs.length≤10
 have h4: ¬(10:Int)<t.xs.length:=by omega
 by_cases h5:t.xs=[]
 simp[h5]
 have h6:0<t.xs.length:=List.length_pos_iff.2 h5
 simp[h3,h5]
 intro _;omega
 have h4:(10:Int)<t.xs.length:=by omega
 simp[h3,h4]
inductive Pf where
  | close (n:Nd)
  | tight (n:Nd) (a:Pf)
  | split (n:Nd) (a b:Pf)
structure Ex where
  es:List (Int×List Tm)
  flaw:Int
def fl(b:Nat→Bool):Nat→Nat→Int→Int
  | _,0,f=>f
  | k,n+1,f=>fl b (k+1) n (if b k=true∧f<0 then(k:Int)else f)
structure Eqs(p:List Nd)(c0:List Tm)(H:Nat→Bool)(A:Nat→List Tm)(R:Nat→Bool):Prop where
  h0:0<p.length→H 0=true∧A 0=c0
  h: ∀j,0<j→j<p.length→H j=R (n4 p j j).1.toNat
  a: ∀j,0<j→j<p.length→H j=true→A j=nX (p.getD (n4 p j j).1.toNat default) (A (n4 p j j).1.toNat) (n4 p j j).2
  r: ∀j,j<p.length→R j=(H j&&lQ (p.getD j default) (A j))
end Go.Al
/- What the laws of the certificates share: the types of their arguments; what came in reads as it did. -/
namespace Go.Proofs.YtlofbdghppgnbaaDoor
open Go.ChangeShapes Go.WideShapes Go.ChangeAt Go.RowKit Go.Al

theorem ownK:ownKnob Tryd.prog.godebug=none:=by kernel_rfl
theorem kidsK:Kids Tryd.prog (· < Tryd.prog.types.size):=kids_rows (by kernel_rfl) (by kernel_rfl)
theorem fullK: ∀t e,t<Tryd.prog.types.size→Tryd.prog.underlying t=some (.slice e)→0<Tryd.prog.cellsOf e:=slices_full_of Tryd.prog (by kernel_rfl)

theorem fits_all{α:Type}{es:List Ty}{g:α→List D}(hg: ∀e,FitsL es e→∃a,e=g a): ∀{xs:List (List D)},FitsA es xs→∃ys:List α,xs=ys.map g
 | _,.nil=>⟨[],rfl⟩
 | _,.cons h1 h2=>by
  obtain⟨a,rfl⟩:=hg _ h1
  obtain⟨ys,rfl⟩:=fits_all hg h2
  exact⟨a::ys,Z⟩
theorem fits_one{t:Ty}{e:List D}(h:FitsL [t] e): ∃d,e=[d]∧Fits t d:=by
 cases h with
 | cons a h=>cases h;exact⟨_,rfl,a⟩
theorem rdl_rms{L:Nat}{w:World}{ok:Nat→Prop}{m:Nat→Go.Al.Loc}: ∀{ds:List D} {vs:List Value} {F:List Nat},RDL L w ok ds vs F→F=[]→RMs L w ok m (ds.map .d) vs
 | _,_,_,.nil,_=>.nil
 | _,_,_,.cons (F1:=F1) (F2:=F2) h1 h2,hF=>by
  obtain⟨rfl,rfl⟩:=List.append_eq_nil_iff.1 hF
  exact .cons (.d h1) (rdl_rms h2 Z)
section
variable{H:Type}{enc:TypeId×Value→H}{P:Program}{w w':World}
theorem mT(hs: ∀b,b<w.heap.size→Same w w' b){p:MemPlace}(hp:p.block<w.heap.size):w.sameAt w' p:=by
 cases p with
 | cell b o=>exact(hs b hp).cell
 | map b=>exact hs b hp
theorem trodAll_same(hs: ∀b,b<w.heap.size→Same w w' b){base:Nat}{sp:Nat→Bool}{held:Bool}: ∀{ts:List TypeId} {vs:List Value} {ds:List (DataW H)} {ps:List MemPlace},(∀p∈ps,p.block<w.heap.size)→DataW.TrodAll enc P w base sp held ts vs ds ps→DataW.TrodAll enc P w' base sp held ts vs ds ps
 | [],[],[],_,_,h=>h
 | _::_,_::_,_::_,_,hl,⟨p,q,⟨n,h1⟩,h2,e⟩=>
  ⟨p,q,⟨n,DataW.trod_carry n _ _ _ h1 (fun x hx=>mT hs (hl x (by rw[e];exact List.mem_append_left _ hx)))⟩,trodAll_same hs (fun x hx=>hl x (by rw[e];exact List.mem_append_right _ hx)) h2,e⟩
theorem jT(hf:Go.Al.Frame w w' [])(may:MemPlace→Prop):w.keptBut w' may:=by
 refine⟨hf.os,hf.output,fun i hi=>?_⟩
 have h:=hf.block i hi (by simp)
 unfold Same at h
 rw[h]
 cases hx:w.heap[i]? with
 | none=>trivial
 | some o=>
  cases o with
  | cells c t fr=>exact⟨Z,Z,Z,fun _ _=>rfl⟩
  | map es clock=>exact .inr ⟨Z,Z⟩
  | _=>rfl
theorem jS(hf:Go.Al.Frame w w' []){a:Addr}(ha:a.block<w.heap.size):w'.frozen? a=w.frozen? a:=by
 have h:=hf.block a.block ha (by simp)
 unfold Same at h
 unfold World.frozen?
 rw[h]
theorem post_of_old{f:Func}{s:ChangeSpec}{apart fresh handsOn again:Bool}{args:Array Value}{v:Value}{ds gs:List (DataW H)}{before pa pv:List MemPlace}
    (hW:DataW.Whole enc P f.params.toList s.vars apart w args.toList ds gs before)
    (hres: ∀(b:Nat) (sp:Nat→Bool) (hd:Bool),DataW.TrodAll enc P w' b sp hd f.resultTypes.toList (v.resultList f.resultTypes.size) (s.fn H (ds++gs)).results [])
    (hargs: ∀sp:Nat→Bool,(∀p∈before,sp p.block=true)→DataW.TrodAll enc P w' 0 sp true f.params.toList args.toList (s.fn H (ds++gs)).args pa)
    (hvars: ∀sp:Nat→Bool,(∀p∈before,sp p.block=true)→DataW.TrodVars enc P w' sp s.vars (s.fn H (ds++gs)).vars pv)
    (hps:before=pa++pv) (hf:Go.Al.Frame w w' [])
    (hok: ∀(j:Nat) (t:TypeId) (r:Value),f.resultTypes[j]? = some t→(v.resultList f.resultTypes.size)[j]? = some r→Value.okWide P w' .any 0 t r) :
    s.post enc P f apart fresh handsOn again w args v w':=by
 have hlt:=hW.lt
 have hold: ∀p∈before,(fun b=>decide (b<w.heap.size)) p.block=true:=fun p hp=>by simpa using hlt p hp
 refine⟨ds,gs,before,[],pa,pv,hW,hres _ _ _,hargs _ hold,hvars _ hold,World.keptBut_mono (fun p hp=>⟨hp,?_⟩) (jT hf (· ∈before)),fun _=>?_⟩
 rw[hps,List.mem_append]at hp
 exact Or.inr hp
 obtain⟨_,_,_,_,_,hz,hn⟩:=hW
 refine⟨hok,_,_,([]++pa)++pv,⟨[]++pa,pv,trodAll_append (hargs _ (fun _ _=>rfl)) (hres _ _ _),hvars _ (fun _ _=>rfl),Z,?_,?_⟩,?_⟩
 intro b off hp
 have hp':MemPlace.cell b off∈before:=by rw[hps];simpa using hp
 rw[jS hf (hlt _ hp')]
 exact hz b off hp'
 intro ha
 have:=hn ha
 rw[hps]at this
 simpa using this
 intro p hp _
 rw[hps]
 simpa using hp
end

end Go.Proofs.YtlofbdghppgnbaaDoor
namespace Go.Al
variable{L:Nat}(h1:4096≤L)(h2:L≤1073741824)
structure NdAt(n:Nat)(x:Nd):Prop where
  close:x.kind=1→n+1≤x.mul.length∧x.mul.length≤20
  fact:x.kind=3→0≤x.fact∧x.fact≤19
  kind:x.kind=1∨x.kind=2∨x.kind=3
structure MvOk(pw to:Int→Int)(x:Nd):Prop where
  kind:x.kind=1∨x.kind=2∨x.kind=3
  fact:x.kind=3→0≤x.fact∧x.fact≤19
  len:x.kind=1→x.mul.length≤20
  cntb:x.kind=1→0≤pw x.mul.length∧pw x.mul.length≤1000
  rng:x.kind=1→∀i:Nat,i<x.mul.length→to i<pw x.mul.length
structure Rw where
  c:Int
  xs:List Int
  ms:List Int
  deriving Inhabited
structure ROk(n:Nat)(r:Rw):Prop where
  c:num r.c=true
  xs:r.xs.all num=true
  l:r.xs.length=10
  ms:r.ms.all co=true
  n:r.ms.length=n
  my: ∃x∈r.ms,0<x
structure Fs(ts:List Tm):Prop where
  ok: ∀t∈ts,t.ok=true
  len:ts.length≤14
structure Src where
  code:List Int
  at_:Nat
  seed:Int
abbrev bys(xs:List Int):D:=.slc 1 (xs.map fun n=>[.int .u8 n])
abbrev aU(s:Src):B:=.box [.d (bys s.code),.d (.int .i64 (s.at_:Nat)),.d (.int .u64 s.seed)]
def Src.b(s:Src):Int:=if s.at_<s.code.length then IntKind.i64.wrap (s.code.getD s.at_ default)else 0
def Src.step(s:Src):Src:=⟨s.code,s.at_+1,IntKind.u64.wrap (IntKind.u64.wrap (IntKind.u64.wrap (s.seed*6364136223846793005)+IntKind.u64.wrap s.b)+1442695040888963407)⟩
def Src.val(s:Src):Int:=if s.at_+1≤s.code.length then s.b else lC s.step.seed
structure Src.Ok(s:Src):Prop where
  code: ∀n∈s.code,0≤n∧n≤255
theorem Src.Ok.step{s:Src}(h:s.Ok):s.step.Ok:=⟨h.code⟩
theorem mt{s:Src}(h:s.Ok):0≤s.b∧s.b≤255:=by
 unfold Src.b
 split
 rename_i hlt
 have:=h.code _ (by rw[ax hlt];exact List.getElem_mem hlt:s.code.getD s.at_ default∈s.code)
 rw[cV .i64 _ (by show(-9223372036854775808:Int)≤_;omega) (by show _≤(9223372036854775807:Int);omega)]
 exact this
 omega
theorem bd{s:Src}(h:s.Ok):0≤s.val∧s.val≤255:=by
 unfold Src.val
 split
 exact mt h
 exact mZ _
theorem nS{s:Src}(ha:s.at_≤1000000000)(hi:s.at_<s.code.length):MQ h1 h2 62 [.c (.pt 0 0 0)] [(0,aU s)] (dd (eI s.val) [(0,aU s.step)]):=by
 refine MC.shift 500 Z (MC.keep [500] (bs:=[aU s.step]) Z Z (jH 62 [500] h1 h2 Tryd.func62 Z fun O hF=>?_))
 refine g9 ?_
 have hb:s.b=IntKind.i64.wrap (s.code.getD s.at_ default):=if_pos hi
 have hv:s.val=s.b:=if_pos hi
 refine ah (js Z (b0 (js Z (jn (ae (ae (jy [_,_,_,_,_,_,_,_,_,_] [aM,af [0],af [0,1],af [0,1,2],aM,af [4],af [4,5],af [4,5,6],af (rg 4 4),af (rg 0 9)] [] [_] (eT Z (eT Z (ai (cm O Z Z Z Z Z Z Z Z) (kc Z trivial)))) ?_)))))))
 refine jw [13,3,2,0] Z (g9 ?_)
 refine aB Z (fun z13=>?_) (fun z13=>?_)
 refine jw [2,0] Z (jy [_,_,_,_,_,_,_,_,_,_,_,_] [aM,af [0],af [0,1],af [0,1,2],aM,af [4],af [4,5],af [4,5,6],af (rg 0 8),af (rg 0 9),af (rg 0 10),af (rg 0 11)] [] [_] (eT Z (eT Z (ai (ej O Z Z Z Z Z Z Z Z (lD hi)) (kc Z (ai (Val.conv O (k':=.i64) (dt:=.int .u8) (b:=true) Z Z Z (by kernel_rfl) (by kernel_rfl)) (kc Z trivial)))))) ?_)
 refine jw [3,2,0] Z (g9 ?_)
 refine ah ?_
 rw[←hb]
 refine cb Z (an ((vF Z).cast (v':=eI ((s.at_+1:Nat):Int)) (congrArg eI (by omega))) Z (ap Z (jo Z (aP ?_))))
 refine b0 (cb Z (bQ Z (an (Val.conv O (k':=.u64) (dt:=.int .i64) (b:=true) Z Z Z (by kernel_rfl) (by kernel_rfl)) Z (cb Z (jo Z (aP ?_))))))
 refine jn (ae (ae (jy [_,_,_,_,_,_,_,_,_,_] [aM,af [0],af [0,1],af [0,1,2],aM,af [4],af [4,5],af [4,5,6],af (rg 4 4),af (rg 0 9)] [] [_] (eT Z (eT Z (ai (cm O Z Z Z Z Z Z Z Z) (kc Z trivial)))) ?_)))
 refine jw [53,3,2,0] Z (g9 ?_)
 refine aB Z (fun z53=>?_) (fun z53=>?_)
 refine ah (ap Z (jr ?_))
 refine⟨.inl Z,_,dh,_,Z,by rw[hv];rfl,Z⟩
 exact absurd (eQ z53) (by omega)
 exact absurd (eQ z13) (by omega)
theorem nT{s:Src}(ha:s.at_≤1000000000)(hi: ¬s.at_<s.code.length):MQ h1 h2 62 [.c (.pt 0 0 0)] [(0,aU s)] (dd (eI s.val) [(0,aU s.step)]):=by
 refine MC.shift 500 Z (MC.keep [500] (bs:=[aU s.step]) Z Z (jH 62 [500] h1 h2 Tryd.func62 Z fun O hF=>?_))
 refine g9 ?_
 have hb:s.b=0:=if_neg hi
 have hv:s.val=lC s.step.seed:=if_neg (by omega)
 refine ah (js Z (b0 (js Z (jn (ae (ae (jy [_,_,_,_,_,_,_,_,_,_] [aM,af [0],af [0,1],af [0,1,2],aM,af [4],af [4,5],af [4,5,6],af (rg 4 4),af (rg 0 9)] [] [_] (eT Z (eT Z (ai (cm O Z Z Z Z Z Z Z Z) (kc Z trivial)))) ?_)))))))
 refine jw [13,3,2,0] Z (g9 ?_)
 refine aB Z (fun z13=>?_) (fun z13=>?_)
 exact absurd (eR z13) (by omega)
 refine ao (ah (cb Z (an ((vF Z).cast (v':=eI ((s.at_+1:Nat):Int)) (congrArg eI (by omega))) Z (ap Z (jo Z (aP ?_))))))
 refine b0 (cb Z (bQ Z ?_))
 rw[←hb]
 refine an (Val.conv O (k':=.u64) (dt:=.int .i64) (b:=true) Z Z Z (by kernel_rfl) (by kernel_rfl)) Z (cb Z (jo Z (aP ?_)))
 refine jn (ae (ae (jy [_,_,_,_,_,_,_,_,_,_] [aM,af [0],af [0,1],af [0,1,2],aM,af [4],af [4,5],af [4,5,6],af (rg 4 4),af (rg 0 9)] [] [_] (eT Z (eT Z (ai (cm O Z Z Z Z Z Z Z Z) (kc Z trivial)))) ?_)))
 refine jw [53,3,2,0] Z (g9 ?_)
 refine aB Z (fun z53=>?_) (fun z53=>?_)
 exact absurd (eR z53) (by omega)
 refine ao (ah (cb Z (an (Val.shr O Z Z Z Z Z (by decide)) Z (an (mq O Z Z Z Z Z) Z (an (Val.conv O (k':=.i64) (dt:=.int .u64) (b:=true) Z Z Z (by kernel_rfl) (by kernel_rfl)) Z (js Z (jr ?_)))))))
 refine⟨.inl Z,_,dh,_,Z,by rw[hv];rfl,Z⟩
theorem lL{L:Nat}(h1:4096≤L)(h2:L≤1073741824){s:Src}(ha:s.at_≤1000000000):MC Tryd.prog L 62 [.c (.pt 0 0 0)] [(0,aU s)] (dd (eI s.val) [(0,aU s.step)]):=by
 by_cases hi:s.at_<s.code.length
 exact nS h1 h2 ha hi
 exact nT h1 h2 ha hi
def Src.pick(n:Int)(s:Src):Int×Src:=if n≤1 then(0,s)else if 200<n then((s.val*256+s.step.val).tmod n,s.step.step)else(s.val.tmod n,s.step)
theorem mY{n:Int}{s:Src}(h:n≤1):s.pick n=(0,s):=if_pos h
theorem mb{n:Int}{s:Src}(h: ¬n≤1)(h2: ¬200<n):s.pick n=(s.val.tmod n,s.step):=by unfold Src.pick;rw[if_neg h,if_neg h2]
theorem md{n:Int}{s:Src}(h: ¬n≤1)(h2:200<n):s.pick n=((s.val*256+s.step.val).tmod n,s.step.step):=by unfold Src.pick;rw[if_neg h,if_pos h2]
theorem Src.Ok.pick{s:Src}(h:s.Ok){n:Int}:(s.pick n).2.Ok:=by
 unfold Src.pick;split
 exact h
 split
 exact h.step.step
 exact h.step
theorem bg{s:Src}{n:Int}:(s.pick n).2.at_≤s.at_+2:=by
 unfold Src.pick;split
 exact Nat.le_add_right _ _
 split
 exact bp _
 show s.at_+1≤s.at_+2;omega
theorem dB{a n:Int}(ha:0≤a)(hn:0<n):0≤a.tmod n∧a.tmod n<n:=by
 rw[Int.tmod_eq_emod_of_nonneg ha]
 exact⟨Int.emod_nonneg _ (by omega),Int.emod_lt_of_pos _ hn⟩
theorem bf{s:Src}(h:s.Ok){n:Int}(hn:1≤n):0≤(s.pick n).1∧(s.pick n).1<n:=by
 have h1:=bd h
 have h2:=bd h.step
 unfold Src.pick;split
 exact⟨by show(0:Int)≤0;omega,by show(0:Int)<n;omega⟩
 split
 exact dB (by omega) (by omega)
 exact dB h1.1 (by omega)
variable{n:Int}
theorem nW{s:Src}(hs:s.Ok)(ha:s.at_≤999999990)(hn0: -1000000000≤n)(hn1:n≤1000000000)(h:n≤1):MQ h1 h2 28 [.c (.pt 0 0 0),eI n] [(0,aU s)] (dd (eI (s.pick n).1) [(0,aU (s.pick n).2)]):=by
 refine MC.shift 500 Z (MC.keep [500] (bs:=[aU (s.pick n).2]) Z Z (jH 20 [500] h1 h2 Tryd.func28 Z fun O hF=>?_))
 rw[mY h]
 have hv:=bd hs
 have hv2:=bd hs.step
 refine g9 ?_
 refine ah (js Z (jn (ae (ah (ap Z (jn (aB Z (fun z7=>?_) (fun z7=>?_))))))))
 refine ah (js Z (jr ?_))
 refine⟨.inl Z,_,dh,_,Z,Z,Z⟩
 exact absurd (eQ z7) (by omega)
theorem nV{s:Src}(hs:s.Ok)(ha:s.at_≤999999990)(hn0: -1000000000≤n)(hn1:n≤1000000000)(h: ¬n≤1)(h3: ¬200<n):MQ h1 h2 28 [.c (.pt 0 0 0),eI n] [(0,aU s)] (dd (eI (s.pick n).1) [(0,aU (s.pick n).2)]):=by
 refine MC.shift 500 Z (MC.keep [500] (bs:=[aU (s.pick n).2]) Z Z (jH 20 [500] h1 h2 Tryd.func28 Z fun O hF=>?_))
 rw[mb h h3]
 have hv:=bd hs
 have hv2:=bd hs.step
 refine g9 ?_
 refine ah (js Z (jn (ae (ah (ap Z (jn (aB Z (fun z7=>?_) (fun z7=>?_))))))))
 exact absurd (eR z7) (by omega)
 refine ao (ah (js Z (aJ O [500] (bin:=[aU s]) Z Z Z Z (lL (s:=s) h1 h2 (by omega)) Z Z Z Z Z Z (B0:=10000) Z Z (aP ?_))))
 refine js Z (jn (ae (ah (ap Z (jn (aB Z (fun z11=>?_) (fun z11=>?_)))))))
 exact absurd (eR z11) (by omega)
 refine ao (ah (ap Z (an (fd O Z Z Z Z (by omega) (by have:=dB (n:=n) hv.1 (by omega);omega) (by have:=dB (n:=n) hv.1 (by omega);omega)) Z (js Z (jr ?_)))))
 refine⟨.inl Z,_,dh,_,Z,Z,Z⟩
theorem nU{s:Src}(hs:s.Ok)(ha:s.at_≤999999990)(hn0: -1000000000≤n)(hn1:n≤1000000000)(h: ¬n≤1)(h3:200<n):MQ h1 h2 28 [.c (.pt 0 0 0),eI n] [(0,aU s)] (dd (eI (s.pick n).1) [(0,aU (s.pick n).2)]):=by
 refine MC.shift 500 Z (MC.keep [500] (bs:=[aU (s.pick n).2]) Z Z (jH 20 [500] h1 h2 Tryd.func28 Z fun O hF=>?_))
 rw[md h h3]
 have hv:=bd hs
 have hv2:=bd hs.step
 refine g9 ?_
 refine ah (js Z (jn (ae (ah (ap Z (jn (aB Z (fun z7=>?_) (fun z7=>?_))))))))
 exact absurd (eR z7) (by omega)
 refine ao (ah (js Z (aJ O [500] (bin:=[aU s]) Z Z Z Z (lL (s:=s) h1 h2 (by omega)) Z Z Z Z Z Z (B0:=10000) Z Z (aP ?_))))
 refine js Z (jn (ae (ah (ap Z (jn (aB Z (fun z11=>?_) (fun z11=>?_)))))))
 refine ag (js Z (an (aj O Z Z (by omega) (by omega)) Z (js Z (aJ O [500] (bin:=[aU s.step]) Z Z Z Z (lL (s:=s.step) h1 h2 (by show s.at_+1≤_;omega)) Z Z Z Z Z Z (B0:=16000) Z Z (aP ?_)))))
 refine an (aj O Z Z (by omega) (by omega)) Z (js Z (b0 (ap Z (an (fd O Z Z Z Z (by omega) (by have:=dB (n:=n) (a:=s.val*256+s.step.val) (by omega) (by omega);omega) (by have:=dB (n:=n) (a:=s.val*256+s.step.val) (by omega) (by omega);omega)) Z (js Z (jr ?_))))))
 refine⟨.inl Z,_,dh,_,Z,Z,Z⟩
 exact absurd (eQ z11) (by omega)
theorem dS{L:Nat}(h1:4096≤L)(h2:L≤1073741824){s:Src}{n:Int}(hs:s.Ok)(ha:s.at_≤999999990)(hn0: -1000000000≤n)(hn1:n≤1000000000):MC Tryd.prog L 28 [.c (.pt 0 0 0),eI n] [(0,aU s)] (dd (eI (s.pick n).1) [(0,aU (s.pick n).2)]):=by
 by_cases h:n≤1
 exact nW h1 h2 hs ha hn0 hn1 h
 by_cases h3:200<n
 exact nU h1 h2 hs ha hn0 hn1 h h3
 exact nV h1 h2 hs ha hn0 hn1 h h3
theorem pg{s:Src}(hs:s.Ok)(ha:s.at_≤999999990)(hn0: -1000000000≤n)(hn1:n≤1000000000)  : MQ h1 h2 32 [.c (.pt 0 0 0),eI n] [(0,aU s)] (dd (eB (decide ((s.pick n).1=0))) [(0,aU (s.pick n).2)]):=by
 refine MC.shift 500 Z (MC.keep [500] (bs:=[aU (s.pick n).2]) Z Z (jH 9 [500] h1 h2 Tryd.func32 Z fun O hF=>?_))
 refine g9 ?_
 refine ah (js Z (b0 (ap Z (aJ O [500] (bin:=[aU s]) Z Z Z Z (dS (s:=s) (n:=n) h1 h2 hs ha hn0 hn1) Z Z Z Z Z Z (B0:=8000) Z Z (aP ?_)))))
 refine ap Z (jr ?_)
 refine⟨.inl Z,_,dh,_,Z,Z,Z⟩
variable{xs:List Int}
theorem nq:MQ h1 h2 27 [.c (.d (bys xs))] [] (dd (.c (.pt 0 0 0)) [(0,aU ⟨xs,0,0⟩)]):=by
 refine MC.shift 500 Z (MC.keep [500] (bs:=[aU ⟨xs,0,0⟩]) Z Z (jB 6 h1 h2 Tryd.func27 Z fun O hF=>?_))
 refine ah (js Z (b0 (ap Z (jx Z (aP ?_)))))
 refine js Z (jr ?_)
 refine⟨.inl Z,_,aZ 5 500 Z Z,_,Z,Z,Z⟩
structure RIn(ts:List Tm)(r:Rw):Prop where
  ok:ROk ts.length r
  c:r.c=aY Tm.c ts r.ms
  xs: ∀k,k<10→r.xs.getD k default=aY (lE k) ts r.ms
variable{ts:List Tm}
theorem pd{ms:List Int}(hc:CtxOk ts)(hm:ms.all num=true)(hle:ts.length≤ms.length):MQ h1 h2 30 [fG ts,bm ms] [] (Plain (km (dR (aY Tm.c ts ms) (ba ts ms)))):=by
 refine MC.data (jB 63 h1 h2 Tryd.func30 Z fun O hF=>?_)
 have hl:ms.length≤L:=by simpa[As.fact,A.fact,M.fact,D.fact,Ds.fact]using hF.2.1.1
 have hlc:=hc.len
 refine ah (jl Z (js Z (b0 (js Z (b0 (b9 (kM O Z Z Z Z Z Z Z Z Z (by first|omega|(simp at *;omega)) (by first|omega|(simp at *;omega)) (by first|omega|(simp at *;omega)) (by first|omega|(dsimp only;omega)|(simp only[bI]at *;omega)) (by first|omega|(simp at *;omega)) Z Z Z) Z (js Z (jn (ae (ah (js Z (jn (ak (av (X:=Nat) (fun i=>⟨[(0,fG ts),(1,bm ms),(4,.c (.pt 4 0 0)),(6,eI (aY Tm.c (ts.take i) (ms.take i))),(7,.c (.rs 10 0 10)),(8,eI i)],[(4,.box [.d (.int .i64 0),.d .nils]),(10,eW (ba (ts.take i) (ms.take i)))]⟩) (fun i=>i≤ts.length) (fun i=>ts.length-i) 0 (Ent.to ⟨Z,Z,Z,Z,Z,Z,aw⟩ Z) ?_ (fun i hi=>?_)))))))))))))))
 exact fE _
 refine ae (ah (ap Z ?_))
 first|refine fK Z ?_|refine js Z ?_|refine cJ Z Z ?_
 refine js Z (jf [14,0,1,4,6,7,8] Z (jn (aB Z (fun z14=>?_) (fun z14=>?_))))
 try simp only[bI]at z14
 refine ao (ae (ak (ae ?_)))
 have hi0:=hi
 have hts:=eK (hc.get (show i<ts.length by omega))
 have hd1:=ix (f:=Tm.c) (ts:=ts) (ms:=ms) (fun t ht=>(eK (hc.ok t ht)).c) hm hi (by omega)
 have hd2:=dO (f:=Tm.c) (ts:=ts) (ms:=ms) (i:=i) (by omega) (by omega)
 have hmi:num (ms.getD i default)=true:=by rw[ax (by omega)];exact List.all_eq_true.1 hm _ (List.getElem_mem _)
 have hmu:=io hmi hts.c
 refine jy [_,_,_,_,_,_,_,_,_,_,_,_,_] [aM,aM,aM,af [1,2],af [1,2,3],aM,aM,af [5,6],af [5,6,7],af (rg 5 4),af (rg 1 9),af (rg 0 11),af (rg 0 12)] [] [_] (kc Z (kc Z (kc Z (ai (vD Z) (kc Z (kc Z (kc Z (ai (vD Z) (kc Z (kc Z (ai (aj O Z Z (by simp only[Int.toNat_natCast];omega) (by simp only[Int.toNat_natCast];omega)) (ai (aj O Z Z (by simp only[Int.toNat_natCast];omega) (by simp only[Int.toNat_natCast];omega)) (kc Z trivial))))))))))))) ?_
 refine jw [6,14,0,1,4,7,8] Z (g9 ?_)
 refine ah (js Z (jn (ak (av (X:=Nat) (fun j=>⟨[(0,fG ts),(1,bm ms),(4,.c (.pt 4 0 0)),(6,eI (aY Tm.c (ts.take i) (ms.take i)+ms.getD i default*(ts.getD i default).c)),(7,.c (.rs 10 0 10)),(8,eI i),(9,eI j)],[(4,.box [.d (.int .i64 0),.d .nils]),(10,eW (cC ts ms i j))]⟩) (fun j=>j≤(ts.getD i default).xs.length) (fun j=>(ts.getD i default).xs.length-j) 0 (Ent.to ⟨Z,Z,Z,Z,Z,Z,Z,aw⟩ (by rw[kX])) ?_ (fun j hi=>?_)))))
 exact fE _
 refine ae (ah (bQ Z ?_))
 first|refine n6 Z Z ?_|refine cJ Z Z ?_
 refine ap Z ?_
 first|refine fK Z ?_|refine js Z ?_|refine cJ Z Z ?_
 refine js Z (jf [36,0,1,4,6,7,8,9] Z (jn (aB Z (fun z36=>?_) (fun z36=>?_))))
 try simp only[bI]at z36
 refine ao (ae (ak ?_))
 have z9:=z36
 rw[Int.toNat_natCast]at z9
 have hjl:j<10:=by have:=lU (hc.get (show i<ts.length by omega));omega
 have hpj:=i3 (ts:=ts) (ms:=ms) (i:=i) hjl
 have hps:=kY (ts:=ts) (ms:=ms) (i:=i) hjl
 have hpl:=be (ts:=ts) (ms:=ms) (i:=i) (j:=j)
 have hd3:=ix (f:=lE j) (ts:=ts) (ms:=ms) (fun t ht=>(eK (hc.ok t ht)).get j) hm hi0 (by omega)
 have hmx:=io hmi (hts.get j)
 rw[show(ts.getD i default).xs.getD j 0=(ts.getD i default).xs.getD j default from Z]at hmx
 refine jy [_,_,_,_,_,_,_,_,_,_,_,_,_,_,_,_,_,_,_,_] [aM,aM,af [0,1],af [0,1,2],aM,aM,af [4,5],af [4,5,6],aM,aM,af [8,9],af [8,9,10],af (rg 8 4),aM,af (rg 8 6),af (rg 8 7),af (rg 4 12),af (rg 0 17),af (rg 0 18),pe (rg 0 19) 0] [19] [_,_] (kc Z (kc Z (ai (vI Z Z) (ai (fA O (ex:=[.int .i64 ((cC ts ms i j).getD j default)]) Z Z Z Z (by simp[be,hjl]) Z) (kc Z (kc Z (ai (vD Z) (kc Z (kc Z (kc Z (ai (vD Z) (kc Z (kc Z (kc Z (ai (vD Z) (kc Z (ai (aj O Z Z (by simp only[Int.toNat_natCast];omega) (by simp only[Int.toNat_natCast];omega)) (ai (aj O Z Z (by simp only[Int.toNat_natCast];omega) (by simp only[Int.toNat_natCast];omega)) (ai (vI Z Z) (ai (eP (ex:=[.int .i64 ((cC ts ms i j).getD j default)]) (xs':=(cC ts ms i (j+1)).map (fun n=>[D.int .i64 n])) O Z Z Z Z Z Z Z Z Z Z Z Z Z Z Z (by simp[be,hjl]) (by rw[←hps,List.map_set];simp only[Int.toNat_natCast,Nat.zero_add];rfl) Z) trivial)))))))))))))))))))) ?_
 refine jw [36,0,1,4,6,7,8,9] Z (g9 ?_)
 refine ag (js Z ?_)
 first|refine ji Z ?_|refine cJ Z Z ?_
 refine js Z (jf [9,36,0,1,4,6,7,8] Z (jn ?_))
 refine⟨j+1,Ent.to ⟨Z,Z,Z,Z,Z,Z,Z,aw⟩ Z,by omega,by omega⟩
 try simp only[bI]at z36
 refine bi (ag (js Z ?_))
 first|refine ji Z ?_|refine cJ Z Z ?_
 refine js Z (jf [8,36,0,1,4,6,7,9] Z (jn ?_))
 rw[Int.toNat_natCast]at z36
 refine⟨i+1,Ent.to ⟨Z,Z,Z,?_,Z,Z,aw⟩ ?_,by omega,by omega⟩
 rw[hd2];rfl
 rw[←me (j:=j) (by omega) (by omega) (by omega)]
 try simp only[bI]at z14
 refine bi (ah ?_)
 obtain rfl:i=ts.length:=by omega
 have e1:aY Tm.c (ts.take ts.length) (ms.take ts.length)=aY Tm.c ts ms:=gb hle
 have e2:ba (ts.take ts.length) (ms.take ts.length)=ba ts ms:=k7 hle
 rw[e1,e2]
 have hcl:=iG (ts:=ts) (ms:=ms)
 refine cy (Ent.freeze 10 (e':=[(4,_),(6,_),(7,_)]) Z (.cons Z (.keep Z) (.cons Z (.keep Z) (.cons Z (.c (.row Z (by rw[ep,hcl]))) .nil))) (eU Z (.skip .nil))) ?_
 refine ap Z (am O Z Z Z Z (lF (c:=aY Tm.c ts ms) (xs:=ba ts ms) h1 h2) (ac Z) Z Z Z Z (B0:=61000) Z Z (ap Z (jf [62,61,4,6,7] Z (jo Z (js Z (jf [5,4,6,7] Z (jr ?_)))))))
 refine aK Z ?_
 exact .tup (.cons (.agg (aT Z)) (.cons (.c .d) .nil))
theorem RMs.dm{L:Nat}{w:World}{ok:Nat→Prop}{m m2:Nat→Al.Loc}: ∀{cs:List D} {vs:List Value},RMs L w ok m (cs.map .d) vs→RMs L w ok m2 (cs.map .d) vs
 | [],_,.nil=>.nil
 | d::cs,_,.cons (.d h1) h2=>.cons (.d h1) (RMs.dm h2)
theorem mu{P:Program}{L f N:Nat}{args:List A}{v:A}{cs:List D}(h:MC P L f args [(N,.box (cs.map .d))] (fun r H=>VR (cQ H N) r v∧lk H N=some (.box (cs.map .d)))):MC P L f args [(N,.box (cs.map .d))] (dd v [(N,.box (cs.map .d))]):=by
 refine⟨h.1,fun w m F ok vs h0 h1 h2 h3 h4 h5=>Calls.mono (h.2 w m F ok vs h0 h1 h2 h3 h4 h5) fun e w' he=>?_⟩
 cases e with
 | returned u=>
  obtain⟨r,H',m',F',⟨hv,hN⟩,a1,a2,a3,a4,a5,a6,a7⟩:=he
  obtain⟨Fl,Fr,G,c1,c2,c3⟩:=a1.taken hN
  have hnd:=List.nodup_append.1 (c3.nodup_iff.1 a2)
  have hsub: ∀b∈Fl,b∈F':=fun b hb=>c3.mem_iff.2 (by simp[hb])
  have hk:Keep w' w' (fun b=>b ∉ F'∧(ok b∨w.heap.size≤b∨b∈F)) (fun b=>b ∉ Fl∧(ok b∨w.heap.size≤b∨b∈F)):=⟨bp _,fun b _ hb=>⟨⟨fun hh=>hb.1 (hsub b hh),hb.2⟩,rfl⟩⟩
  have hr:RH L w' (fun b=>b ∉ Fl∧(ok b∨w.heap.size≤b∨b∈F)) (fun k=>if k=N then m' N else .nil) [(N,.box (cs.map .d))] (Fl++[]):=by
   refine .cons ?_ .nil
   rw[if_pos Z]
   have:=c1.over hk (fun _ _ _ _ _ _ _ _ _ _ h=>h) (fun _ _=>rfl)
   generalize m' N=loc at this
   cases this with
   | box a1 a2=>exact .box a1 a2.dm
  rw[List.append_nil]at hr
  refine⟨v,[(N,.box (cs.map .d))],_,Fl,⟨Z,Z⟩,hr,hnd.1,fun b hb=>a3 b (hsub b hb),?_,a5,fun l hl hs=>?_,fun l b cap z hl=>?_⟩
  refine a4.viewR c2 (fun b hb=>⟨fun hh=>hb.1 (hsub b hh),hb.2⟩) (fun b hb=>⟨fun hh=>?_,.inr (a3 b (c3.mem_iff.2 (by simp[hb])))⟩) hv
  exact hnd.2.2 b hh b (by simp[hb]) Z
  have e:l=N:=by simpa using hl
  subst e
  show(if l=l then m' l else Loc.nil)=m l
  rw[if_pos Z]
  exact a6 l hl (by rw[hN];rfl)
  by_cases e:l=N
  subst e;simp[aa]
  simp only[if_neg e]at hl;cases hl
 | _=>exact he
variable{t:Tm}
theorem oT(ht:Small t)(ht10:t.xs.length≤10):MQ h1 h2 31 [.c (.pt 0 0 0)] [(0,.box (t.cells.map .d))] (dd (km (bB t)) [(0,.box (t.cells.map .d))]):=by
 refine MC.shift 500 Z (mu (cs:=t.cells) (jH 55 [500] h1 h2 Tryd.func31 Z fun O hF=>?_))
 refine ah (jl Z (js Z (b0 (js Z (dQ O Z Z Z Z (qc (t:=t) h1 h2 ht.xs) (.cons (.c (.pb (cs:=t.cells) Z (aT Z))) .nil) Z Z Z Z Z (B0:=10000) Z (js Z (jf [4,3,2,0] Z (jn (ae (ah (ap Z (jn (aB Z (fun z11=>?_) (fun z11=>?_))))))))))))))
 try simp only[bI]at z11
 refine ah (js Z (jf [12,10,4,3,2,0] Z (jo Z (js Z (jr ?_)))))
 refine aK Z ?_
 refine⟨?_,Z⟩
 rw[show bB t=(⟨0,[]⟩,false)from if_pos (by omega)]
 exact .tup (.cons (.agg (.cons .d (.cons .nils .nil))) (.cons (.c .d) .nil))
 try simp only[bI]at z11
 refine ao (ah ?_)
 have hxl:=ht10
 obtain⟨g,hg⟩: ∃g:Int,g=(cu t.xs:Int):=⟨_,rfl⟩
 rw[←hg]
 rw[←hg]at z11
 refine b9 (HS.lit O Z Z Z) Z (js Z (jf [5,10,4,3,2,0] Z (jn (ae (ah (js Z (jn (ak (av (X:=Nat) (fun i=>⟨[(0,.c (.pt 500 0 0)),(2,.c (.pt 2 0 0)),(4,eI g),(5,.c (.rs 900 0 i)),(6,eI i)],[(2,.box [.d (.int .i64 0),.d .nils]),(900,eW ((t.xs.map fun x=>x.tdiv g).take i)),(500,.box (t.cells.map .d))]⟩) (fun i=>i≤t.xs.length) (fun i=>t.xs.length-i) 0 ((aZ 13 900 Z Z).trans (Ent.to ⟨Z,Z,Z,Z,Z,aw⟩ Z)) ?_ (fun i hi=>?_))))))))))
 exact fE _
 refine ae (ah (cb Z (js Z ?_)))
 first|refine fK Z ?_|refine js Z ?_|refine cJ Z Z ?_
 refine js Z (jf [20,0,2,4,5,6] Z (jn (aB Z (fun z20=>?_) (fun z20=>?_))))
 try simp only[bI]at z20
 refine ao (ae (ak (ag ?_)))
 have hx:=kx (b:=g) (px.1 (List.all_eq_true.1 ht.xs _ (List.getElem_mem (show i<t.xs.length by omega))))
 rw[←ax (by omega)]at hx
 refine cb Z (ap Z ?_)
 first|refine pB Z Z ?_|refine n6 Z Z ?_|refine cJ Z Z ?_
 refine ap Z (an (gZ O Z Z Z Z (by omega) (by omega) (by omega)) Z (jf [32,23,20,0,2,4,5,6] Z (b9 (HS.lit O Z Z Z) Z (jf [33,23,20,0,2,4,5,6] Z (b9 (c5 (zs:=((t.xs.map fun x=>x.tdiv g).take (i+1)).map fun n=>[.int .i64 n]) (n:=i+1) O Z Z Z Z Z Z Z Z Z Z Z Z Z Z Z Z (.row Z (by simp;omega)) Z Z (by decide) Z (by simp;omega) (by simp;omega) (by rw[List.take_succ_eq_append_getElem (by simp;omega),List.map_append,List.getElem_map,ax (by omega)];rfl) (by simp;omega)) Z (js Z (jf [5,20,0,2,4,6] Z (jn (ag (js Z ?_))))))))))
 first|refine ji Z ?_|refine cJ Z Z ?_
 refine js Z (jf [6,5,20,0,2,4] Z (jn ?_))
 refine⟨i+1,((aV [2,34,500] (e':=[(0,_),(2,_),(4,_),(5,_),(6,_)]) Z Z ⟨Z,Z,Z,Z,Z,aw⟩ Z).trans (aZ 34 900 Z Z)),by omega,by omega⟩
 try simp only[bI]at z20
 refine bi (ah ?_)
 have z0:=px.1 ht.c
 have hq:=kx (b:=g) z0
 have hr:=kw (b:=g) z0
 obtain rfl:i=t.xs.length:=by omega
 rw[List.take_of_length_le (by simp)]
 refine cy (Ent.freeze 900 (e':=[(2,_),(4,_),(5,_),(0,_)]) Z (.cons Z (.keep Z) (.cons Z (.keep Z) (.cons Z (.c (.row Z (by simp))) (fe [0] Z)))) (eU Z (.skip (eU Z .nil)))) ?_
 refine cb Z (js Z ?_)
 first|refine an (vQ Z Z Z Z) Z ?_|refine ji Z ?_
 refine js Z (jf [7,2,4,5,0] Z (jn (ae (ah (cb Z (js Z ?_))))))
 first|refine an (vR Z Z Z Z) Z ?_|refine ji Z ?_
 refine js Z (jf [47,7,2,4,5,0] Z (jn (aB Z (fun z47=>?_) (fun z47=>?_))))
 try simp only[bI]at z47
 refine ag (js Z ?_)
 first|refine ji Z ?_|refine cJ Z Z ?_
 refine js Z (jf [7,47,2,4,5,0] Z (b0 (ap Z (am O Z Z Z Z (lF (c:=_) (xs:=t.xs.map fun x=>x.tdiv g) h1 h2) (ac Z) Z Z Z Z (B0:=53000) Z Z (ap Z (jf [54,53,7,47,2,4,5,0] Z (jo Z (js Z (jf [3,7,47,2,4,5,0] Z (jr ?_))))))))))
 refine aK Z ?_
 refine⟨?_,Z⟩
 rw[show bB t=dR (t.c.tdiv g-1) (t.xs.map fun x=>x.tdiv g) by rw[hg,bB,if_neg (by omega),if_pos (by rw[←hg];exact z47)]]
 exact .tup (.cons (.agg (aT Z)) (.cons (.c .d) .nil))
 try simp only[bI]at z47
 refine ao (ah (ap Z (am O Z Z Z Z (lF (c:=_) (xs:=t.xs.map fun x=>x.tdiv g) h1 h2) (ac Z) Z Z Z Z (B0:=53000) Z Z (ap Z (jf [54,53,47,7,2,4,5,0] Z (jo Z (js Z (jf [3,47,7,2,4,5,0] Z (jr ?_)))))))))
 refine aK Z ?_
 refine⟨?_,Z⟩
 rw[show bB t=dR (t.c.tdiv g) (t.xs.map fun x=>x.tdiv g) by rw[hg,bB,if_neg (by omega),if_neg (by rw[←hg];omega)]]
 exact .tup (.cons (.agg (aT Z)) (.cons (.c .d) .nil))
def kP:Nat→Src→List Int→List Int×Src
  | 0,s,xs=>(xs,s)
  | k+1,s,xs=>kP k (s.pick 7).2 (xs++[(s.pick 7).1-3])
theorem lX: ∀{k:Nat} {s:Src} {xs:List Int},(kP k s xs).2.at_≤s.at_+2*k
 | 0,s,xs=>bp _
 | k+1,s,xs=>by
  have h1:=lX (k:=k) (s:=(s.pick 7).2) (xs:=xs++[(s.pick 7).1-3])
  have h2:=bg (s:=s) (n:=7)
  rw[kP];omega
theorem lW: ∀{k:Nat} {s:Src} {xs:List Int},s.Ok→(kP k s xs).2.Ok
 | 0,s,xs,h=>h
 | k+1,s,xs,h=>by rw[kP];exact lW h.pick
abbrev qTm(a:List Int×Src):Tm:=(dR ((a.2.pick 9).1-3) a.1).1
def jv(s:Src):Tm×Int×Src:=(qTm (kP (s.pick 4).1.toNat (s.pick 4).2 []),(((kP (s.pick 4).1.toNat (s.pick 4).2 []).2.pick 9).2.pick 3).1,(((kP (s.pick 4).1.toNat (s.pick 4).2 []).2.pick 9).2.pick 3).2)
def qL:Nat→Src→List Tm→List Int→List Tm×List Int×Src
  | 0,s,ts,ms=>(ts,ms,s)
  | k+1,s,ts,ms=>qL k (jv s).2.2 (ts++[(jv s).1]) (ms++[(jv s).2.1])
abbrev pz(ts:List Tm)(ms:List Int):Tm:=(dR (aY Tm.c ts ms) (ba ts ms)).1
def qG(g:Tm):Tm:=if(bB g).2=true then(bB g).1 else g
abbrev q4(s:Src):Int:=if((s.pick 4).2.pick 3).1=0 then 4 else 0
def qE(ts:List Tm)(g:Tm)(s:Src):Sq:=⟨ts,⟨g.c+(s.pick 4).1-q4 s,g.xs⟩⟩
def mC(l:List Tm×List Int×Src):Sq:=qE l.1 (qG (pz l.1 l.2.1)) l.2.2
def jz(xs:List Int):Sq:=mC (qL (1+((⟨xs,0,0⟩:Src).pick 4).1).toNat ((⟨xs,0,0⟩:Src).pick 4).2 [] [])
theorem fP{c:Int}{xs:List Int}:(dR c xs).1.ok=true:=by
 unfold dR
 split
 assumption
 rfl
theorem ko{c:Int}{xs:List Int}:(dR c xs).1.c=c∨(dR c xs).1.c=0:=by
 unfold dR
 split
 exact .inl Z
 exact .inr Z
structure QOk(ts:List Tm)(ms:List Int):Prop where
  ok: ∀t∈ts,t.ok=true
  c: ∀t∈ts,-6≤t.c∧t.c≤6
  mok: ∀m∈ms,0≤m∧m≤2
  len:ms.length=ts.length
theorem QOk.num{ts ms}(h:QOk ts ms):ms.all num=true:=by
 rw[List.all_eq_true];intro m hm
 have:=h.mok m hm
 exact px.2 (by omega)
theorem il: ∀{ts:List Tm} {ms:List Int},(∀t∈ts,-6≤t.c∧t.c≤6)→(∀m∈ms,0≤m∧m≤2)→ -(12*ts.length:Int)≤aY Tm.c ts ms∧aY Tm.c ts ms≤12*ts.length
 | [],ms,_,_=>by cases ms<;>simp[aY]
 | t::ts,[],_,_=>by simp only[aY,fI];omega
 | t :: ts,m::ms,h1,h2=>by
  have ih:=il (ts:=ts) (ms:=ms) (fun x hx=>h1 x (by simp[hx])) (fun x hx=>h2 x (by simp[hx]))
  have a:=h1 t (by simp)
  have b:=h2 m (by simp)
  have key: -12≤m*t.c∧m*t.c≤12:=by
   rcases(show m=0∨m=1∨m=2 by omega)with rfl|rfl|rfl<;>omega
  simp only[aY,fI];omega
theorem jC{s:Src}(h:s.Ok):(jv s).1.ok=true∧(-6≤(jv s).1.c∧(jv s).1.c≤6)∧(0≤(jv s).2.1∧(jv s).2.1≤2)∧(jv s).2.2.Ok∧(jv s).2.2.at_≤s.at_+12:=by
 have h0:=bf h (n:=4) (by omega)
 have a0:=bg (s:=s) (n:=4)
 have hq:=lW (k:=(s.pick 4).1.toNat) (xs:=[]) (h.pick (n:=4))
 have aq:=lX (k:=(s.pick 4).1.toNat) (s:=(s.pick 4).2) (xs:=[])
 unfold jv
 generalize kP (s.pick 4).1.toNat (s.pick 4).2 []=a at hq aq
 have h1:=bf hq (n:=9) (by omega)
 have a1:=bg (s:=a.2) (n:=9)
 have h2:=bf (hq.pick (n:=9)) (n:=3) (by omega)
 have a2:=bg (s:=(a.2.pick 9).2) (n:=3)
 have hc:=ko (c:=(a.2.pick 9).1-3) (xs:=a.1)
 refine⟨fP,?_,⟨h2.1,by show((a.2.pick 9).2.pick 3).1≤2;omega⟩,hq.pick.pick,by show(((a.2.pick 9).2.pick 3).2).at_≤_;omega⟩
 show -6≤(dR ((a.2.pick 9).1-3) a.1).1.c∧(dR ((a.2.pick 9).1-3) a.1).1.c≤6
 omega
theorem QOk.snoc{ts ms}(h:QOk ts ms){s:Src}(hs:s.Ok):QOk (ts++[(jv s).1]) (ms++[(jv s).2.1]):=by
 have q:=jC hs
 refine⟨fun t ht=>?_,fun t ht=>?_,fun m hm=>?_,by simp[h.len]⟩
 rcases List.mem_append.1 ht with ht|ht
 exact h.ok t ht
 simp only[List.mem_singleton]at ht;subst ht;exact q.1
 rcases List.mem_append.1 ht with ht|ht
 exact h.c t ht
 simp only[List.mem_singleton]at ht;subst ht;exact q.2.1
 rcases List.mem_append.1 hm with hm|hm
 exact h.mok m hm
 simp only[List.mem_singleton]at hm;subst hm;exact q.2.2.1
theorem ni: ∀{k:Nat} {s:Src} {ts:List Tm} {ms:List Int},s.Ok→QOk ts ms→QOk (qL k s ts ms).1 (qL k s ts ms).2.1∧(qL k s ts ms).2.2.Ok∧(qL k s ts ms).1.length=ts.length+k
 | 0,s,ts,ms,h,q=>⟨q,h,rfl⟩
 | k+1,s,ts,ms,h,q=>by
  have:=ni (k:=k) (jC h).2.2.2.1 (q.snoc h)
  rw[qL]
  refine⟨this.1,this.2.1,?_⟩
  rw[this.2.2,dc,nf];omega
theorem m3{c:Int}{g:Nat}:(if c.tmod g<0 then c.tdiv g-1 else c.tdiv g).natAbs≤c.natAbs+1:=by
 have h1:(c.tdiv g).natAbs≤c.natAbs:=by rw[Int.natAbs_tdiv];exact Nat.div_le_self _ _
 split<;>omega
theorem nj{g:Tm}(h:g.ok=true)(hc: -48≤g.c∧g.c≤48):(qG g).ok=true∧ -49≤(qG g).c∧(qG g).c≤49:=by
 unfold qG
 split
 rename_i ht
 refine⟨kT ht,?_⟩
 unfold bB
 split
 exact⟨by show(-49:Int)≤0;decide,by show(0:Int)≤49;decide⟩
 have f:=m3 (c:=g.c) (g:=cu g.xs)
 generalize (if g.c.tmod (cu g.xs)<0 then g.c.tdiv (cu g.xs)-1 else g.c.tdiv (cu g.xs))=d at f
 have:=ko (c:=d) (xs:=g.xs.map fun x=>x.tdiv (cu g.xs))
 omega
 exact⟨h,by omega,by omega⟩
theorem na{xs:List Int}(hx: ∀n∈xs,0≤n∧n≤255):fT (jz xs)=true:=by
 have hs:(⟨xs,0,0⟩:Src).Ok:=⟨hx⟩
 have h0:=bf hs (n:=4) (by omega)
 have hl:=ni (k:=(1+((⟨xs,0,0⟩:Src).pick 4).1).toNat) (ts:=[]) (ms:=[]) (hs.pick (n:=4)) ⟨by simp,by simp,by simp,rfl⟩
 unfold jz
 generalize qL (1+((⟨xs,0,0⟩:Src).pick 4).1).toNat ((⟨xs,0,0⟩:Src).pick 4).2 [] []=l at hl
 obtain⟨hq,hso,hlen⟩:=hl
 have hl4:l.1.length≤4:=by rw[hlen,List.length_nil];omega
 have hd:=il hq.c hq.mok
 have hc:=ko (c:=aY Tm.c l.1 l.2.1) (xs:=ba l.1 l.2.1)
 have hg:=nj (g:=pz l.1 l.2.1) fP (by show -48≤(dR (aY Tm.c l.1 l.2.1) (ba l.1 l.2.1)).1.c∧(dR (aY Tm.c l.1 l.2.1) (ba l.1 l.2.1)).1.c≤48;omega)
 have p4:=bf hso (n:=4) (by omega)
 have hq4:0≤q4 l.2.2∧q4 l.2.2≤4:=by unfold q4;split<;>decide
 unfold mC qE
 generalize qG (pz l.1 l.2.1)=g at hg
 generalize q4 l.2.2=z at hq4
 obtain⟨k1,k2,k3,k4⟩:=qk.1 hg.1
 have hgo:(⟨g.c+(l.2.2.pick 4).1-z,g.xs⟩:Tm).ok=true:=qk.2 ⟨px.2 (by show -1000000≤g.c+(l.2.2.pick 4).1-z∧g.c+(l.2.2.pick 4).1-z≤1000000;omega),k2,k3,k4⟩
 have h13:decide ((l.1.length:Int)≤13)=true:=decide_eq_true (by omega)
 unfold fT fh
 rw[hgo,List.all_eq_true.2 hq.ok,h13];rfl
theorem nK{s s1:Src}{xs:List Int}(h:kP (s.pick 4).1.toNat (s.pick 4).2 []=(xs,s1)):jv s=((dR ((s1.pick 9).1-3) xs).1,((s1.pick 9).2.pick 3).1,((s1.pick 9).2.pick 3).2):=by
 unfold jv;rw[h]
theorem pf(hx: ∀n∈xs,0≤n∧n≤255):MQ h1 h2 9 [.c (.d (bys xs))] [] (Plain (ng (jz xs))):=by
 refine MC.data (jB 83 h1 h2 Tryd.func9 Z fun O hF=>?_)
 obtain⟨R,hR⟩: ∃R,R=jz xs:=⟨_,rfl⟩
 rw[←hR]
 have hs:(⟨xs,0,0⟩:Src).Ok:=⟨hx⟩
 have ha:(⟨xs,0,0⟩:Src).at_=0:=rfl
 have hp0:=bf hs (n:=4) (by omega)
 have hat0:=bg (s:=(⟨xs,0,0⟩:Src)) (n:=4)
 refine ah (jl Z (aP ?_))
 refine b0 (js Z (jf [15,2] Z (aJ O [] (bin:=[]) Z Z Z Z (nq (xs:=xs) h1 h2) Z Z Z Z Z Z (B0:=17000) Z Z (aP ?_))))
 refine js Z (jf [3,2] Z (b0 (b9 (HS.lit O Z Z Z) Z (aP ?_))))
 refine js Z (b0 (b9 (HS.lit O Z Z Z) Z (aP ?_)))
 refine js Z (jn (ae (ah (js Z (aJ O [17000] (bin:=[aU (⟨xs,0,0⟩:Src)]) Z Z Z Z (dS (s:=(⟨xs,0,0⟩:Src)) (n:=4) h1 h2 hs (by omega) (by omega) (by omega)) Z Z Z Z Z Z (B0:=21000) Z Z (aP ?_))))))
 refine an (aj O Z Z (by omega) (by omega)) Z (js Z (jf [6,5,18,4,17,3,2] Z (jn (ak (av (X:=Nat×Src×List Tm×List Int) (fun x=>⟨[(2,.c (.pt 2 0 0)),(3,.c (.pt 17000 0 0)),(4,.c (.rs 900 0 x.2.2.1.length)),(5,.c (.rs 901 0 x.2.2.2.length)),(6,eI (x.1:Nat))],[(2,.box [.d .nils,.d (.int .i64 0),.d .nils]),(900,nz x.2.2.1),(901,eW x.2.2.2),(17000,aU x.2.1)]⟩) (fun x=>x.2.1.Ok∧jz xs=mC (qL x.1 x.2.1 x.2.2.1 x.2.2.2)∧x.2.2.1.length+x.1≤4∧x.2.1.at_+12*x.1≤100∧x.2.2.1.length≤4∧QOk x.2.2.1 x.2.2.2) (fun x=>x.1) ((1+((⟨xs,0,0⟩:Src).pick 4).1).toNat,((⟨xs,0,0⟩:Src).pick 4).2,[],[]) ((li 17 Z).trans ((((aV [2,17,18,17000] (e':=[(2,_),(3,_),(4,_),(5,_),(6,_)]) Z Z ⟨Z,Z,Z,Z,Z,aw⟩ Z).trans (aZ 17 900 Z Z)).trans (aZ 18 901 Z Z)).trans (Ent.to ⟨Z,Z,Z,Z,by rw[Int.toNat_of_nonneg (by omega)];rfl,aw⟩ Z))) ?_ (fun x hi=>?_))))))
 exact⟨hs.pick,Z,by simp only[List.length_nil];omega,by simp only;omega,by simp,⟨by simp,by simp,by simp,Z⟩⟩
 refine ae (ah (ap Z (jn (aB Z (fun z23=>?_) (fun z23=>?_)))))
 refine ao (ae (ak (ah ?_)))
 have hk:=eR z23
 have hq0:=bf hi.1 (n:=4) (by omega)
 have hqa:=bg (s:=x.2.1) (n:=4)
 refine b9 (HS.lit O Z Z Z) Z (aP ?_)
 refine aP ?_
 refine js Z (jn (ae (ah (js Z (aJ O [17000] (bin:=[aU x.2.1]) Z Z Z Z (dS (s:=x.2.1) (n:=4) h1 h2 hi.1 (by omega) (by omega) (by omega)) Z Z Z Z Z Z (B0:=29000) Z Z (aP ?_))))))
 refine js Z (jf [8,7,26,23,22,2,3,4,5,6] Z (jn (ak ?_)))
 have hi0:=hi
 refine av (X:=Nat×Src×List Int) (fun y=>⟨[(2,.c (.pt 2 0 0)),(3,.c (.pt 17000 0 0)),(4,.c (.rs 900 0 x.2.2.1.length)),(5,.c (.rs 901 0 x.2.2.2.length)),(6,eI (x.1:Nat)),(7,.c (.rs 902 0 y.2.2.length)),(8,eI (y.1:Nat))],[(2,.box [.d .nils,.d (.int .i64 0),.d .nils]),(900,nz x.2.2.1),(901,eW x.2.2.2),(902,eW y.2.2),(17000,aU y.2.1)]⟩) (fun y=>y.2.1.Ok∧kP (x.2.1.pick 4).1.toNat (x.2.1.pick 4).2 []=kP y.1 y.2.1 y.2.2∧y.2.2.length+y.1≤3∧y.2.1.at_+2*y.1≤x.2.1.at_+8) (fun y=>y.1) ((x.2.1.pick 4).1.toNat,(x.2.1.pick 4).2,[]) (((aV [2,900,901,26,17000] (e':=[(2,_),(3,_),(4,_),(5,_),(6,_),(7,_),(8,_)]) Z Z ⟨Z,Z,Z,Z,Z,Z,Z,aw⟩ Z).trans (aZ 26 902 Z Z)).trans (Ent.to ⟨Z,Z,Z,Z,Z,Z,by rw[Int.toNat_of_nonneg hq0.1];rfl,aw⟩ Z)) ?_ (fun y hi=>?_)
 exact⟨hi.1.pick,Z,by simp only[List.length_nil];omega,by simp only;omega⟩
 refine ae (ah (ap Z (jn (aB Z (fun z30=>?_) (fun z30=>?_)))))
 refine ao (ae (ak (ag (ap Z ?_))))
 have hp:=bf hi.1 (n:=7) (by omega)
 have hat:=bg (s:=y.2.1) (n:=7)
 have hk2:=eR z30
 refine aJ O [17000] (bin:=[aU y.2.1]) Z Z Z Z (dS (s:=y.2.1) (n:=7) h1 h2 hi.1 (by omega) (by omega) (by omega)) Z Z Z Z Z Z (B0:=36000) Z Z (aP ?_)
 refine an (aj O Z Z (by omega) (by omega)) Z (jf [36,33,30,29,2,3,4,5,6,7,8] Z (b9 (HS.lit O Z Z Z) Z (aP ?_)))
 refine jf [37,33,30,29,2,3,4,5,6,7,8] Z (b9 (c5 (zs:=(y.2.2++[(y.2.1.pick 7).1-3]).map fun n=>[.int .i64 n]) (n:=(y.2.2++[(y.2.1.pick 7).1-3]).length) O Z Z Z Z Z Z Z Z Z Z Z Z Z Z Z Z (.row Z (ep _).symm) Z Z (by decide) Z (by simp;omega) (by simp;omega) (by simp) (by simp)) Z (aP ?_))
 refine aP ?_
 refine js Z (jf [7,30,29,2,3,4,5,6,8] Z (jn (ag (js Z ?_))))
 first|refine ji Z ?_|refine cJ Z Z ?_
 refine js Z (jf [8,7,30,29,2,3,4,5,6] Z (jn ?_))
 obtain⟨k,hk1⟩: ∃k,y.1=k+1:=⟨y.1-1,by omega⟩
 refine⟨(k,(y.2.1.pick 7).2,y.2.2++[(y.2.1.pick 7).1-3]),((aV [2,900,901,38,17000] (e':=[(2,_),(3,_),(4,_),(5,_),(6,_),(7,_),(8,_)]) Z Z ⟨Z,Z,Z,Z,Z,Z,Z,aw⟩ Z).trans (aZ 38 902 Z Z)).trans (Ent.to ⟨Z,Z,Z,Z,Z,Z,?_,aw⟩ Z),⟨hi.1.pick,by rw[hi.2.1,hk1,kP],by simp only[dc,nf];omega,by simp only;omega⟩,by simp only;omega⟩
 exact congrArg (fun z=>some (eI z)) (by simp only;omega)
 refine bi (ah ?_)
 have hk2:=eQ z30
 obtain⟨j,s1,xs1⟩:=y
 simp only at hi hk2
 obtain rfl:j=0:=by omega
 obtain⟨hi1,hi2,hi3,hi4⟩:=hi
 have hqs:=nK hi2
 have hqi:=jC hi0.1
 rw[hqs]at hqi
 have hat1:=bg (s:=s1) (n:=9)
 have hp1:=bf hi1 (n:=9) (by omega)
 refine cy (Ent.freeze 902 (e':=[(2,_),(3,_),(4,_),(5,_),(6,_),(7,_)]) Z (.cons Z (.keep Z) (.cons Z (.keep Z) (.cons Z (.keep Z) (.cons Z (.keep Z) (.cons Z (.keep Z) (.cons Z (.c (.row Z (ep _).symm)) .nil)))))) (eU Z (nu Z (nu Z (.skip (eU Z .nil)))))) ?_
 refine js Z (aJ O [17000] (bin:=[aU s1]) Z Z Z Z (dS (s:=s1) (n:=9) h1 h2 hi1 (by omega) (by omega) (by omega)) Z Z Z Z Z Z (B0:=42000) Z Z (aP ?_))
 refine an (aj O Z Z (by omega) (by omega)) Z (js Z (jf [43,42,2,3,4,5,6,7] Z (am O Z Z Z Z (lF (c:=(s1.pick 9).1-3) (xs:=xs1) h1 h2) (ac Z) Z Z Z Z (B0:=45000) Z Z (bQ Z (jf [46,45,2,3,4,5,6,7] Z (jl Z (aP ?_)))))))
 refine jo Z (aP ?_)
 refine js Z (jf [9,2,3,4,5,6,7] Z (b0 (ap Z (b9 (fS O Z Z Z Z Z Z Z Z Z Z Z) Z (aP ?_)))))
 refine jf [49,47,9,2,3,4,5,6,7] Z (b9 (kj (own:=false) (xs:=x.2.2.1.map Tm.cells) (ys:=[Tm.cells (dR ((s1.pick 9).1-3) xs1).1]) (zs:=(x.2.2.1++[(dR ((s1.pick 9).1-3) xs1).1]).map Tm.cells) (n:=(x.2.2.1++[(dR ((s1.pick 9).1-3) xs1).1]).length) O Z (.row Z (ep _).symm) (.whole Z Z (.inr ⟨Z,Z⟩)) (by simp) Z (by simp;omega) (by simp;omega) (by simp) (by simp)) Z (aP ?_))
 refine aP ?_
 refine js Z (jf [4,9,2,3,5,6,7] Z (jn (ag (ap Z (aJ O [17000] (bin:=[aU (s1.pick 9).2]) Z Z Z Z (dS (s:=(s1.pick 9).2) (n:=3) h1 h2 hi1.pick (by omega) (by omega) (by omega)) Z Z Z Z Z Z (B0:=54000) Z Z (aP ?_))))))
 refine jf [53,51,4,9,2,3,5,6,7] Z (b9 (HS.lit O Z Z Z) Z (aP ?_))
 refine jf [54,51,4,9,2,3,5,6,7] Z ?_
 have hml:=hi0.2.2.2.2.2.len
 refine b9 (c5 (zs:=(x.2.2.2++[((s1.pick 9).2.pick 3).1]).map fun n=>[.int .i64 n]) (n:=(x.2.2.2++[((s1.pick 9).2.pick 3).1]).length) O Z Z Z Z Z Z Z Z Z Z Z Z Z Z Z Z (.row Z (ep _).symm) Z Z (by decide) Z (by simp;omega) (by simp;omega) (by simp) (by simp)) Z (aP ?_)
 refine aP ?_
 refine js Z (jf [5,4,9,2,3,6,7] Z (jn (ag (js Z ?_))))
 first|refine ji Z ?_|refine cJ Z Z ?_
 refine js Z (jf [6,5,4,9,2,3,7] Z (jn ?_))
 obtain⟨k,hk1⟩: ∃k,x.1=k+1:=⟨x.1-1,by omega⟩
 refine⟨(k,((s1.pick 9).2.pick 3).2,x.2.2.1++[(dR ((s1.pick 9).1-3) xs1).1],x.2.2.2++[((s1.pick 9).2.pick 3).1]),(((aV [2,50,55,17000] (e':=[(2,_),(3,_),(4,_),(5,_),(6,_)]) Z Z ⟨Z,Z,Z,Z,Z,aw⟩ Z).trans (aZ 50 900 Z Z)).trans (aZ 55 901 Z Z)).trans (Ent.to ⟨Z,Z,Z,Z,?_,aw⟩ Z),⟨hqi.2.2.2.1,by rw[hi0.2.1,hk1,qL,hqs],by simp only[dc,nf];omega,by have:=hqi.2.2.2.2;simp only at this ⊢;omega,by simp only[dc,nf];omega,by have:=hi0.2.2.2.2.2.snoc hi0.1;rw[hqs]at this;exact this⟩,by simp only;omega⟩
 exact congrArg (fun z=>some (eI z)) (by simp only;omega)
 refine bi (ah ?_)
 have hk:=eQ z23
 obtain⟨k,s1,ts,ms⟩:=x
 simp only at hi hk
 obtain rfl:k=0:=by omega
 obtain⟨hi1,hi2,hi3,hi4,hi5,hi6⟩:=hi
 rw[show jz xs=mC (ts,ms,s1)from hi2]at hR
 have hml:=hi6.len
 have hd:=il hi6.c hi6.mok
 obtain⟨g,hg⟩: ∃g,g=(dR (aY Tm.c ts ms) (ba ts ms)).1:=⟨_,rfl⟩
 have hcc:CtxOk ts:=⟨hi6.ok,by omega⟩
 have hp4:=bf hi1 (n:=4) (by omega)
 have hat4:=bg (s:=s1) (n:=4)
 have hgi: -48≤g.c∧g.c≤48:=by have:=ko (c:=aY Tm.c ts ms) (xs:=ba ts ms);rw[hg];show -48≤(dR (aY Tm.c ts ms) (ba ts ms)).1.c∧(dR (aY Tm.c ts ms) (ba ts ms)).1.c≤48;omega
 have hgo:g.ok=true:=by rw[hg];exact fP
 have hgq:=nj hgo hgi
 refine cy (Ent.freeze 900 (e':=[(2,_),(3,_),(4,_),(5,_)]) Z (.cons Z (.keep Z) (.cons Z (.keep Z) (.cons Z (.c (.row Z (ep _).symm)) (fe [5] Z)))) (eU Z (.skip (nu Z (eU Z .nil))))) ?_
 refine cy (Ent.freeze 901 (e':=[(2,_),(3,_),(4,_),(5,_)]) Z (.cons Z (.keep Z) (.cons Z (.keep Z) (.cons Z (.keep Z) (.cons Z (.c (.row Z (ep _).symm)) .nil)))) (eU Z (.skip (eU Z .nil)))) ?_
 refine ap Z (am O Z Z Z Z ((pd (ts:=ts) (ms:=ms) h1 h2 hcc hi6.num (by omega)).plain (u:=.tup [df g,eB (dR (aY Tm.c ts ms) (ba ts ms)).2]) (by rw[hg])) (ac Z) Z Z Z Z (B0:=60000) Z Z (bQ Z (jf [61,60,2,3,4,5] Z (jl Z (aP ?_)))))
 refine jo Z (aP ?_)
 refine js Z (jf [11,2,3,4,5] Z (b0 (aJ O [11] (bin:=[.box (g.cells.map .d)]) Z Z Z Z (oT (t:=g) h1 h2 (eK hgo) (lU hgo)) Z Z Z Z Z Z (B0:=64000) Z Z (aP ?_))))
 refine bQ Z (jf [65,64,2,3,4,11] Z (jl Z (aP ?_)))
 refine jo Z (aP ?_)
 refine js Z (jf [14,13,2,3,4,11] Z (jn (ae (ah (js Z (jn ?_))))))
 obtain⟨g2,hg2⟩: ∃g2,g2=qG g:=⟨_,rfl⟩
 rw[←hg2]at hgq
 refine dK ⟨[(2,.c (.pt 2 0 0)),(3,.c (.pt 17000 0 0)),(4,fG ts),(11,.c (.pt 11 0 0))],[(2,.box [.d .nils,.d (.int .i64 0),.d .nils]),(11,.box [.d (.int .i64 g2.c),.d (eX g2.xs)]),(17000,aU s1)]⟩ ?_ ?_
 refine aB Z (fun z66=>?_) (fun z66=>?_)
 refine ag (js Z (jo Z (aP ?_)))
 refine jn ?_
 have e:=hg2.trans (if_pos z66)
 rw[e]
 exact⟨Z,(aV [2,11,17000] (e':=[(2,_),(3,_),(4,_),(11,_)]) Z Z ⟨Z,Z,Z,Z,aw⟩ Z).trans (Ent.to ⟨Z,Z,Z,Z,aw⟩ Z)⟩
 refine ao ?_
 have e:=hg2.trans (if_neg (by rw[z66];decide))
 rw[e]
 exact⟨Z,(aV [2,11,17000] (e':=[(2,_),(3,_),(4,_),(11,_)]) Z Z ⟨Z,Z,Z,Z,aw⟩ Z).trans (Ent.to ⟨Z,Z,Z,Z,aw⟩ Z)⟩
 refine ae (jy [_,_,_,_,_,_,_] [pn [] 0 1,pn [0] 0 1,aM,pe [2] 0,pn (rg 0 4) 1 1,pn (rg 0 5) 1 1,pe (rg 0 6) 1] [3,6] [_,_,_] (ai (kc Z (V Z)) (ai (kc Z (V Z)) (kc Z (ai (nc O [17000] (bin:=[aU s1]) Z Z Z Z (dS (s:=s1) (n:=4) h1 h2 hi1 (by omega) (by omega) (by omega)) Z Z Z Z Z (B0:=72000) Z Z Z Z Z Z) (ai (aj O Z Z (by omega) (by omega)) (kc Z (ai (eS Z Z Z) trivial))))))) ?_)
 refine jw [2,3,4,11] Z (g9 ?_)
 refine ae (ah (js Z ?_))
 have hat5:=bg (s:=(s1.pick 4).2) (n:=3)
 refine aJ O [17000] (bin:=[aU (s1.pick 4).2]) Z Z Z Z (pg (s:=(s1.pick 4).2) (n:=3) h1 h2 hi1.pick (by omega) (by omega) (by omega)) Z Z Z Z Z Z (B0:=76000) Z Z (aP ?_)
 refine jn (dK ⟨[(2,.c (.pt 2 0 0)),(4,fG ts),(11,.c (.pt 11 0 0))],[(2,.box [.d .nils,.d (.int .i64 0),.d .nils]),(11,.box [.d (.int .i64 (g2.c+(s1.pick 4).1-q4 s1)),.d (eX g2.xs)])]⟩ ?_ ?_)
 refine aB Z (fun z75=>?_) (fun z75=>?_)
 refine ag (ap Z (an (aj O Z Z (by omega) (by omega)) Z (js Z (jf [79,78,75,74,2,3,4,11] Z (jo Z (aP ?_))))))
 refine jf [75,74,2,3,4,11] Z (jn ?_)
 have e:q4 s1=4:=if_pos (eR z75)
 rw[e]
 exact⟨Z,(aV [2,11] (e':=[(2,_),(4,_),(11,_)]) Z Z ⟨Z,Z,Z,aw⟩ Z).trans (Ent.to ⟨Z,Z,Z,aw⟩ Z)⟩
 refine ao ?_
 have e:q4 s1=0:=if_neg (eQ z75)
 rw[e]
 exact⟨Z,(aV [2,11] (e':=[(2,_),(4,_),(11,_)]) Z Z ⟨Z,Z,Z,aw⟩ Z).trans (Ent.to ⟨Z,Z,Z,aw⟩ (by simp))⟩
 refine ah (bQ Z (jf [82,2,4,11] Z (jo Z (aP ?_))))
 refine jr ?_
 refine aK Z ?_
 rw[show R=⟨ts,⟨g2.c+(s1.pick 4).1-q4 s1,g2.xs⟩⟩ by rw[hR,hg2,hg];rfl]
 exact .v (.agg (aT Z))
theorem f4{α:Type}[Inhabited α]{xs ys:List α}{i:Nat}(h:xs.take i=ys.take i)(h1:i<xs.length)(h2:i<ys.length)(e:xs.getD i default=ys.getD i default):xs.take (i+1)=ys.take (i+1):=by
 rw[List.take_succ_eq_append_getElem h1,List.take_succ_eq_append_getElem h2,h]
 rw[ax h1,ax h2]at e
 rw[e]
theorem fN{α:Type}[Inhabited α]{xs ys:List α}{i:Nat}(e:xs.getD i default≠ys.getD i default):xs≠ys:=fun h=>e (by rw[h])
theorem ij{α:Type}{xs ys:List α}(h1:xs.length=ys.length)(h:xs.take xs.length=ys.take xs.length):xs=ys:=by
 rw[List.take_length,h1,List.take_length]at h;exact h
theorem pj{ys:List Int}:MQ h1 h2 40 [bm xs,bm ys] [] (Plain (eB (decide (xs=ys)))):=by
 refine aH ?_ Z
 refine jB 26 h1 h2 Tryd.func40 Z fun O hF=>?_
 have hl:xs.length≤L:=by have:=hF;simp[As.fact,A.fact,M.fact,D.fact,Ds.fact]at this;omega
 refine ah (js Z (jn (ae (ah (js Z ?_)))))
 first|refine fK Z ?_|refine js Z ?_|refine cJ Z Z ?_
 refine js Z ?_
 first|refine fK Z ?_|refine js Z ?_|refine cJ Z Z ?_
 refine js Z (jn (aB Z (fun z10=>?_) (fun z10=>?_)))
 try simp only[bI]at z10
 refine ah (js Z (jr ?_))
 refine aK Z ?_
 rw[decide_eq_false (fun e=>z10 (by rw[e]))]
 try simp only[bI]at z10
 refine ao (ae (ah (js Z (jn (ak (av (X:=Nat) (fun i=>⟨[(0,bm xs),(1,bm ys),(5,eI i)],[]⟩) (fun i=>xs.length=ys.length∧i≤xs.length∧xs.take i=ys.take i) (fun i=>xs.length-i) 0 (Ent.to ⟨Z,Z,Z,aw⟩ Z) ?_ (fun i hi=>?_)))))))
 exact⟨by first|omega|simpa using z10,fE _,Z⟩
 refine ae (ah (ap Z ?_))
 first|refine fK Z ?_|refine js Z ?_|refine cJ Z Z ?_
 refine js Z (jn (aB Z (fun z14=>?_) (fun z14=>?_)))
 try simp only[bI]at z14
 refine ao (ae (ak (ae (jy [_,_,_,_,_,_,_,_,_] [aM,aM,af [0,1],af [0,1,2],aM,aM,af [4,5],af [4,5,6],af (rg 0 8)] [] [_] (kc Z (kc Z (ai (vN Z) (kc Z (kc Z (kc Z (ai (vN Z) (kc Z (kc Z trivial))))))))) ?_))))
 refine jw [25,14,0,1,5] Z (g9 ?_)
 refine aB Z (fun z25=>?_) (fun z25=>?_)
 try simp only[bI]at z25
 refine ah (js Z (jr ?_))
 refine aK Z ?_
 rw[decide_eq_false (fN (by simpa using z25))]
 try simp only[bI]at z25
 refine ao (ag (js Z ?_))
 first|refine ji Z ?_|refine cJ Z Z ?_
 refine js Z (jn ?_)
 refine⟨i+1,Ent.to ⟨Z,Z,Z,aw⟩ Z,⟨hi.1,by omega,f4 hi.2.2 (by omega) (by omega) (by simpa using z25)⟩,by omega⟩
 try simp only[bI]at z14
 refine bi (ah (js Z (jr ?_)))
 refine aK Z ?_
 obtain rfl:i=xs.length:=by omega
 rw[decide_eq_true (ij hi.1 hi.2.2)]
theorem oJ{s t:Tm}:(bif decide (s.c=t.c)then decide (s.xs=t.xs)else false)=decide (s=t):=by
 cases s;cases t;simp[aL]
theorem qv{s t:Sq}:(s=t)↔(s.goal=t.goal∧s.facts=t.facts):=by
 cases s;cases t;simp[and_comm]
theorem kr{s:Tm}:MQ h1 h2 14 [df s,df t] [] (Plain (eB (decide (s=t)))):=by
 refine aH ?_ Z
 refine jB 17 h1 h2 Tryd.func14 Z fun O hF=>?_
 refine ah (jx Z (jf [2,1] Z (jx Z (js Z (b0 (cb Z (ap Z (jf [10,4,3,2,1] Z (aO 5 Z Z Z (fun hx=>az hx Z (az hx Z (az hx Z (az hx Z (eC O hx Z Z Z Z (pj (xs:=s.xs) (ys:=t.xs) h1 h2) (ac Z) Z Z Z Z Z Z Z (B0:=16000) Z (AN.nil)))))) Z Z ?_)))))))))
 first|refine an (aA O Z Z Z Z Z) Z ?_|refine an (aS O Z Z Z Z Z) Z ?_|refine an (Val.pickB O Z Z Z Z Z) Z ?_
 refine js Z (jf [4,1] Z (jr ?_))
 refine aK Z ?_
 exact congrArg eB oJ
theorem pi{xs ys:List Tm}:MQ h1 h2 41 [fG xs,fG ys] [] (Plain (eB (decide (xs=ys)))):=by
 refine aH ?_ Z
 refine jB 27 h1 h2 Tryd.func41 Z fun O hF=>?_
 have hl:xs.length≤L:=by have:=hF;simp[As.fact,A.fact,M.fact,D.fact,Ds.fact]at this;omega
 refine ah (js Z (jn (ae (ah (js Z ?_)))))
 first|refine fK Z ?_|refine js Z ?_|refine cJ Z Z ?_
 refine js Z ?_
 first|refine fK Z ?_|refine js Z ?_|refine cJ Z Z ?_
 refine js Z (jf [10,4,0,1] Z (jn (aB Z (fun z10=>?_) (fun z10=>?_))))
 try simp only[bI]at z10
 refine ah (js Z (jr ?_))
 refine aK Z ?_
 rw[decide_eq_false (fun e=>z10 (by rw[e]))]
 try simp only[bI]at z10
 refine ao (ae (ah (js Z (jn (ak (av (X:=Nat) (fun i=>⟨[(0,fG xs),(1,fG ys),(5,eI i)],[]⟩) (fun i=>xs.length=ys.length∧i≤xs.length∧xs.take i=ys.take i) (fun i=>xs.length-i) 0 (Ent.to ⟨Z,Z,Z,aw⟩ Z) ?_ (fun i hi=>?_)))))))
 exact⟨by first|omega|simpa using z10,fE _,Z⟩
 refine ae (ah (ap Z ?_))
 first|refine fK Z ?_|refine js Z ?_|refine cJ Z Z ?_
 refine js Z (jf [14,0,1,5] Z (jn (aB Z (fun z14=>?_) (fun z14=>?_))))
 try simp only[bI]at z14
 refine ao (ae (ak (ae (jy [_,_,_,_,_,_,_,_,_,_] [aM,aM,af [0,1],af [0,1,2],aM,aM,af [4,5],af [4,5,6],pe (rg 0 8) 0,pn (rg 0 9) 1 1] [8] [_,_] (kc Z (kc Z (ai (vN Z) (kc Z (kc Z (kc Z (ai (vN Z) (kc Z (ai (bG O (B0:=26000) Z Z Z Z (kr h1 h2) (ac Z) Z Z Z Z Z) (kc Z trivial)))))))))) ?_))))
 refine jw [26,14,0,1,5] Z (g9 ?_)
 refine aB Z (fun z26=>?_) (fun z26=>?_)
 try simp only[bI]at z26
 refine ah (js Z (jr ?_))
 refine aK Z ?_
 rw[decide_eq_false (fN (by simpa using z26))]
 try simp only[bI]at z26
 refine ao (ag (js Z ?_))
 first|refine ji Z ?_|refine cJ Z Z ?_
 refine js Z (jf [5,26,14,0,1] Z (jn ?_))
 refine⟨i+1,Ent.to ⟨Z,Z,Z,aw⟩ Z,⟨hi.1,by omega,f4 hi.2.2 (by omega) (by omega) (by simpa using z26)⟩,by omega⟩
 try simp only[bI]at z14
 refine bi (ah (js Z (jr ?_)))
 refine aK Z ?_
 obtain rfl:i=xs.length:=by omega
 rw[decide_eq_true (ij hi.1 hi.2.2)]
theorem ph{xs ys:List Sq}:MQ h1 h2 15 [mF xs,mF ys] [] (Plain (eB (decide (xs=ys)))):=by
 refine aH ?_ Z
 refine jB 43 h1 h2 Tryd.func15 Z fun O hF=>?_
 have hl:xs.length≤L:=by have:=hF;simp[As.fact,A.fact,M.fact,D.fact,Ds.fact]at this;omega
 refine ah (js Z (jn (ae (ah (js Z ?_)))))
 first|refine fK Z ?_|refine js Z ?_|refine cJ Z Z ?_
 refine js Z ?_
 first|refine fK Z ?_|refine js Z ?_|refine cJ Z Z ?_
 refine js Z (jf [10,4,0,1] Z (jn (aB Z (fun z10=>?_) (fun z10=>?_))))
 refine ah (js Z (jr ?_))
 refine aK Z ?_
 rw[decide_eq_false (fun e=>by rw[e]at z10;simp at z10)]
 refine ao (ae (ah (js Z (jn (ak (av (X:=Nat) (fun i=>⟨[(0,mF xs),(1,mF ys),(5,eI i)],[]⟩) (fun i=>xs.length=ys.length∧i≤xs.length∧xs.take i=ys.take i) (fun i=>xs.length-i) 0 (Ent.to ⟨Z,Z,Z,aw⟩ Z) ?_ (fun i hi=>?_)))))))
 exact⟨by have h:=z10;simp at h;omega,fE _,Z⟩
 refine ae (ah (ap Z ?_))
 first|refine fK Z ?_|refine js Z ?_|refine cJ Z Z ?_
 refine js Z (jf [14,0,1,5] Z (jn (aB Z (fun z14=>?_) (fun z14=>?_))))
 refine ao (ae (ak (ae ?_)))
 cases hb6:!decide ((xs.getD i default).goal=(ys.getD i default).goal)with
 | true=>
  have hk:i<xs.length:=by have:=eR z14;omega
  have hk2:i<ys.length:=by omega
  refine qp [_,_,_,_,_,_,_,_,_,_,_,_,_,_,_,_,_,_,_,_,_,_,_,_,_,_] [aM,aM,af [0,1],af [0,1,2],af (rg 0 4),aM,aM,af [5,6],af [5,6,7],af (rg 5 4),pe (rg 0 10) 0,pn (rg 0 11) 1 1,pn (rg 0 12) 1 1,pn (rg 0 13) 0 1,pn (rg 0 13) 0 1,pn (rg 0 15) 0 1,pn (rg 0 16) 0 1,pn (rg 0 17) 0 1,pn (rg 0 13) 0 1,pn (rg 0 13) 0 1,pn (rg 0 13++[18,19]) 0 1,pn (rg 0 13++[18,19,20]) 0 1,pn (rg 0 13++rg 18 4) 0 1,pn (rg 0 23) 0 1,pn (rg 0 24) 0 1,pn (rg 0 25) 1 1] [10] [_,_] (kc Z (kc Z (ai (vN Z) (kc Z (kc Z (kc Z (kc Z (ai (vN Z) (kc Z (kc Z (ai (bG O (B0:=28000) Z Z Z Z (kr h1 h2) (ac Z) Z Z Z Z Z) (ai ((V Z).cast (v':=eB true) (congrArg eB hb6)) (kc Z (ai ⟨Z,Z⟩ (ai ⟨Z,Z⟩ (ai ⟨Z,Z⟩ (ai ⟨Z,Z⟩ (ai ⟨Z,Z⟩ (ai ⟨Z,Z⟩ (ai ⟨Z,Z⟩ (ai ⟨Z,Z⟩ (ai ⟨Z,Z⟩ (ai ⟨Z,Z⟩ (ai ⟨Z,Z⟩ (ai ⟨Z,Z⟩ (ai (cf O Z Z Z Z Z) trivial)))))))))))))))))))))))))) ?_
  refine jw [42,14,0,1,5] Z (g9 ?_)
  refine aB Z (fun z42=>?_) (fun z42=>?_)
  refine ah (js Z (jr ?_))
  refine aK Z ?_
  rw[decide_eq_false (fN (fun e=>by rw[e]at hb6;simp at hb6))]
  cases z42
 | false=>
  have hk:i<xs.length:=by have:=eR z14;omega
  have hk2:i<ys.length:=by omega
  refine qp [_,_,_,_,_,_,_,_,_,_,_,_,_,_,_,_,_,_,_,_,_,_,_,_,_,_] [aM,aM,af [0,1],af [0,1,2],af (rg 0 4),aM,aM,af [5,6],af [5,6,7],af (rg 5 4),pe (rg 0 10) 0,pn (rg 0 11) 1 1,pn (rg 0 12) 1 1,pn (rg 0 13) 1 1,pn (rg 0 13) 1 1,pn (rg 0 15) 1 1,pn (rg 0 16) 1 1,pn (rg 0 17) 1 1,pn (rg 0 13) 1 1,pn (rg 0 13) 1 1,pn (rg 0 13++[18,19]) 1 1,pn (rg 0 13++[18,19,20]) 1 1,pn (rg 0 13++rg 18 4) 1 1,pe (rg 0 23) 1,pn (rg 0 24) 2 2,pn (rg 0 25) 2 2] [10,23] [_,_,_] (kc Z (kc Z (ai (vN Z) (kc Z (kc Z (kc Z (kc Z (ai (vN Z) (kc Z (kc Z (ai (bG O (B0:=28000) Z Z Z Z (kr h1 h2) (ac Z) Z Z Z Z Z) (ai ((V Z).cast (v':=eB false) (congrArg eB hb6)) (kc Z (kc Z (kc Z (ai (vN Z) (kc Z (kc Z (kc Z (kc Z (ai (vN Z) (kc Z (kc Z (ai (bG O (B0:=41000) Z Z Z Z (pi h1 h2) (ac Z) Z Z Z Z Z) (kc Z (ai (lg O Z Z Z Z Z) trivial)))))))))))))))))))))))))) ?_
  refine jw [42,14,0,1,5] Z (g9 ?_)
  refine aB Z (fun z42=>?_) (fun z42=>?_)
  refine ah (js Z (jr ?_))
  refine aK Z ?_
  rw[decide_eq_false (fN (fun e=>by rw[e]at z42;simp at z42))]
  refine ao (ag (js Z ?_))
  first|refine ji Z ?_|refine cJ Z Z ?_
  refine js Z (jf [5,42,14,0,1] Z (jn ?_))
  have hk:i<xs.length:=by have:=eR z14;omega
  refine⟨i+1,Ent.to ⟨Z,Z,Z,aw⟩ Z,⟨hi.1,by omega,f4 hi.2.2 hk (by omega) (qv.2 ⟨by simpa using hb6,by simpa using z42⟩)⟩,by omega⟩
 refine bi (ah (js Z (jr ?_)))
 refine aK Z ?_
 obtain rfl:i=xs.length:=by have:=eQ z14;omega
 rw[decide_eq_true (ij hi.1 hi.2.2)]
end Go.Al
