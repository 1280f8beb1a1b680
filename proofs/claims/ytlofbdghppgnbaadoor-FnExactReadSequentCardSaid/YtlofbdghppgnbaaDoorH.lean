/- Contracts of the program's functions for oE; the types of the arguments; what is drawn from bytes. -/
import Derived.Test.YtlofbdghppgnbaaDoorD
import Derived.Test.YtlofbdghppgnbaaDoorC
import Derived.Test.YtlofbdghppgnbaaDoorRows
set_option linter.unusedVariables false
set_option linter.unusedSimpArgs false
set_option maxRecDepth 10000
set_option maxHeartbeats 4000000
open Go.Proofs
namespace Go.Al
variable{L:Nat}(h1:4096≤L)(h2:L≤1073741824)
theorem l3{c:Int}{xs:List Int}(h:(gn c xs).2=true):(gn c xs).1.ok=true:=by
 unfold gn at h ⊢
 split at h
 rename_i h1;rw[if_pos h1];exact h1
 cases h
structure CS where
  all:List (List Tm)
  has:List Bool
  right:List Bool
  flaw:Int
structure CSok(p:List Nd)(k:Nat)(z:CS):Prop where
  all:z.all.length=k
  has:z.has.length=k
  right:z.right.length=k
  flaw: -1≤z.flaw∧z.flaw<k
  ctx: ∀j,j<k→z.has.getD j default=true→CtxOk (z.all.getD j default)
  good: ∀j,j<k→z.right.getD j default=true→z.has.getD j default=true∧lW (p.getD j default) (z.all.getD j default)=true
structure Con where
  all:List (List Tm)
  has:List Bool
  flaw:Int
  ok:Bool
theorem g2{a b:Bool}:(bif !a then true else !b)= !(a&&b):=by cases a<;>cases b<;>rfl
variable{ts:List Tm}
theorem pO{n:Int}:MQ h1 h2 71 [iN ts,eI n] [] (Plain (eB (gy ts n))):=by
 refine au ?_ Z
 refine jB 21 h1 h2 Tryd.func71 Z fun O hF=>?_
 have hl:ts.length≤L:=by simpa[As.fact,A.fact,M.fact,D.fact,Ds.fact]using hF.1.1
 refine af (js Z (jn (ag (af (js Z (gl Z (aj Z (jn (am Z (fun z10=>?_) (fun z10=>?_))))))))))
 try simp only[bw]at z10
 refine af (js Z (jr ?_))
 refine aC Z ?_
 rw[gy,decide_eq_false (show¬(ts.length:Int)≤n by omega),Bool.and_false]
 try simp only[bw]at z10
 refine ae (ag (af (js Z (gl Z (js Z (jn (ap (ax (X:=Nat) (fun i=>⟨[(1,eI n),(11,iN ts),(12,eI ts.length),(13,eI i)],[]⟩) (fun i=>i≤ts.length∧∀j (h:j<ts.length),j<i→Tm.ok ts[j]=true) (fun i=>ts.length-i) 0 (Ent.to ⟨Z,Z,Z,Z,ar⟩ Z) ?_ (fun i hi=>?_)))))))))
 exact⟨dT _,fun j h hj=>absurd hj (Nat.not_lt_zero j)⟩
 refine af (js Z (jn (ag (am Z (fun z14=>?_) (fun z14=>?_)))))
 try simp only[bw]at z14
 refine ae (ag (ap (af (ph Z Z (js Z (jl Z (jo Z (bq (js Z (cn Z (mA (t:=ts.getD i default) h1 h2) 19000 Z (js Z (jn (am Z (fun z19=>?_) (fun z19=>?_))))))))))))))
 try simp only[bw]at z19
 refine af (js Z (jr ?_))
 refine aC Z ?_
 rw[aJ (by omega)]at z19
 rw[gy,iC i (by omega) z19,Bool.false_and]
 try simp only[bw]at z19
 refine ae (ac (ji Z (js Z (jn ?_))))
 refine⟨i+1,(aU [] (e':=[(1,_),(11,_),(12,_),(13,_)]) Z Z ⟨Z,Z,Z,Z,ar⟩ Z),⟨by omega,fun j h hj=>?_⟩,by omega⟩
 by_cases e:j=i
 subst e;rw[aJ h]at z19;exact z19
 exact hi.2 j h (by omega)
 try simp only[bw]at z14
 refine ba (af (js Z (jr ?_)))
 refine aC Z ?_
 rw[gy,jT (fun j hj=>hi.2 j hj (by omega)),decide_eq_true (show(ts.length:Int)≤n by omega),Bool.true_and]
theorem n8{s:Sq}:MQ h1 h2 35 [my s] [] (Plain (eB (jI s))):=by
 refine au ?_ Z
 refine jB 11 h1 h2 Tryd.func35 Z fun O hF=>?_
 refine af (jx Z (js Z (bq (aj Z (cn Z (pO h1 h2) 6000 Z (js Z (aw 3 Z Z Z (fun hx=>ak hx Z (ak hx Z (dJ O hx Z Z Z Z (mA h1 h2) (ao Z) Z Z Z Z Z Z Z (B0:=10000) Z (AN.nil)))) Z Z (ab (ah O Z Z Z Z Z) Z (js Z (jr ?_))))))))))
 refine aC Z ?_
 rw[Bool.cond_false_right];rfl
theorem n6{t:Tm}:MQ h1 h2 36 [ew t] [] (Plain (ew ⟨t.c,aT t.xs⟩)):=by
 refine MC.data (jB 26 h1 h2 Tryd.func36 Z fun O hF=>?_)
 have hl:t.xs.length≤L:=by simpa[As.fact,A.fact,M.fact,Ms.fact,D.fact,Ds.fact]using hF.1.2.1.1
 refine af (jx Z (jl Z (bq (aj Z (gl Z (js Z (jn (ag (ap (ax (X:=Nat) (fun n=>⟨[(1,.c (.pt 1 0 0)),(2,.c (.pt 2 0 0)),(3,eI n)],[(1,.box [.d (.int .i64 t.c),.d (eu t.xs)]),(2,.box [.d (.int .i64 0),.d .nils])]⟩) (fun n=>n≤t.xs.length∧aT (t.xs.take n)=aT t.xs) (fun n=>n) t.xs.length (Ent.env ⟨Z,Z,Z,ar⟩) ?_ (fun n hi=>?_)))))))))))
 exact⟨bp _,by rw[List.take_length]⟩
 refine ag (af (aQ Z (aw 7 Z Z Z (fun hx=>ak hx Z (ak hx Z (ak hx Z (aW hx (vF Z) Z (aW hx (vD Z) Z (ak hx Z (ak hx Z (AN.nil)))))))) Z Z (ab (ah O Z Z Z Z Z) Z (jn (am Z (fun z17=>?_) (fun z17=>?_)))))))
 refine ae (ap (ac (js Z (ji Z (js Z (jn ?_))))))
 rw[Bool.cond_false_right,aR,decide_eq_true_eq,decide_eq_true_eq]at z17
 obtain⟨k,hk⟩: ∃k,n=k+1:=⟨n-1,by omega⟩
 subst hk
 have hk2:((k+1:Nat):Int)-1=k:=by omega
 rw[hk2]at z17
 refine⟨k,Ent.to ⟨Z,Z,by rw[hk2];rfl,ar⟩ Z,⟨by omega,?_⟩,Nat.lt_succ_self k⟩
 rw[←hi.2,gG (by omega) (by simpa using z17.2)]
 refine ba (af (aQ Z ?_))
 have hd:aT (t.xs.take n)=t.xs.take n:=eW hi.1 (by
  rw[Bool.cond_false_right]at z17
  rcases Nat.eq_zero_or_pos n with h0|h0
  ·
   exact .inl h0
  ·
   refine .inr (fun h9=>?_)
   have e1:((n:Int)-1).toNat=n-1:=by omega
   rw[e1,h9]at z17;simp at z17;omega)
 have ht:=hi.2
 rw[hd]at ht
 refine ab ((cf O Z Z ⟨by omega,by simp;omega⟩).cast (v':=bz (aT t.xs)) (by rw[←ht];simp[List.map_take])) Z (js Z (jo Z (bq (js Z (jo Z (jr ?_))))))
 refine aC Z ?_
 exact .v (.agg (aL Z))
theorem no{x:Int}(hx: -1000000≤x∧x≤1000000):MQ h1 h2 69 [eI x] [] (Plain (eI x.natAbs)):=by
 refine au ?_ Z
 refine jB 7 h1 h2 Tryd.func69 Z fun O hF=>?_
 refine af (js Z (bq (aj Z (ji Z (aj Z (jr ?_))))))
 refine aC Z ?_
 exact congrArg eI (show(if 0-x>x then 0-x else x)=(x.natAbs:Int) by split<;>omega)
theorem oO{t:Tm}:MQ h1 h2 37 [ew t] [] (Rows (.agg [.d (.int .i64 t.c),.rs 0 0 t.xs.length]) [bE t.xs]):=by
 refine dG (jB 9 h1 h2 Tryd.func37 Z fun O hF=>?_)
 refine af (jx Z (jl Z (jn (ag (mv [_,_,_,_,_,_,_] [pn [] 0 1,pn [0] 0 1,cm,bL [2],pe [2,3] 0,pn (rg 0 5) 1 1,pe (rg 0 6) 1] [4,6] [_,_,_] (ai (kc Z (V Z)) (ai (kc Z (V Z)) (kc Z (kc Z (ai (mr O (B0:=8000) Z Z Z Z (oc (xs:=t.xs) h1 h2) (ao Z) Z Z Z Z Z) (kc Z (ai (eS Z Z Z) trivial))))))) ?_)))))
 refine nS ?_
 refine⟨.inl Z,_,e7,_,Z,[8000],by decide,Z,Z,Z⟩
theorem pW{t:Tm}:t.ok=true↔gm t.c=true∧t.xs.all gm=true∧t.xs.length≤10∧(t.xs=[]∨t.xs.getD (t.xs.length-1) default≠0):=by
 unfold Tm.ok
 have hz:((t.xs.length:Int)-1).toNat=t.xs.length-1:=by omega
 rw[hz]
 cases h1:gm t.c<;>cases h2:t.xs.all gm<;>simp
 by_cases h3:t.xs.length≤10
 have h4: ¬(10:Int)<t.xs.length:=by omega
 by_cases h5:t.xs=[]
 simp[h5]
 have h6:0<t.xs.length:=List.length_pos_iff.2 h5
 simp[h3,h5]
 intro _;omega
 have h4:(10:Int)<t.xs.length:=by omega
 simp[h3,h4]
inductive Pf where
  | close (n:Nd)
  | tight (n:Nd) (a:Pf)
  | split (n:Nd) (a b:Pf)
structure Ex where
  es:List (Int×List Tm)
  flaw:Int
def fl(b:Nat→Bool):Nat→Nat→Int→Int
  | _,0,f=>f
  | k,n+1,f=>fl b (k+1) n (if b k=true∧f<0 then(k:Int)else f)
structure Eqs(p:List Nd)(c0:List Tm)(H:Nat→Bool)(A:Nat→List Tm)(R:Nat→Bool):Prop where
  h0:0<p.length→H 0=true∧A 0=c0
  h: ∀j,0<j→j<p.length→H j=R (nP p j j).1.toNat
  a: ∀j,0<j→j<p.length→H j=true→A j=nF (p.getD (nP p j j).1.toNat default) (A (nP p j j).1.toNat) (nP p j j).2
  r: ∀j,j<p.length→R j=(H j&&lW (p.getD j default) (A j))
theorem k8: ∀{k:Int} {xs:List Int},aG mI bh k (aG mI bh k xs)=aG mI bh k xs
 | _,[]=>rfl
 | k,x::xs=>by
  show k::aG mI bh (k+1) (aG mI bh (k+1) xs)=k::aG mI bh (k+1) xs
  rw[k8]
theorem f9(xs:List Int)(k:Int):(if aG mI bh k xs=aG mI bh k (aG mI bh k xs)then k+((aG mI bh k xs).length:Int)else -1)=k+xs.length:=by
 rw[if_pos k8.symm,aB]
theorem f6{α:Type}[Inhabited α]{f:Int→α→α}{sz:α→Nat}: ∀{l:List α} {k:Int} {i:Nat},i<l.length→(aG f sz k l).getD i default=f (k+cnt sz (l.take i)) (l.getD i default)
 | [],_,_,h=>by simp at h
 | a::r,k,0,_=>by simp[aG,cnt]
 | a::r,k,i+1,h=>by
  have:=f6 (f:=f) (sz:=sz) (l:=r) (k:=k+sz a) (i:=i) (by simpa using h)
  simp only[aG,List.getD_cons_succ,List.take_succ_cons]at this ⊢
  rw[this]
  have e:k+(sz a:Int)+(cnt sz (r.take i):Int)=k+(cnt sz (a::r.take i):Int):=by simp[cnt];omega
  rw[e]
variable{k:Int}
theorem c41(hk0:0≤k)(hk1:k+cnt nT ts≤1073741824):MQ h1 h2 47 [iN (aG mT nT k ts),eI k] [] (Plain (eI (k+cnt nT ts))):=by
 refine au ?_ Z
 refine jB 31 h1 h2 Tryd.func47 Z fun O hF=>?_
 have hlm:=aB (f:=mT) (sz:=nT) (k:=k) (l:=ts)
 have hl:(aG mT nT k ts).length≤L:=by simpa[As.fact,A.fact,M.fact,D.fact,Ds.fact]using hF.1.1
 refine af (js Z (jn (ag (af (js Z (jn (ap (ax (X:=Nat) (fun i=>⟨[(0,iN (aG mT nT k ts)),(1,eI (k+cnt nT (ts.take i))),(5,eI i)],[]⟩) (fun i=>i≤ts.length) (fun i=>ts.length-i) 0 (Ent.env ⟨Z,by simp[aZ,aa,cnt],Z,ar⟩) ?_ (fun i hi=>?_)))))))))
 exact dT _
 refine ag (af (aj Z ?_))
 first|refine gl Z ?_|refine js Z ?_|refine ck Z Z ?_
 refine js Z (jf [9,0,1,5] Z (jn (am Z (fun z9=>?_) (fun z9=>?_))))
 refine ae (ag (ap (ag (af ?_))))
 have hil:i<ts.length:=by have h9:=b9 z9;omega
 have hg:=f6 (f:=mT) (sz:=nT) (k:=k) hil
 have hcs:=je (sz:=nT) hil
 have hcl:=l6 (sz:=nT) (l:=ts) (i:=i+1)
 rw[←aJ hil]at hcs
 obtain⟨t,ht⟩: ∃t,t=ts.getD i default:=⟨_,rfl⟩
 rw[←ht]at hg hcs
 simp only[nT]at hcs
 obtain⟨K,hK⟩: ∃K,K=k+(cnt nT (ts.take i):Int):=⟨_,rfl⟩
 rw[←hK]at hg ⊢
 refine aj Z (ab ((c9 O Z Z Z Z Z Z Z Z (lG (by omega))).cast (v':=ptr (Tm.cells (mT K t))) (by rw[hg])) Z (cy Z (jf [18,9,0,1,5] Z (jn (am Z (fun z18=>?_) (fun z18=>?_))))))
 exact absurd z18 (by simp)
 refine ae (af (js Z ?_))
 first|refine ji Z ?_|refine ck Z Z ?_
 refine js Z (jf [1,18,9,0,5] Z (bq (aj Z (ab ((c9 O Z Z Z Z Z Z Z Z (lG (by omega))).cast (v':=ptr (Tm.cells (mT K t))) (by rw[hg])) Z (aQ Z (jf [26,25,1,18,9,0,5] Z (cn Z ((qb (xs:=aG mI bh (K+1) t.xs) (k:=K+1) h1 h2 (by omega) (by omega)).plain (congrArg eI (f9 t.xs (K+1)))) 28000 Z (js Z (jf [1,18,9,0,5] Z (bq (aj Z (jn (am Z (fun z29=>?_) (fun z29=>?_))))))))))))))
 exact absurd (b9 z29) (by omega)
 refine ae (ac (js Z ?_))
 first|refine ji Z ?_|refine ck Z Z ?_
 refine js Z (jf [5,29,28,1,18,9,0] Z (jn ?_))
 refine⟨i+1,Ent.env ⟨Z,?_,Z,ar⟩,by omega,by omega⟩
 rw[hcs]
 exact congrArg (fun z=>some (eI z)) (by omega)
 refine ba (af (aj Z (jr ?_)))
 refine aC Z ?_
 have h9:=cw z9
 obtain rfl:i=ts.length:=by omega
 rw[List.take_length]
end Go.Al
/- What the laws of the certificates share: the types of their arguments; what came in reads as it did. -/
namespace Go.Proofs.YtlofbdghppgnbaaDoor
open Go.ChangeShapes Go.WideShapes Go.ChangeAt Go.RowKit Go.Al

theorem ownK:ownKnob Tryd.prog.godebug=none:=by kernel_rfl
theorem kidsK:Kids Tryd.prog (· < Tryd.prog.types.size):=kids_rows (by kernel_rfl) (by kernel_rfl)
theorem fullK: ∀t e,t<Tryd.prog.types.size→Tryd.prog.underlying t=some (.slice e)→0<Tryd.prog.cellsOf e:=slices_full_of Tryd.prog (by kernel_rfl)

theorem fits_one{t:Ty}{e:List D}(h:FitsL [t] e): ∃d,e=[d]∧Fits t d:=by
 cases h with
 | cons a h=>cases h;exact⟨_,rfl,a⟩
theorem rdl_rms{L:Nat}{w:World}{ok:Nat→Prop}{m:Nat→Go.Al.Loc}: ∀{ds:List D} {vs:List Value} {F:List Nat},RDL L w ok ds vs F→F=[]→RMs L w ok m (ds.map .d) vs
 | _,_,_,.nil,_=>.nil
 | _,_,_,.cons (F1:=F1) (F2:=F2) h1 h2,hF=>by
  obtain⟨rfl,rfl⟩:=List.append_eq_nil_iff.1 hF
  exact .cons (.d h1) (rdl_rms h2 Z)
section
variable{H:Type}{enc:TypeId×Value→H}{P:Program}{w w':World}
theorem mL(hs: ∀b,b<w.heap.size→Same w w' b){p:MemPlace}(hp:p.block<w.heap.size):w.sameAt w' p:=by
 cases p with
 | cell b o=>exact(hs b hp).cell
 | map b=>exact hs b hp
theorem trodAll_same(hs: ∀b,b<w.heap.size→Same w w' b){base:Nat}{sp:Nat→Bool}{held:Bool}: ∀{ts:List TypeId} {vs:List Value} {ds:List (DataW H)} {ps:List MemPlace},(∀p∈ps,p.block<w.heap.size)→DataW.TrodAll enc P w base sp held ts vs ds ps→DataW.TrodAll enc P w' base sp held ts vs ds ps
 | [],[],[],_,_,h=>h
 | _::_,_::_,_::_,_,hl,⟨p,q,⟨n,h1⟩,h2,e⟩=>
  ⟨p,q,⟨n,DataW.trod_carry n _ _ _ h1 (fun x hx=>mL hs (hl x (by rw[e];exact List.mem_append_left _ hx)))⟩,trodAll_same hs (fun x hx=>hl x (by rw[e];exact List.mem_append_right _ hx)) h2,e⟩
theorem j7(hf:Go.Al.Frame w w' [])(may:MemPlace→Prop):w.keptBut w' may:=by
 refine⟨hf.os,hf.output,fun i hi=>?_⟩
 have h:=hf.block i hi (by simp)
 unfold Same at h
 rw[h]
 cases hx:w.heap[i]? with
 | none=>trivial
 | some o=>
  cases o with
  | cells c t fr=>exact⟨Z,Z,Z,fun _ _=>rfl⟩
  | map es clock=>exact .inr ⟨Z,Z⟩
  | _=>rfl
theorem j6(hf:Go.Al.Frame w w' []){a:Addr}(ha:a.block<w.heap.size):w'.frozen? a=w.frozen? a:=by
 have h:=hf.block a.block ha (by simp)
 unfold Same at h
 unfold World.frozen?
 rw[h]
theorem post_of_old{f:Func}{s:ChangeSpec}{apart fresh handsOn again:Bool}{args:Array Value}{v:Value}{ds gs:List (DataW H)}{before pa pv:List MemPlace}
    (hW:DataW.Whole enc P f.params.toList s.vars apart w args.toList ds gs before)
    (hres: ∀(b:Nat) (sp:Nat→Bool) (hd:Bool),DataW.TrodAll enc P w' b sp hd f.resultTypes.toList (v.resultList f.resultTypes.size) (s.fn H (ds++gs)).results [])
    (hargs: ∀sp:Nat→Bool,(∀p∈before,sp p.block=true)→DataW.TrodAll enc P w' 0 sp true f.params.toList args.toList (s.fn H (ds++gs)).args pa)
    (hvars: ∀sp:Nat→Bool,(∀p∈before,sp p.block=true)→DataW.TrodVars enc P w' sp s.vars (s.fn H (ds++gs)).vars pv)
    (hps:before=pa++pv) (hf:Go.Al.Frame w w' [])
    (hok: ∀(j:Nat) (t:TypeId) (r:Value),f.resultTypes[j]? = some t→(v.resultList f.resultTypes.size)[j]? = some r→Value.okWide P w' .any 0 t r) :
    s.post enc P f apart fresh handsOn again w args v w':=by
 have hlt:=hW.lt
 have hold: ∀p∈before,(fun b=>decide (b<w.heap.size)) p.block=true:=fun p hp=>by simpa using hlt p hp
 refine⟨ds,gs,before,[],pa,pv,hW,hres _ _ _,hargs _ hold,hvars _ hold,World.keptBut_mono (fun p hp=>⟨hp,?_⟩) (j7 hf (· ∈before)),fun _=>?_⟩
 rw[hps,List.mem_append]at hp
 exact Or.inr hp
 obtain⟨_,_,_,_,_,hz,hn⟩:=hW
 refine⟨hok,_,_,([]++pa)++pv,⟨[]++pa,pv,trodAll_append (hargs _ (fun _ _=>rfl)) (hres _ _ _),hvars _ (fun _ _=>rfl),Z,?_,?_⟩,?_⟩
 intro b off hp
 have hp':MemPlace.cell b off∈before:=by rw[hps];simpa using hp
 rw[j6 hf (hlt _ hp')]
 exact hz b off hp'
 intro ha
 have:=hn ha
 rw[hps]at this
 simpa using this
 intro p hp _
 rw[hps]
 simpa using hp
end

end Go.Proofs.YtlofbdghppgnbaaDoor
namespace Go.Al
variable{L:Nat}(h1:4096≤L)(h2:L≤1073741824)
structure NdAt(n:Nat)(x:Nd):Prop where
  close:x.kind=1→n+1≤x.mul.length∧x.mul.length≤20
  fact:x.kind=3→0≤x.fact∧x.fact≤19
  kind:x.kind=1∨x.kind=2∨x.kind=3
structure MvOk(cnt to:Int→Int)(x:Nd):Prop where
  kind:x.kind=1∨x.kind=2∨x.kind=3
  fact:x.kind=3→0≤x.fact∧x.fact≤19
  len:x.kind=1→x.mul.length≤20
  cntb:x.kind=1→0≤cnt x.mul.length∧cnt x.mul.length≤1000
  rng:x.kind=1→∀i:Nat,i<x.mul.length→to i<cnt x.mul.length
abbrev mSq(k:Int)(s:Sq):Sq:=⟨aG mT nT k s.facts,⟨s.goal.c,aG mI bh (k+cnt nT s.facts) s.goal.xs⟩⟩
variable{k:Int}
theorem oT{c:Int}{xs:List Int}(hk0:0≤k)(hk1:k+xs.length≤1073741824):MQ h1 h2 48 [ew ⟨c,aG mI bh k xs⟩,eI k] [] (Plain (eI (k+xs.length))):=by
 refine au ?_ Z
 refine jB 12 h1 h2 Tryd.func48 Z fun O hF=>?_
 refine af (jx Z (js Z (bq (aQ Z (jf [7,6,4,0,1] Z (cn Z ((qb (xs:=aG mI bh k xs) (k:=k) h1 h2 hk0 (by omega)).plain (congrArg eI (f9 xs k))) 9000 Z (js Z (jf [1,4,0] Z (jn (ag (af (aj Z (jn (am Z (fun z10=>?_) (fun z10=>?_)))))))))))))))
 exact absurd (b9 z10) (by omega)
 refine ae (af (aj Z (jf [4,9,1,0] Z (jr ?_))))
 refine aC Z ?_
 rfl
theorem ky{s:Sq}(hk0:0≤k)(hk1:k+cnt nT s.facts+s.goal.xs.length≤1073741824):MQ h1 h2 19 [my (mSq k s),eI k] [] (Plain (eI (k+cnt nT s.facts+s.goal.xs.length))):=by
 refine au ?_ Z
 refine jB 18 h1 h2 Tryd.func19 Z fun O hF=>?_
 refine af (jx Z (js Z (bq (aQ Z (jf [7,6,4,2,0,1] Z (cn Z (c41 (ts:=s.facts) (k:=k) h1 h2 hk0 (by omega)) 9000 Z (js Z (jf [1,4,2,0] Z (jn (ag (af (aj Z (jn (am Z (fun z10=>?_) (fun z10=>?_)))))))))))))))
 exact absurd (b9 z10) (by omega)
 refine ae (af (aQ Z (jf [13,12,9,1,4,2,0] Z (cn Z (oT (c:=s.goal.c) (xs:=s.goal.xs) (k:=k+cnt nT s.facts) h1 h2 (by omega) (by omega)) 15000 Z (js Z (jf [1,9,4,2,0] Z (jn (ag (af (aj Z (jn (am Z (fun z16=>?_) (fun z16=>?_)))))))))))))
 exact absurd (b9 z16) (by omega)
 refine ae (af (aj Z (jf [4,15,1,9,2,0] Z (jr ?_))))
 refine aC Z ?_
 rfl
structure Rw where
  c:Int
  xs:List Int
  ms:List Int
  deriving Inhabited
structure ROk(n:Nat)(r:Rw):Prop where
  c:gm r.c=true
  xs:r.xs.all gm=true
  l:r.xs.length=10
  ms:r.ms.all co=true
  n:r.ms.length=n
  mt: ∃x∈r.ms,0<x
structure Fs(ts:List Tm):Prop where
  ok: ∀t∈ts,t.ok=true
  len:ts.length≤14
structure Src where
  code:List Int
  at_:Nat
  seed:Int
structure Src.Ok(s:Src):Prop where
  code: ∀n∈s.code,0≤n∧n≤255
structure RIn(ts:List Tm)(r:Rw):Prop where
  ok:ROk ts.length r
  c:r.c=kY Tm.c ts r.ms
  xs: ∀k,k<10→r.xs.getD k default=kY (nn k) ts r.ms
structure QOk(ts:List Tm)(ms:List Int):Prop where
  ok: ∀t∈ts,t.ok=true
  c: ∀t∈ts,-6≤t.c∧t.c≤6
  mok: ∀m∈ms,0≤m∧m≤2
  len:ms.length=ts.length
end Go.Al
