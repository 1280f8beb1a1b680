/- Proofs and annotated code: contracts of both sides' functions that say what is valid; sizes, copies. -/
import Derived.Test.YtnjjkcooihngnaaGreatDoorD
import Derived.Test.YtnjjkcooihngnaaGreatDoorC
import Derived.Test.YtnjjkcooihngnaaGreatDoorRows
set_option linter.unusedVariables false
set_option linter.unusedSimpArgs false
set_option maxRecDepth 10000
set_option maxHeartbeats 4000000
open Go.Proofs
namespace Go.Al
variable{L:Nat}(h1:4096≤L)(h2:L≤1073741824)
theorem oQ{c:Int}{xs:List Int}(h:(i7 c xs).2=true):(i7 c xs).1.ok=true:=by
 unfold i7 at h ⊢
 split at h
 rename_i h1;rw[if_pos h1];exact h1
 cases h
structure CS where
  all:List (List Tm)
  has:List Bool
  right:List Bool
  flaw:Int
structure CSok(p:List Nd)(k:Nat)(z:CS):Prop where
  all:z.all.length=k
  has:z.has.length=k
  right:z.right.length=k
  flaw: -1≤z.flaw∧z.flaw<k
  ctx: ∀j,j<k→z.has.getD j default=true→CtxOk (z.all.getD j default)
  good: ∀j,j<k→z.right.getD j default=true→z.has.getD j default=true∧oK (p.getD j default) (z.all.getD j default)=true
structure Con where
  all:List (List Tm)
  has:List Bool
  flaw:Int
  ok:Bool
theorem g2{a b:Bool}:(bif !a then true else !b)= !(a&&b):=by cases a<;>cases b<;>rfl
theorem uV{t:Tm}:MQ h1 h2 32 [lz t] [] (Plain (lz ⟨t.c,bL t.xs⟩)):=by
 refine MC.data (jB 26 h1 h2 Tryz.func32 Z fun O hF=>?_)
 have hl:t.xs.length≤L:=by simpa[As.fact,A.fact,M.fact,Ms.fact,D.fact,Ds.fact]using hF.1.2.1.1
 refine af (jx Z (jl Z (bq (ac Z (db Z (js Z (jn (ag (ap (av (X:=Nat) (fun n=>⟨[(1,.c (.pt 1 0 0)),(2,.c (.pt 2 0 0)),(3,eI n)],[(1,.box [.d (.int .i64 t.c),.d (il t.xs)]),(2,.box [.d (.int .i64 0),.d .nils])]⟩) (fun n=>n≤t.xs.length∧bL (t.xs.take n)=bL t.xs) (fun n=>n) t.xs.length (Ent.env ⟨Z,Z,Z,ao⟩) ?_ (fun n hi=>?_)))))))))))
 exact⟨bH _,by rw[List.take_length]⟩
 refine ag (af (aZ Z (ay 7 Z Z Z (fun hx=>au hx Z (au hx Z (au hx Z (bE hx (vF Z) Z (bE hx (vD Z) Z (au hx Z (au hx Z (AN.nil)))))))) Z Z (ab (aj O Z Z Z Z Z) Z (jn (ak Z (fun z17=>?_) (fun z17=>?_)))))))
 refine ae (ap (aa (js Z (ji Z (js Z (jn ?_))))))
 rw[Bool.cond_false_right,bh,decide_eq_true_eq,decide_eq_true_eq]at z17
 obtain⟨k,hk⟩: ∃k,n=k+1:=⟨n-1,by omega⟩
 subst hk
 have hk2:((k+1:Nat):Int)-1=k:=by omega
 rw[hk2]at z17
 refine⟨k,Ent.to ⟨Z,Z,by rw[hk2];rfl,ao⟩ Z,⟨by omega,?_⟩,Nat.lt_succ_self k⟩
 rw[←hi.2,jm (by omega) (by simpa using z17.2)]
 refine aR (af (aZ Z ?_))
 have hd:bL (t.xs.take n)=t.xs.take n:=gm hi.1 (by
  rw[Bool.cond_false_right]at z17
  rcases Nat.eq_zero_or_pos n with h0|h0
  ·
   exact .inl h0
  ·
   refine .inr (fun h9=>?_)
   have e1:((n:Int)-1).toNat=n-1:=by omega
   rw[e1,h9]at z17;simp at z17;omega)
 have ht:=hi.2
 rw[hd]at ht
 refine ab ((br O Z Z ⟨by omega,by simp;omega⟩).cast (v':=cr (bL t.xs)) (by rw[←ht];simp[List.map_take])) Z (js Z (jo Z (bq (js Z (jo Z (jr ?_))))))
 refine aw Z ?_
 exact .v (.agg (aP Z))
theorem rB{n:Int}:MQ h1 h2 13 [eI n] [] (Plain (eI n)):=by
 refine am ?_ Z
 refine jB 4 h1 h2 Tryz.func13 Z fun O hF=>?_
 refine af (js Z (bq (ac Z (jr ?_))))
 refine aw Z ?_
 first|rfl|skip
variable{k:Int}
theorem uq{n:Nat}(hn:n≤1073741824):MQ h1 h2 44 [eI k,eI n] [] (Plain (eB (da 0 ((n:Int)-1) k))):=by
 refine am ?_ Z
 refine jB 10 h1 h2 Tryz.func44 Z fun O hF=>?_
 refine af (js Z (bq (ac Z (aW Z (rB (n:=n) h1 h2) 8000 Z ?_))))
 first|refine ji Z ?_|refine be Z Z ?_
 refine aW Z (kE h1 h2) 10000 Z (js Z (jr ?_))
 refine aw Z ?_
 first|rfl|skip
theorem ry{x:Int}(hx: -1000000≤x∧x≤1000000):MQ h1 h2 71 [eI x] [] (Plain (eI x.natAbs)):=by
 refine am ?_ Z
 refine jB 7 h1 h2 Tryz.func71 Z fun O hF=>?_
 refine af (js Z (bq (ac Z (ji Z (ac Z (jr ?_))))))
 refine aw Z ?_
 exact congrArg eI (show(if 0-x>x then 0-x else x)=(x.natAbs:Int) by split<;>omega)
theorem tI{t:Tm}:MQ h1 h2 35 [lz t] [] (Rows (.agg [.d (.int .i64 t.c),.rs 0 0 t.xs.length]) [dX t.xs]):=by
 refine dh (jB 9 h1 h2 Tryz.func35 Z fun O hF=>?_)
 refine af (jx Z (jl Z (jn (ag (mq [_,_,_,_,_,_,_] [pn [] 0 1,pn [0] 0 1,bv,aU [2],pe [2,3] 0,pn (rg 0 5) 1 1,pe (rg 0 6) 1] [4,6] [_,_,_] (ai (kc Z (V Z)) (ai (kc Z (V Z)) (kc Z (kc Z (ai (pN O (B0:=8000) Z Z Z Z (va (xs:=t.xs) h1 h2) (al Z) Z Z Z Z Z) (kc Z (ai (eS Z Z Z) trivial))))))) ?_)))))
 refine pU ?_
 refine⟨.inl Z,_,el,_,Z,[8000],by decide,Z,Z,Z⟩
theorem vo{t:Tm}:t.ok=true↔gv t.c=true∧t.xs.all gv=true∧t.xs.length≤10∧(t.xs=[]∨t.xs.getD (t.xs.length-1) default≠0):=by
 unfold Tm.ok
 have hz:((t.xs.length:Int)-1).toNat=t.xs.length-1:=by omega
 rw[hz]
 cases h1:gv t.c<;>cases h2:t.xs.all gv<;>simp
 by_cases h3:t.xs.length≤10
 have h4: ¬(10:Int)<t.xs.length:=by omega
 by_cases h5:t.xs=[]
 simp[h5]
 have h6:0<t.xs.length:=List.length_pos_iff.2 h5
 simp[h3,h5]
 intro _;omega
 have h4:(10:Int)<t.xs.length:=by omega
 simp[h3,h4]
inductive Pf where
  | close (n:Nd)
  | tight (n:Nd) (a:Pf)
  | split (n:Nd) (a b:Pf)
structure Ex where
  es:List (Int×List Tm)
  flaw:Int
def fl(b:Nat→Bool):Nat→Nat→Int→Int
  | _,0,f=>f
  | k,n+1,f=>fl b (k+1) n (if b k=true∧f<0 then(k:Int)else f)
structure Eqs(p:List Nd)(c0:List Tm)(H:Nat→Bool)(A:Nat→List Tm)(R:Nat→Bool):Prop where
  h0:0<p.length→H 0=true∧A 0=c0
  h: ∀j,0<j→j<p.length→H j=R (sA p j j).1.toNat
  a: ∀j,0<j→j<p.length→H j=true→A j=sk (p.getD (sA p j j).1.toNat default) (A (sA p j j).1.toNat) (sA p j j).2
  r: ∀j,j<p.length→R j=(H j&&oK (p.getD j default) (A j))
theorem nn: ∀{k:Int} {xs:List Int},aL mI cC k (aL mI cC k xs)=aL mI cC k xs
 | _,[]=>rfl
 | k,x::xs=>by
  show k::aL mI cC (k+1) (aL mI cC (k+1) xs)=k::aL mI cC (k+1) xs
  rw[nn]
theorem lY(xs:List Int)(k:Int):(if aL mI cC k xs=aL mI cC k (aL mI cC k xs)then k+((aL mI cC k xs).length:Int)else -1)=k+xs.length:=by
 rw[if_pos nn.symm,ax]
theorem ee{α:Type}[Inhabited α]{f:Int→α→α}{sz:α→Nat}: ∀{l:List α} {k:Int} {i:Nat},i<l.length→(aL f sz k l).getD i default=f (k+cnt sz (l.take i)) (l.getD i default)
 | [],_,_,h=>by simp at h
 | a::r,k,0,_=>by simp[aL,cnt]
 | a::r,k,i+1,h=>by
  have:=ee (f:=f) (sz:=sz) (l:=r) (k:=k+sz a) (i:=i) (by simpa using h)
  simp only[aL,List.getD_cons_succ,List.take_succ_cons]at this ⊢
  rw[this]
  have e:k+(sz a:Int)+(cnt sz (r.take i):Int)=k+(cnt sz (a::r.take i):Int):=by simp[cnt];omega
  rw[e]
variable{ts:List Tm}
theorem ur(hk0:0≤k)(hk1:k+cnt nT ts≤1073741824):MQ h1 h2 23 [ff (aL mT nT k ts),eI k] [] (Plain (eI (k+cnt nT ts))):=by
 refine am ?_ Z
 refine jB 31 h1 h2 Tryz.func23 Z fun O hF=>?_
 have hlm:=ax (f:=mT) (sz:=nT) (k:=k) (l:=ts)
 have hl:(aL mT nT k ts).length≤L:=by simpa[As.fact,A.fact,M.fact,D.fact,Ds.fact]using hF.1.1
 refine af (js Z (jn (ag (af (js Z (jn (ap (av (X:=Nat) (fun i=>⟨[(0,ff (aL mT nT k ts)),(1,eI (k+cnt nT (ts.take i))),(5,eI i)],[]⟩) (fun i=>i≤ts.length) (fun i=>ts.length-i) 0 (Ent.env ⟨Z,by simp[bk,ah,cnt],Z,ao⟩) ?_ (fun i hi=>?_)))))))))
 exact cN _
 refine ag (af (ac Z ?_))
 first|refine db Z ?_|refine js Z ?_|refine be Z Z ?_
 refine js Z (jf [9,0,1,5] Z (jn (ak Z (fun z9=>?_) (fun z9=>?_))))
 refine ae (ag (ap (ag (af ?_))))
 have hil:i<ts.length:=by have h9:=bJ z9;omega
 have hg:=ee (f:=mT) (sz:=nT) (k:=k) hil
 have hcs:=dT (sz:=nT) hil
 have hcl:=gk (sz:=nT) (l:=ts) (i:=i+1)
 rw[←getD_lt hil]at hcs
 obtain⟨t,ht⟩: ∃t,t=ts.getD i default:=⟨_,rfl⟩
 rw[←ht]at hg hcs
 simp only[nT]at hcs
 obtain⟨K,hK⟩: ∃K,K=k+(cnt nT (ts.take i):Int):=⟨_,rfl⟩
 rw[←hK]at hg ⊢
 refine ac Z (ab ((aH O Z Z Z Z Z Z Z Z (dg (by omega))).cast (v':=ptr (Tm.cells (mT K t))) (by rw[hg])) Z (bn Z (jf [18,9,0,1,5] Z (jn (ak Z (fun z18=>?_) (fun z18=>?_))))))
 exact absurd z18 (by simp)
 refine ae (af (js Z ?_))
 first|refine ji Z ?_|refine be Z Z ?_
 refine js Z (jf [1,18,9,0,5] Z (bq (ac Z (ab ((aH O Z Z Z Z Z Z Z Z (dg (by omega))).cast (v':=ptr (Tm.cells (mT K t))) (by rw[hg])) Z (aZ Z (jf [26,25,1,18,9,0,5] Z (aW Z ((c21 (xs:=aL mI cC (K+1) t.xs) (k:=K+1) h1 h2 (by omega) (by omega)).plain (congrArg eI (lY t.xs (K+1)))) 28000 Z (js Z (jf [1,18,9,0,5] Z (bq (ac Z (jn (ak Z (fun z29=>?_) (fun z29=>?_))))))))))))))
 exact absurd (bJ z29) (by omega)
 refine ae (aa (js Z ?_))
 first|refine ji Z ?_|refine be Z Z ?_
 refine js Z (jf [5,29,28,1,18,9,0] Z (jn ?_))
 refine⟨i+1,Ent.env ⟨Z,?_,Z,ao⟩,by omega,by omega⟩
 rw[hcs]
 exact congrArg (fun z=>some (eI z)) (by omega)
 refine aR (af (ac Z (jr ?_)))
 refine aw Z ?_
 have h9:=ck z9
 obtain rfl:i=ts.length:=by omega
 rw[List.take_length]
end Go.Al
/- What the laws of the certificates share: the types of their arguments; what came in reads as it did. -/
namespace Go.Proofs.YtnjjkcooihngnaaGreatDoor
open Go.ChangeShapes Go.WideShapes Go.ChangeAt Go.RowKit Go.Al

theorem ownK:ownKnob Tryz.prog.godebug=none:=by kernel_rfl
theorem kidsK:Kids Tryz.prog (· < Tryz.prog.types.size):=kids_rows (by kernel_rfl) (by kernel_rfl)
theorem fullK: ∀t e,t<Tryz.prog.types.size→Tryz.prog.underlying t=some (.slice e)→0<Tryz.prog.cellsOf e:=slices_full_of Tryz.prog (by kernel_rfl)

theorem fits_one{t:Ty}{e:List D}(h:FitsL [t] e): ∃d,e=[d]∧Fits t d:=by
 cases h with
 | cons a h=>cases h;exact⟨_,rfl,a⟩
theorem rdl_rms{L:Nat}{w:World}{ok:Nat→Prop}{m:Nat→Go.Al.Loc}: ∀{ds:List D} {vs:List Value} {F:List Nat},RDL L w ok ds vs F→F=[]→RMs L w ok m (ds.map .d) vs
 | _,_,_,.nil,_=>.nil
 | _,_,_,.cons (F1:=F1) (F2:=F2) h1 h2,hF=>by
  obtain⟨rfl,rfl⟩:=List.append_eq_nil_iff.1 hF
  exact .cons (.d h1) (rdl_rms h2 Z)
section
variable{H:Type}{enc:TypeId×Value→H}{P:Program}{w w':World}
theorem qk(hs: ∀b,b<w.heap.size→Same w w' b){p:MemPlace}(hp:p.block<w.heap.size):w.sameAt w' p:=by
 cases p with
 | cell b o=>exact(hs b hp).cell
 | map b=>exact hs b hp
theorem trodAll_same(hs: ∀b,b<w.heap.size→Same w w' b){base:Nat}{sp:Nat→Bool}{held:Bool}: ∀{ts:List TypeId} {vs:List Value} {ds:List (DataW H)} {ps:List MemPlace},(∀p∈ps,p.block<w.heap.size)→DataW.TrodAll enc P w base sp held ts vs ds ps→DataW.TrodAll enc P w' base sp held ts vs ds ps
 | [],[],[],_,_,h=>h
 | _::_,_::_,_::_,_,hl,⟨p,q,⟨n,h1⟩,h2,e⟩=>
  ⟨p,q,⟨n,DataW.trod_carry n _ _ _ h1 (fun x hx=>qk hs (hl x (by rw[e];exact List.mem_append_left _ hx)))⟩,trodAll_same hs (fun x hx=>hl x (by rw[e];exact List.mem_append_right _ hx)) h2,e⟩
theorem l3(hf:Go.Al.Frame w w' [])(may:MemPlace→Prop):w.keptBut w' may:=by
 refine⟨hf.os,hf.output,fun i hi=>?_⟩
 have h:=hf.block i hi (by simp)
 unfold Same at h
 rw[h]
 cases hx:w.heap[i]? with
 | none=>trivial
 | some o=>
  cases o with
  | cells c t fr=>exact⟨Z,Z,Z,fun _ _=>rfl⟩
  | map es clock=>exact .inr ⟨Z,Z⟩
  | _=>rfl
theorem lZ(hf:Go.Al.Frame w w' []){a:Addr}(ha:a.block<w.heap.size):w'.frozen? a=w.frozen? a:=by
 have h:=hf.block a.block ha (by simp)
 unfold Same at h
 unfold World.frozen?
 rw[h]
theorem post_of_old{f:Func}{s:ChangeSpec}{apart fresh handsOn again:Bool}{args:Array Value}{v:Value}{ds gs:List (DataW H)}{before pa pv:List MemPlace}
    (hW:DataW.Whole enc P f.params.toList s.vars apart w args.toList ds gs before)
    (hres: ∀(b:Nat) (sp:Nat→Bool) (hd:Bool),DataW.TrodAll enc P w' b sp hd f.resultTypes.toList (v.resultList f.resultTypes.size) (s.fn H (ds++gs)).results [])
    (hargs: ∀sp:Nat→Bool,(∀p∈before,sp p.block=true)→DataW.TrodAll enc P w' 0 sp true f.params.toList args.toList (s.fn H (ds++gs)).args pa)
    (hvars: ∀sp:Nat→Bool,(∀p∈before,sp p.block=true)→DataW.TrodVars enc P w' sp s.vars (s.fn H (ds++gs)).vars pv)
    (hps:before=pa++pv) (hf:Go.Al.Frame w w' [])
    (hok: ∀(j:Nat) (t:TypeId) (r:Value),f.resultTypes[j]? = some t→(v.resultList f.resultTypes.size)[j]? = some r→Value.okWide P w' .any 0 t r) :
    s.post enc P f apart fresh handsOn again w args v w':=by
 have hlt:=hW.lt
 have hold: ∀p∈before,(fun b=>decide (b<w.heap.size)) p.block=true:=fun p hp=>by simpa using hlt p hp
 refine⟨ds,gs,before,[],pa,pv,hW,hres _ _ _,hargs _ hold,hvars _ hold,World.keptBut_mono (fun p hp=>⟨hp,?_⟩) (l3 hf (· ∈before)),fun _=>?_⟩
 rw[hps,List.mem_append]at hp
 exact Or.inr hp
 obtain⟨_,_,_,_,_,hz,hn⟩:=hW
 refine⟨hok,_,_,([]++pa)++pv,⟨[]++pa,pv,trodAll_append (hargs _ (fun _ _=>rfl)) (hres _ _ _),hvars _ (fun _ _=>rfl),Z,?_,?_⟩,?_⟩
 intro b off hp
 have hp':MemPlace.cell b off∈before:=by rw[hps];simpa using hp
 rw[lZ hf (hlt _ hp')]
 exact hz b off hp'
 intro ha
 have:=hn ha
 rw[hps]at this
 simpa using this
 intro p hp _
 rw[hps]
 simpa using hp
end

end Go.Proofs.YtnjjkcooihngnaaGreatDoor
namespace Go.Al
variable{L:Nat}(h1:4096≤L)(h2:L≤1073741824)
structure NdAt(n:Nat)(x:Nd):Prop where
  close:x.kind=1→n+1≤x.mul.length∧x.mul.length≤20
  fact:x.kind=3→0≤x.fact∧x.fact≤19
  kind:x.kind=1∨x.kind=2∨x.kind=3
structure MvOk(cnt to:Int→Int)(x:Nd):Prop where
  kind:x.kind=1∨x.kind=2∨x.kind=3
  fact:x.kind=3→0≤x.fact∧x.fact≤19
  len:x.kind=1→x.mul.length≤20
  cntb:x.kind=1→0≤cnt x.mul.length∧cnt x.mul.length≤1000
  rng:x.kind=1→∀i:Nat,i<x.mul.length→to i<cnt x.mul.length
structure Rw where
  c:Int
  xs:List Int
  ms:List Int
  deriving Inhabited
structure ROk(n:Nat)(r:Rw):Prop where
  c:gv r.c=true
  xs:r.xs.all gv=true
  l:r.xs.length=10
  ms:r.ms.all co=true
  n:r.ms.length=n
  pR: ∃x∈r.ms,0<x
structure Fs(ts:List Tm):Prop where
  ok: ∀t∈ts,t.ok=true
  len:ts.length≤14
structure In where
  op:Int
  a:Int
  deriving Inhabited,DecidableEq
abbrev In.cells(x:In):List D:=[.int .i64 x.op,.int .i64 x.a]
abbrev nc(c:List In):D:=.slc 2 (c.map In.cells)
abbrev i8(c:List In):A:=.c (.d (nc c))
abbrev fd(c:List In):B:=.row true 2 (c.map In.cells)
structure Pt where
  k:Int
  fs:List Tm
  deriving Inhabited,DecidableEq
abbrev Pt.cells(p:Pt):List D:=[.int .i64 p.k,nO p.fs]
abbrev na(ps:List Pt):D:=.slc 2 (ps.map Pt.cells)
abbrev nf(ps:List Pt):A:=.c (.d (na ps))
abbrev gW(ps:List Pt):B:=.row true 2 (ps.map Pt.cells)
structure An where
  pre:List Tm
  post:List Tm
  code:List In
  pts:List Pt
  deriving Inhabited,DecidableEq
abbrev An.data(a:An):List D:=[nO a.pre,nO a.post,nc a.code,na a.pts]
abbrev n0(a:An):A:=.agg (a.data.map .d)
abbrev lr:Int→In→In:=fun k _=>⟨k,k+1⟩
abbrev nIn:In→Nat:=fun _=>2
abbrev mP:Int→Pt→Pt:=fun k p=>⟨k,aL mT nT (k+1) p.fs⟩
abbrev nP:Pt→Nat:=fun p=>1+cnt nT p.fs
def aC(x:In):Bool:=
  if x.op=0∨x.op=4 then gv x.a else if x.op=1∨x.op=2 then da 0 3 x.a else if x.op=5∨x.op=6 then da 0 79 x.a else if x.op=9 then da 0 3 x.a
  else if x.op=3∨x.op=7∨x.op=8∨x.op=10∨x.op=11 then decide (x.a=0)else false
def dD(c:List In):Bool:=c.all aC&&da 1 80 c.length
def nS(n:Nat)(ps:List Pt)(i:Nat):Bool:=da 0 ((n:Int)-1) (ps.getD i default).k&&terms (ps.getD i default).fs 6&& !(decide (0<i)&&decide ((ps.getD i default).k≤(ps.getD (i-1) default).k))
def nb(n:Nat)(ps:List Pt):Bool:=(List.range ps.length).all (nS n ps)
def annB(a:An):Bool:=dD a.code&&(terms a.pre 6&&(terms a.post 6&&(decide (a.pts.length≤8)&&nb a.code.length a.pts)))
theorem mS{n:Nat}{ps:List Pt}(h: ∀j,j<ps.length→nS n ps j=true):nb n ps=true:=List.all_eq_true.2 fun j hj=>h j (List.mem_range.1 hj)
theorem kO{n:Nat}{ps:List Pt}(j:Nat)(hj:j<ps.length)(h:nS n ps j=false):nb n ps=false:=by
 cases e:nb n ps with
 | false=>rfl
 | true=>have:=List.all_eq_true.1 e j (List.mem_range.2 hj);rw[h]at this;cases this
def rx(x:In):Bool:=decide (x.op=5)||decide (x.op=6)
def uP(ps:List Pt)(k:Int):Bool:=ps.any fun p=>decide (p.k=k)
def tw(c:List In)(k:Int):Bool:=c.any fun x=>rx x&&decide (x.a=k)
def plB(c:List In)(ps:List Pt)(k:Int):Bool:=tw c k||uP ps k
def sL(pl:Int→Bool):Nat→List In→List In
  | _,[]=>[]
  | k,x::r=>if pl (k:Int)=true then[]else x::sL pl (k+1) r
def sgt(c:List In)(ps:List Pt)(k:Nat):List In:=match c.drop k with
  | []=>[]
  | x::r=>x::sL (plB c ps) (k+1) r
def kC:List Int→List In→Bool
  | [],_=>true
  | _::_,[]=>false
  | o::os,x::s=>decide (x.op=o)&&kC os s
def oP(x:In):Bool:=decide (x.op=1)||decide (x.op=3)||decide (x.op=7)
def tq(s:List In):Nat×List In:=
  let x:=s.getD 0 default
  let y:=s.getD 1 default
  if kC [0,4] s=true∧gv (x.a*y.a)=true then(2,[⟨0,x.a*y.a⟩])
  else if kC [0,0,3] s=true∧gv (x.a+y.a)=true then(3,[⟨0,x.a+y.a⟩])
  else if kC [0,1,3] s=true∧x.a=0 then(3,[y])
  else if kC [0,1,4,3] s=true∧x.a=0 then(4,[y,s.getD 2 default])
  else if(oP x=true∨x.op=4)∧kC [x.op,0,3] s=true∧y.a=0 then(3,[x])
  else if oP x=true∧kC [x.op,4] s=true∧y.a=1 then(2,[x])
  else if kC [4,4] s=true∧gv (x.a*y.a)=true then(2,[⟨4,x.a*y.a⟩])
  else(0,[])
def uN(k less:Int)(x:In):In:=if rx x=true∧k<x.a then⟨x.op,x.a-less⟩else x
def sPt(k less:Int)(p:Pt):Pt:=if k<p.k then⟨p.k-less,p.fs⟩else p
def uL(a:An)(k n:Nat)(by':List In):An:=
  ⟨a.pre,a.post,(a.code.take k++by'++a.code.drop (k+n)).map (uN k ((n:Int)-by'.length)),a.pts.map (sPt k ((n:Int)-by'.length))⟩
abbrev mr(a:An)(k:Nat):Nat×List In:=tq (sgt a.code a.pts k)
def qU(a:An):Nat→Nat→Option An
  | 0,_=>none
  | f+1,k=>if 0<(mr a k).1 then some (uL a k (mr a k).1 (mr a k).2)else qU a f (k+1)
def tE(a:An):Option An:=qU a a.code.length 0
def q7:Nat→An→An
  | 0,a=>a
  | f + 1,a=>match tE a with
    | none=>a
    | some b=>q7 f b
def my(a:An):An:=q7 a.code.length a
structure AOk(a:An):Prop where
  code: ∀x∈a.code,aC x=true
  pts: ∀p∈a.pts,0≤p.k∧p.k≤79
  len:a.code.length≤80
  np:a.pts.length≤8
  npre:a.pre.length≤6
  npost:a.post.length≤6
structure RuOk(s:List In)(r:Nat×List In):Prop where
  n:r.1≤s.length
  lt:r.2.length<r.1
  one:1≤r.2.length
  two:r.2.length≤2
  jmp: ∀x∈r.2,rx x=false
  ok:(∀x∈s,aC x=true)→∀x∈r.2,aC x=true
theorem vf{s t:In}:MQ h1 h2 49 [.agg (s.cells.map .d),.agg (t.cells.map .d)] [] (Plain (eB (decide (s=t)))):=by
 refine am ?_ Z
 refine jB 15 h1 h2 Tryz.func49 Z fun O hF=>?_
 refine af (jx Z (jx Z (js Z (jn (ag (af (bn Z (js Z (jn (ak Z (fun z9=>?_) (fun z9=>?_)))))))))))
 try simp only[aK]at z9
 refine af (js Z (jr ?_))
 refine aw Z ?_
 rw[decide_eq_false (fun e=>z9 (by rw[e]))]
 try simp only[aK]at z9
 refine ae (ag (af (bn Z (js Z (jn (ak Z (fun z14=>?_) (fun z14=>?_)))))))
 try simp only[aK]at z14
 refine af (js Z (jr ?_))
 refine aw Z ?_
 rw[decide_eq_false (fun e=>z14 (by rw[e]))]
 try simp only[aK]at z14
 refine ae (af (js Z (jr ?_)))
 refine aw Z ?_
 have e:s=t:=by cases s;cases t;simp_all
 rw[decide_eq_true e]
theorem c74{xs ys:List In}:MQ h1 h2 18 [.c (.d (nc xs)),.c (.d (nc ys))] [] (Plain (eB (decide (xs=ys)))):=by
 refine am ?_ Z
 refine jB 27 h1 h2 Tryz.func18 Z fun O hF=>?_
 have hl:xs.length≤L:=by simpa[As.fact,A.fact,M.fact,D.fact,Ds.fact]using hF.1.1
 have hl2:ys.length≤L:=by simpa[As.fact,A.fact,M.fact,D.fact,Ds.fact]using hF.2.1.1
 refine af (js Z (jn (ag (af (js Z ?_)))))
 first|refine db Z ?_|refine js Z ?_|refine be Z Z ?_
 refine js Z ?_
 first|refine db Z ?_|refine js Z ?_|refine be Z Z ?_
 refine js Z (jn (ak Z (fun z10=>?_) (fun z10=>?_)))
 try simp only[aK]at z10
 refine af (js Z (jr ?_))
 refine aw Z ?_
 rw[decide_eq_false (fun e=>by subst e;simp at z10)]
 try simp only[aK]at z10
 refine ae (ag (af (js Z (jn (ap (av (X:=Nat) (fun i=>⟨[(0,.c (.d (nc xs))),(1,.c (.d (nc ys))),(5,eI i)],[]⟩) (fun i=>i≤xs.length∧∀j,j<i→xs[j]? = ys[j]?) (fun i=>xs.length-i) 0 (Ent.env ⟨Z,Z,Z,ao⟩) ?_ (fun i hi=>?_)))))))
 exact⟨cN _,fun j hj=>absurd hj (Nat.not_lt_zero j)⟩
 refine ag (af (ac Z ?_))
 first|refine db Z ?_|refine js Z ?_|refine be Z Z ?_
 refine js Z (jn (ak Z (fun z14=>?_) (fun z14=>?_)))
 try simp only[aK]at z14
 refine ae (ag (ap (ag (mq [_,_,_,_,_,_,_,_,_,_] [bv,bv,aU [0,1],aU [0,1,2],bv,bv,aU [4,5],aU [4,5,6],pe (rg 0 8) 0,pn (rg 0 9) 1 1] [8] [_,_] (kc Z (kc Z (ai (vD Z) (kc Z (kc Z (kc Z (ai (vD Z) (kc Z (ai (aE O (B0:=26000) Z Z Z Z (vf h1 h2) (al Z) Z Z Z Z Z) (kc Z trivial)))))))))) ?_))))
 refine ak Z (fun z26=>?_) (fun z26=>?_)
 try simp only[aK]at z26
 refine af (js Z (jr ?_))
 refine aw Z ?_
 rw[decide_eq_false (fun e=>by subst e;simp at z26)]
 try simp only[aK]at z26
 refine ae (aa (js Z ?_))
 first|refine ji Z ?_|refine be Z Z ?_
 refine js Z (jn ?_)
 refine⟨i+1,Ent.env ⟨Z,Z,Z,ao⟩,⟨by omega,fun j hj=>?_⟩,by omega⟩
 rcases Nat.lt_or_ge j i with h|h
 exact hi.2 j h
 obtain rfl:j=i:=by omega
 rw[Int.toNat_natCast,getD_lt (by omega),getD_lt (by omega)]at z26
 rw[List.getElem?_eq_getElem (by omega),List.getElem?_eq_getElem (by omega),z26]
 try simp only[aK]at z14
 refine aR (af (js Z (jr ?_)))
 refine aw Z ?_
 have e:xs=ys:=List.ext_getElem? fun j=>by
  rcases Nat.lt_or_ge j i with h|h
  ·
   exact hi.2 j h
  ·
   rw[List.getElem?_eq_none (by omega),List.getElem?_eq_none (by omega)]
 rw[decide_eq_true e]
theorem ve{s t:Pt}:MQ h1 h2 50 [.agg (s.cells.map .d),.agg (t.cells.map .d)] [] (Plain (eB (decide (s=t)))):=by
 refine am ?_ Z
 refine jB 16 h1 h2 Tryz.func50 Z fun O hF=>?_
 refine af (jx Z (jx Z (js Z (jn (ag (af (bn Z (js Z (jn (ak Z (fun z9=>?_) (fun z9=>?_)))))))))))
 try simp only[aK]at z9
 refine af (js Z (jr ?_))
 refine aw Z ?_
 rw[decide_eq_false (fun e=>z9 (by rw[e]))]
 try simp only[aK]at z9
 refine ae (ag (af (bn Z (aW Z (uu h1 h2) 15000 Z (js Z (jn (ak Z (fun z15=>?_) (fun z15=>?_))))))))
 try simp only[aK]at z15
 refine af (js Z (jr ?_))
 refine aw Z ?_
 rw[decide_eq_false (fun e=>z15 (by rw[e]))]
 try simp only[aK]at z15
 refine ae (af (js Z (jr ?_)))
 refine aw Z ?_
 have e:s=t:=by cases s;cases t;simp_all
 rw[decide_eq_true e]
theorem c75{xs ys:List Pt}:MQ h1 h2 19 [.c (.d (na xs)),.c (.d (na ys))] [] (Plain (eB (decide (xs=ys)))):=by
 refine am ?_ Z
 refine jB 27 h1 h2 Tryz.func19 Z fun O hF=>?_
 have hl:xs.length≤L:=by simpa[As.fact,A.fact,M.fact,D.fact,Ds.fact]using hF.1.1
 have hl2:ys.length≤L:=by simpa[As.fact,A.fact,M.fact,D.fact,Ds.fact]using hF.2.1.1
 refine af (js Z (jn (ag (af (js Z ?_)))))
 first|refine db Z ?_|refine js Z ?_|refine be Z Z ?_
 refine js Z ?_
 first|refine db Z ?_|refine js Z ?_|refine be Z Z ?_
 refine js Z (jn (ak Z (fun z10=>?_) (fun z10=>?_)))
 try simp only[aK]at z10
 refine af (js Z (jr ?_))
 refine aw Z ?_
 rw[decide_eq_false (fun e=>by subst e;simp at z10)]
 try simp only[aK]at z10
 refine ae (ag (af (js Z (jn (ap (av (X:=Nat) (fun i=>⟨[(0,.c (.d (na xs))),(1,.c (.d (na ys))),(5,eI i)],[]⟩) (fun i=>i≤xs.length∧∀j,j<i→xs[j]? = ys[j]?) (fun i=>xs.length-i) 0 (Ent.env ⟨Z,Z,Z,ao⟩) ?_ (fun i hi=>?_)))))))
 exact⟨cN _,fun j hj=>absurd hj (Nat.not_lt_zero j)⟩
 refine ag (af (ac Z ?_))
 first|refine db Z ?_|refine js Z ?_|refine be Z Z ?_
 refine js Z (jn (ak Z (fun z14=>?_) (fun z14=>?_)))
 try simp only[aK]at z14
 refine ae (ag (ap (ag (mq [_,_,_,_,_,_,_,_,_,_] [bv,bv,aU [0,1],aU [0,1,2],bv,bv,aU [4,5],aU [4,5,6],pe (rg 0 8) 0,pn (rg 0 9) 1 1] [8] [_,_] (kc Z (kc Z (ai (vD Z) (kc Z (kc Z (kc Z (ai (vD Z) (kc Z (ai (aE O (B0:=26000) Z Z Z Z (ve h1 h2) (al Z) Z Z Z Z Z) (kc Z trivial)))))))))) ?_))))
 refine ak Z (fun z26=>?_) (fun z26=>?_)
 try simp only[aK]at z26
 refine af (js Z (jr ?_))
 refine aw Z ?_
 rw[decide_eq_false (fun e=>by subst e;simp at z26)]
 try simp only[aK]at z26
 refine ae (aa (js Z ?_))
 first|refine ji Z ?_|refine be Z Z ?_
 refine js Z (jn ?_)
 refine⟨i+1,Ent.env ⟨Z,Z,Z,ao⟩,⟨by omega,fun j hj=>?_⟩,by omega⟩
 rcases Nat.lt_or_ge j i with h|h
 exact hi.2 j h
 obtain rfl:j=i:=by omega
 rw[Int.toNat_natCast,getD_lt (by omega),getD_lt (by omega)]at z26
 rw[List.getElem?_eq_getElem (by omega),List.getElem?_eq_getElem (by omega),z26]
 try simp only[aK]at z14
 refine aR (af (js Z (jr ?_)))
 refine aw Z ?_
 have e:xs=ys:=List.ext_getElem? fun j=>by
  rcases Nat.lt_or_ge j i with h|h
  ·
   exact hi.2 j h
  ·
   rw[List.getElem?_eq_none (by omega),List.getElem?_eq_none (by omega)]
 rw[decide_eq_true e]
theorem uh{s t:An}:MQ h1 h2 6 [n0 s,n0 t] [] (Plain (eB (decide (s=t)))):=by
 refine am ?_ Z
 refine jB 29 h1 h2 Tryz.func6 Z fun O hF=>?_
 refine af (jx Z (jx Z (js Z (jn (ag (af (bn Z (aW Z (uu h1 h2) 10000 Z (js Z (jn (ak Z (fun z10=>?_) (fun z10=>?_))))))))))))
 try simp only[aK]at z10
 refine af (js Z (jr ?_))
 refine aw Z ?_
 rw[decide_eq_false (fun e=>z10 (by rw[e]))]
 try simp only[aK]at z10
 refine ae (ag (af (bn Z (aW Z (uu h1 h2) 16000 Z (js Z (jn (ak Z (fun z16=>?_) (fun z16=>?_))))))))
 try simp only[aK]at z16
 refine af (js Z (jr ?_))
 refine aw Z ?_
 rw[decide_eq_false (fun e=>z16 (by rw[e]))]
 try simp only[aK]at z16
 refine ae (ag (af (bn Z (aW Z (c74 h1 h2) 22000 Z (js Z (jn (ak Z (fun z22=>?_) (fun z22=>?_))))))))
 try simp only[aK]at z22
 refine af (js Z (jr ?_))
 refine aw Z ?_
 rw[decide_eq_false (fun e=>z22 (by rw[e]))]
 try simp only[aK]at z22
 refine ae (ag (af (bn Z (aW Z (c75 h1 h2) 28000 Z (js Z (jn (ak Z (fun z28=>?_) (fun z28=>?_))))))))
 try simp only[aK]at z28
 refine af (js Z (jr ?_))
 refine aw Z ?_
 rw[decide_eq_false (fun e=>z28 (by rw[e]))]
 try simp only[aK]at z28
 refine ae (af (js Z (jr ?_)))
 refine aw Z ?_
 have e:s=t:=by cases s;cases t;simp_all
 rw[decide_eq_true e]
variable{k:Int}
theorem c76{ts:List In}(hk0:0≤k)(hk1:k+cnt nIn ts≤1073741824):MQ h1 h2 21 [.c (.rs 0 0 ts.length),eI k] [(0,fd ts)] (fM (eI (k+cnt nIn ts)) [(0,fd (aL lr nIn k ts))]):=by
 refine jH 27 [0] h1 h2 Tryz.func21 Z fun O hF=>?_
 refine e7 0 Z (fun hB=>?_)
 have hl:ts.length≤L:=by simpa[B.fact]using hB.1
 refine af (js Z (jn (ag (af (js Z (jn (ap (av (X:=Nat) (fun i=>⟨[(0,.c (.rs 0 0 ts.length)),(1,eI (k+cnt nIn (ts.take i))),(5,eI i)],[(0,fd (mk lr nIn k i ts))]⟩) (fun i=>i≤ts.length) (fun i=>ts.length-i) 0 (Ent.to ⟨Z,by simp[bk,ah,cnt],Z,ao⟩ (by simp[hY])) ?_ (fun i hi=>?_)))))))))
 exact cN _
 refine ag (af (ac Z ?_))
 first|refine db Z ?_|refine js Z ?_|refine be Z Z ?_
 refine js Z (jf [9,0,1,5] Z (jn (ak Z (fun z9=>?_) (fun z9=>?_))))
 try simp only[aK]at z9
 refine ae (ag (ap (af (aZ Z ?_))))
 first|refine kB Z Z ?_|refine be Z Z ?_
 refine js Z (jf [16,14,9,0,1,5] Z ?_)
 obtain⟨K,hK⟩: ∃K,K=k+(cnt nIn (ts.take i):Int):=⟨_,rfl⟩
 rw[←hK]
 have hcs:=dT (sz:=nIn) (show i<ts.length by omega)
 have hcl:=gk (sz:=nIn) (l:=ts) (i:=i+1)
 have hg:=iq (f:=lr) (sz:=nIn) (k:=k) (show i<ts.length by omega)
 have hs:=fP (f:=lr) (sz:=nIn) (k:=k) (show i<ts.length by omega)
 rw[←getD_lt (show i<ts.length by omega)]at hcs hg hs
 obtain⟨t,ht⟩: ∃t,t=ts.getD i default:=⟨_,rfl⟩
 rw[←ht]at hcs hg hs
 rw[←hK]at hs
 simp only[nIn]at hcs
 obtain⟨R,hR⟩: ∃R,R=(mk lr nIn k i ts).map In.cells:=⟨_,rfl⟩
 have hRl:i<R.length:=by rw[hR,bl,eV];omega
 have hRi:R[i]? = some t.cells:=by rw[hR,List.getElem?_map,hg];rfl
 have hRn:R.set i (lr K t).cells=(mk lr nIn k (i+1) ts).map In.cells:=by rw[hR,←hs,List.map_set]
 have e0:fd (mk lr nIn k i ts)= .row true 2 (R.set i t.cells):=by rw[eU hRi,hR]
 rw[e0]
 refine bU (cd (ex:=[.int .i64 t.op,.int .i64 t.a]) (xs':=R.set i [.int .i64 K,.int .i64 t.a]) O Z Z Z Z Z Z Z Z Z Z Z Z Z Z (by simp[hRl]) (by simp)) Z (aI ?_)
 refine jf [9,0,1,5] Z (bq (js Z ?_))
 first|refine ji Z ?_|refine be Z Z ?_
 refine js Z (jf [1,9,0,5] Z (bq (aZ Z ?_)))
 first|refine kB Z Z ?_|refine be Z Z ?_
 refine js Z (jf [23,21,1,9,0,5] Z (bU (cd (ex:=[.int .i64 K,.int .i64 t.a]) (xs':=R.set i [.int .i64 K,.int .i64 (K+1)]) O Z Z Z Z Z Z Z Z Z Z Z Z Z Z (by simp[hRl]) (by simp)) Z (aI ?_)))
 refine jf [1,9,0,5] Z (jn (aa (js Z ?_)))
 first|refine ji Z ?_|refine be Z Z ?_
 refine js Z (jf [1,9,0,5] Z (jn (aa (js Z ?_))))
 first|refine ji Z ?_|refine be Z Z ?_
 refine js Z (jf [5,1,9,0] Z (jn ?_))
 refine⟨i+1,Ent.to ⟨Z,?_,Z,ao⟩ (by rw[fd,←hRn]),by omega,by omega⟩
 rw[hcs]
 exact congrArg (fun z=>some (eI z)) (by omega)
 try simp only[aK]at z9
 refine aR (af (ac Z (jr ?_)))
 refine aw Z ?_
 obtain rfl:i=ts.length:=by omega
 rw[jX (bH _),List.take_length]
 exact⟨Z,Z⟩
theorem c77{ts:List Pt}(hk0:0≤k)(hk1:k+cnt nP ts≤1073741824):MQ h1 h2 22 [.c (.rs 0 0 ts.length),eI k] [(0,gW ts)] (fM (eI (k+cnt nP ts)) [(0,gW (aL mP nP k ts))]):=by
 refine jH 27 [0] h1 h2 Tryz.func22 Z fun O hF=>?_
 refine e7 0 Z (fun hB=>?_)
 have hl:ts.length≤L:=by simpa[B.fact]using hB.1
 refine af (js Z (jn (ag (af (js Z (jn (ap (av (X:=Nat) (fun i=>⟨[(0,.c (.rs 0 0 ts.length)),(1,eI (k+cnt nP (ts.take i))),(5,eI i)],[(0,gW (mk mP nP k i ts))]⟩) (fun i=>i≤ts.length) (fun i=>ts.length-i) 0 (Ent.to ⟨Z,by simp[bk,ah,cnt],Z,ao⟩ (by simp[hY])) ?_ (fun i hi=>?_)))))))))
 exact cN _
 refine ag (af (ac Z ?_))
 first|refine db Z ?_|refine js Z ?_|refine be Z Z ?_
 refine js Z (jf [9,0,1,5] Z (jn (ak Z (fun z9=>?_) (fun z9=>?_))))
 try simp only[aK]at z9
 refine ae (ag (ap (af (aZ Z ?_))))
 first|refine kB Z Z ?_|refine be Z Z ?_
 refine js Z (jf [16,14,9,0,1,5] Z ?_)
 obtain⟨K,hK⟩: ∃K,K=k+(cnt nP (ts.take i):Int):=⟨_,rfl⟩
 rw[←hK]
 have hcs:=dT (sz:=nP) (show i<ts.length by omega)
 have hcl:=gk (sz:=nP) (l:=ts) (i:=i+1)
 have hg:=iq (f:=mP) (sz:=nP) (k:=k) (show i<ts.length by omega)
 have hs:=fP (f:=mP) (sz:=nP) (k:=k) (show i<ts.length by omega)
 rw[←getD_lt (show i<ts.length by omega)]at hcs hg hs
 obtain⟨t,ht⟩: ∃t,t=ts.getD i default:=⟨_,rfl⟩
 rw[←ht]at hcs hg hs
 rw[←hK]at hs
 simp only[nP]at hcs
 obtain⟨R,hR⟩: ∃R,R=(mk mP nP k i ts).map Pt.cells:=⟨_,rfl⟩
 have hRl:i<R.length:=by rw[hR,bl,eV];omega
 have hRi:R[i]? = some t.cells:=by rw[hR,List.getElem?_map,hg];rfl
 have hRn:R.set i (mP K t).cells=(mk mP nP k (i+1) ts).map Pt.cells:=by rw[hR,←hs,List.map_set]
 have e0:gW (mk mP nP k i ts)= .row true 2 (R.set i t.cells):=by rw[eU hRi,hR]
 rw[e0]
 refine bU (cd (ex:=[.int .i64 t.k,nO t.fs]) (xs':=R.set i [.int .i64 K,nO t.fs]) O Z Z Z Z Z Z Z Z Z Z Z Z Z Z (by simp[hRl]) (by simp)) Z (aI ?_)
 refine jf [9,0,1,5] Z (bq (js Z ?_))
 first|refine ji Z ?_|refine be Z Z ?_
 refine js Z (jf [1,9,0,5] Z (jn (aa (ac Z ?_))))
 first|refine kB Z Z ?_|refine be Z Z ?_
 refine js Z (ab (bo O (ex:=[.int .i64 K,nO t.fs]) Z Z Z Z (by simp[hRl]) Z) Z (js Z (jf [24,23,1,9,0,5] Z (iZ O (l:=0) (j:=1) (z:=2) (ex:=[.int .i64 K,nO t.fs]) (ys:=(t.fs).map Tm.cells) (ys':=(aL mT nT (K+1) t.fs).map Tm.cells) (xs':=R.set i [.int .i64 K,nO (aL mT nT (K+1) t.fs)]) Z Z Z Z (.rp (.d Z .nil)) (.rp (.d Z .nil)) Z (by simp[hRl]) Z (uf (ts:=t.fs) (k:=(K+1)) h1 h2 (by omega) (by omega)).1 (fun _=>by rw[bl];exact uf (ts:=t.fs) h1 h2 (by omega) (by omega)) (fun hys=>?_) Z (by simp[ax]) Z Z Z Z (by simp) ?_))))
 have hy:t.fs=[]:=by simpa using hys
 rw[hy]
 exact(uU h1 h2 (k:=(K+1))).plain (by simp[cnt,hy])
 refine aI ?_
 refine js Z (jf [1,9,0,5] Z (jn (aa (js Z ?_))))
 first|refine ji Z ?_|refine be Z Z ?_
 refine js Z (jf [5,1,9,0] Z (jn ?_))
 refine⟨i+1,Ent.to ⟨Z,?_,Z,ao⟩ (by rw[gW,←hRn]),by omega,by omega⟩
 rw[hcs]
 exact congrArg (fun z=>some (eI z)) (by omega)
 try simp only[aK]at z9
 refine aR (af (ac Z (jr ?_)))
 refine aw Z ?_
 obtain rfl:i=ts.length:=by omega
 rw[jX (bH _),List.take_length]
 exact⟨Z,Z⟩
abbrev rj(a:An):List (Nat×B):=[(0,dc a.pre),(1,dc a.post),(2,fd a.code),(3,gW a.pts)]
abbrev rC(a:An):A:=.agg [.rs 0 0 a.pre.length,.rs 1 0 a.post.length,.rs 2 0 a.code.length,.rs 3 0 a.pts.length]
def vr(k:Int)(a:An):An:=⟨aL mT nT k a.pre,aL mT nT (k+cnt nT a.pre) a.post,aL lr nIn (k+cnt nT a.pre+cnt nT a.post) a.code,aL mP nP (k+cnt nT a.pre+cnt nT a.post+cnt nIn a.code) a.pts⟩
variable{a:An}
theorem vw(hk0:0≤k)(hk1:k+cnt nT a.pre+cnt nT a.post+cnt nIn a.code+cnt nP a.pts≤1073741824):MQ h1 h2 7 [rC a,eI k] (rj a) (fM (eI (k+cnt nT a.pre+cnt nT a.post+cnt nIn a.code+cnt nP a.pts)) (rj (vr k a))):=by
 refine k8 500 Z (jH 22 [500,501,502,503] h1 h2 Tryz.func7 Z fun O hF=>?_)
 refine af (jx Z (js Z (bq (aZ Z (jf [7,6,4,2,0,1] Z (ca O [500] (bin:=[dc a.pre]) Z Z Z Z (uf (ts:=a.pre) (k:=k) h1 h2 hk0 (by omega)) Z Z Z Z Z Z (B0:=9000) Z Z (aI ?_)))))))
 refine js Z (jf [1,4,2,0] Z (bq (aZ Z (jf [11,10,1,4,2,0] Z (ca O [501] (bin:=[dc a.post]) Z Z Z Z (uf (ts:=a.post) (k:=k+cnt nT a.pre) h1 h2 (by omega) (by omega)) Z Z Z Z Z Z (B0:=13000) Z Z (aI ?_))))))
 refine js Z (jf [1,4,2,0] Z (bq (aZ Z (jf [15,14,1,4,2,0] Z (ca O [502] (bin:=[fd a.code]) Z Z Z Z (c76 (ts:=a.code) (k:=k+cnt nT a.pre+cnt nT a.post) h1 h2 (by omega) (by omega)) Z Z Z Z Z Z (B0:=17000) Z Z (aI ?_))))))
 refine js Z (jf [1,4,2,0] Z (bq (aZ Z (jf [19,18,1,4,2,0] Z (ca O [503] (bin:=[gW a.pts]) Z Z Z Z (c77 (ts:=a.pts) (k:=k+cnt nT a.pre+cnt nT a.post+cnt nIn a.code) h1 h2 (by omega) (by omega)) Z Z Z Z Z Z (B0:=21000) Z Z (aI ?_))))))
 refine js Z (jf [1,4,2,0] Z (bq (ac Z (jr ?_))))
 refine⟨.inl Z,_,aD [500,501,502,503] Z Z (e':=[(4,eI (k+cnt nT a.pre+cnt nT a.post+cnt nIn a.code+cnt nP a.pts))]) ⟨Z,ao⟩ Z,_,Z,Z,Z⟩
theorem c78{ts:List In}(hk0:0≤k)(hk1:k+cnt nIn ts≤1073741824):MQ h1 h2 24 [i8 (aL lr nIn k ts),eI k] [] (Plain (eI (k+cnt nIn ts))):=by
 refine am ?_ Z
 refine jB 31 h1 h2 Tryz.func24 Z fun O hF=>?_
 have hlm:=ax (f:=lr) (sz:=nIn) (k:=k) (l:=ts)
 have hl:(aL lr nIn k ts).length≤L:=by simpa[As.fact,A.fact,M.fact,D.fact,Ds.fact]using hF.1.1
 refine af (js Z (jn (ag (af (js Z (jn (ap (av (X:=Nat) (fun i=>⟨[(0,i8 (aL lr nIn k ts)),(1,eI (k+cnt nIn (ts.take i))),(5,eI i)],[]⟩) (fun i=>i≤ts.length) (fun i=>ts.length-i) 0 (Ent.env ⟨Z,by simp[bk,ah,cnt],Z,ao⟩) ?_ (fun i hi=>?_)))))))))
 exact cN _
 refine ag (af (ac Z ?_))
 first|refine db Z ?_|refine js Z ?_|refine be Z Z ?_
 refine js Z (jf [9,0,1,5] Z (jn (ak Z (fun z9=>?_) (fun z9=>?_))))
 refine ae (ag (ap (ag (af ?_))))
 have hil:i<ts.length:=by have h9:=bJ z9;omega
 have hg:=ee (f:=lr) (sz:=nIn) (k:=k) hil
 have hcs:=dT (sz:=nIn) hil
 have hcl:=gk (sz:=nIn) (l:=ts) (i:=i+1)
 rw[←getD_lt hil]at hcs
 obtain⟨t,ht⟩: ∃t,t=ts.getD i default:=⟨_,rfl⟩
 rw[←ht]at hg hcs
 simp only[nIn]at hcs
 obtain⟨K,hK⟩: ∃K,K=k+(cnt nIn (ts.take i):Int):=⟨_,rfl⟩
 rw[←hK]at hg ⊢
 refine ac Z (ab ((aH O Z Z Z Z Z Z Z Z (dg (by omega))).cast (v':=ptr (In.cells (lr K t))) (by rw[hg])) Z (bn Z (jf [18,9,0,1,5] Z (jn (ak Z (fun z18=>?_) (fun z18=>?_))))))
 exact absurd z18 (by simp)
 refine ae (af (js Z ?_))
 first|refine ji Z ?_|refine be Z Z ?_
 refine js Z (jf [1,18,9,0,5] Z (jn (ag (af (ac Z (ab ((aH O Z Z Z Z Z Z Z Z (dg (by omega))).cast (v':=ptr (In.cells (lr K t))) (by rw[hg])) Z (bn Z (jf [27,1,18,9,0,5] Z (jn (ak Z (fun z27=>?_) (fun z27=>?_)))))))))))
 exact absurd z27 (by simp)
 refine ae (aa (js Z ?_))
 first|refine ji Z ?_|refine be Z Z ?_
 refine js Z (jf [1,27,18,9,0,5] Z (jn (aa (js Z ?_))))
 first|refine ji Z ?_|refine be Z Z ?_
 refine js Z (jf [5,1,27,18,9,0] Z (jn ?_))
 refine⟨i+1,Ent.env ⟨Z,?_,Z,ao⟩,by omega,by omega⟩
 rw[hcs]
 exact congrArg (fun z=>some (eI z)) (by omega)
 refine aR (af (ac Z (jr ?_)))
 refine aw Z ?_
 have h9:=ck z9
 obtain rfl:i=ts.length:=by omega
 rw[List.take_length]
theorem c79{ts:List Pt}(hk0:0≤k)(hk1:k+cnt nP ts≤1073741824):MQ h1 h2 25 [nf (aL mP nP k ts),eI k] [] (Plain (eI (k+cnt nP ts))):=by
 refine am ?_ Z
 refine jB 31 h1 h2 Tryz.func25 Z fun O hF=>?_
 have hlm:=ax (f:=mP) (sz:=nP) (k:=k) (l:=ts)
 have hl:(aL mP nP k ts).length≤L:=by simpa[As.fact,A.fact,M.fact,D.fact,Ds.fact]using hF.1.1
 refine af (js Z (jn (ag (af (js Z (jn (ap (av (X:=Nat) (fun i=>⟨[(0,nf (aL mP nP k ts)),(1,eI (k+cnt nP (ts.take i))),(5,eI i)],[]⟩) (fun i=>i≤ts.length) (fun i=>ts.length-i) 0 (Ent.env ⟨Z,by simp[bk,ah,cnt],Z,ao⟩) ?_ (fun i hi=>?_)))))))))
 exact cN _
 refine ag (af (ac Z ?_))
 first|refine db Z ?_|refine js Z ?_|refine be Z Z ?_
 refine js Z (jf [9,0,1,5] Z (jn (ak Z (fun z9=>?_) (fun z9=>?_))))
 refine ae (ag (ap (ag (af ?_))))
 have hil:i<ts.length:=by have h9:=bJ z9;omega
 have hg:=ee (f:=mP) (sz:=nP) (k:=k) hil
 have hcs:=dT (sz:=nP) hil
 have hcl:=gk (sz:=nP) (l:=ts) (i:=i+1)
 rw[←getD_lt hil]at hcs
 obtain⟨t,ht⟩: ∃t,t=ts.getD i default:=⟨_,rfl⟩
 rw[←ht]at hg hcs
 simp only[nP]at hcs
 obtain⟨K,hK⟩: ∃K,K=k+(cnt nP (ts.take i):Int):=⟨_,rfl⟩
 rw[←hK]at hg ⊢
 refine ac Z (ab ((aH O Z Z Z Z Z Z Z Z (dg (by omega))).cast (v':=ptr (Pt.cells (mP K t))) (by rw[hg])) Z (bn Z (jf [18,9,0,1,5] Z (jn (ak Z (fun z18=>?_) (fun z18=>?_))))))
 exact absurd z18 (by simp)
 refine ae (af (js Z ?_))
 first|refine ji Z ?_|refine be Z Z ?_
 refine js Z (jf [1,18,9,0,5] Z (bq (ac Z (ab ((aH O Z Z Z Z Z Z Z Z (dg (by omega))).cast (v':=ptr (Pt.cells (mP K t))) (by rw[hg])) Z (aZ Z (jf [26,25,1,18,9,0,5] Z (aW Z (ur (ts:=t.fs) (k:=K+1) h1 h2 (by omega) (by omega)) 28000 Z (js Z (jf [1,18,9,0,5] Z (bq (ac Z (jn (ak Z (fun z29=>?_) (fun z29=>?_))))))))))))))
 exact absurd (bJ z29) (by omega)
 refine ae (aa (js Z ?_))
 first|refine ji Z ?_|refine be Z Z ?_
 refine js Z (jf [5,29,28,1,18,9,0] Z (jn ?_))
 refine⟨i+1,Ent.env ⟨Z,?_,Z,ao⟩,by omega,by omega⟩
 rw[hcs]
 exact congrArg (fun z=>some (eI z)) (by omega)
 refine aR (af (ac Z (jr ?_)))
 refine aw Z ?_
 have h9:=ck z9
 obtain rfl:i=ts.length:=by omega
 rw[List.take_length]
theorem ug(hk0:0≤k)(hk1:k+cnt nT a.pre+cnt nT a.post+cnt nIn a.code+cnt nP a.pts≤1073741824):MQ h1 h2 8 [n0 (vr k a),eI k] [] (Plain (eI (k+cnt nT a.pre+cnt nT a.post+cnt nIn a.code+cnt nP a.pts))):=by
 refine am ?_ Z
 refine jB 30 h1 h2 Tryz.func8 Z fun O hF=>?_
 refine af (jx Z (js Z (bq (aZ Z (jf [7,6,4,2,0,1] Z (aW Z (ur (ts:=a.pre) (k:=k) h1 h2 hk0 (by omega)) 9000 Z (js Z (jf [1,4,2,0] Z (jn (ag (af (ac Z (jn (ak Z (fun z10=>?_) (fun z10=>?_)))))))))))))))
 exact absurd (bJ z10) (by omega)
 refine ae (af (aZ Z (jf [13,12,9,1,4,2,0] Z (aW Z (ur (ts:=a.post) (k:=k+cnt nT a.pre) h1 h2 (by omega) (by omega)) 15000 Z (js Z (jf [1,9,4,2,0] Z (jn (ag (af (ac Z (jn (ak Z (fun z16=>?_) (fun z16=>?_)))))))))))))
 exact absurd (bJ z16) (by omega)
 refine ae (af (aZ Z (jf [19,18,15,1,9,4,2,0] Z (aW Z (c78 (ts:=a.code) (k:=k+cnt nT a.pre+cnt nT a.post) h1 h2 (by omega) (by omega)) 21000 Z (js Z (jf [1,15,9,4,2,0] Z (jn (ag (af (ac Z (jn (ak Z (fun z22=>?_) (fun z22=>?_)))))))))))))
 exact absurd (bJ z22) (by omega)
 refine ae (af (aZ Z (jf [25,24,21,1,15,9,4,2,0] Z (aW Z (c79 (ts:=a.pts) (k:=k+cnt nT a.pre+cnt nT a.post+cnt nIn a.code) h1 h2 (by omega) (by omega)) 27000 Z (js Z (jf [1,21,15,9,4,2,0] Z (jn (ag (af (ac Z (jn (ak Z (fun z28=>?_) (fun z28=>?_)))))))))))))
 exact absurd (bJ z28) (by omega)
 refine ae (af (ac Z (jf [4,27,1,21,15,9,2,0] Z (jr ?_))))
 refine aw Z ?_
 rfl
theorem rv{a:Bool}(h:(!a)=true):a=false:=by simpa using h
theorem ru{a:Bool}(h:(!a)=false):a=true:=by simpa using h
theorem qO{α:Type}{p:α→Bool}{xs:List α}(j:Nat)(hj:j<xs.length)(h:p xs[j]=true):xs.any p=true:=List.any_eq_true.2 ⟨xs[j],List.getElem_mem _,h⟩
theorem sm{α:Type}{p:α→Bool}{xs:List α}(h: ∀j (hj:j<xs.length),p xs[j]=false):xs.any p=false:=List.any_eq_false.2 fun x hx=>by
 obtain⟨j,hj,rfl⟩:=List.mem_iff_getElem.1 hx
 rw[h j hj];decide
theorem qZ(t:Tm):(bif !t.ok then true else decide ((4:Int)<t.xs.length))= !t.term:=by
 unfold Tm.term
 cases t.ok
 rfl
 by_cases h:(4:Int)<t.xs.length
 rw[decide_eq_true h,decide_eq_false (by omega)];rfl
 rw[decide_eq_false h,decide_eq_true (by omega)];rfl
variable{x:In}
theorem rA:MQ h1 h2 59 [.agg (x.cells.map .d)] [] (Plain (eB (aC x))):=by
 refine am ?_ Z
 refine jB 37 h1 h2 Tryz.func59 Z fun O hF=>?_
 refine af (jx Z (js Z (jn (ag (af (ac Z (jn (ap (ag (af (ac Z (jn (ak Z (fun z5=>?_) (fun z5=>?_))))))))))))))
 try simp only[aK]at z5
 refine ae (ak Z (fun z5=>?_) (fun z5=>?_))
 try simp only[aK]at z5
 refine af (ac Z (aW Z (pZ h1 h2) 11000 Z (js Z (jr ?_))))
 refine aw Z ?_
 unfold aC da;simp_all
 try simp only[aK]at z5
 contradiction
 try simp only[aK]at z5
 refine aa (ac Z (jn (ak Z (fun z5=>?_) (fun z5=>?_))))
 try simp only[aK]at z5
 refine af (ac Z (aW Z (pZ h1 h2) 11000 Z (js Z (jr ?_))))
 refine aw Z ?_
 unfold aC da;simp_all
 try simp only[aK]at z5
 refine ag (af (ac Z (jn (ak Z (fun z11=>?_) (fun z11=>?_)))))
 try simp only[aK]at z11
 refine ae (ak Z (fun z11=>?_) (fun z11=>?_))
 try simp only[aK]at z11
 refine af (ac Z (aW Z (nV h1 h2) 17000 Z (js Z (jr ?_))))
 refine aw Z ?_
 unfold aC da;simp_all
 try simp only[aK]at z11
 contradiction
 try simp only[aK]at z11
 refine aa (ac Z (jn (ak Z (fun z11=>?_) (fun z11=>?_))))
 try simp only[aK]at z11
 refine af (ac Z (aW Z (nV h1 h2) 17000 Z (js Z (jr ?_))))
 refine aw Z ?_
 unfold aC da;simp_all
 try simp only[aK]at z11
 refine ag (af (ac Z (jn (ak Z (fun z17=>?_) (fun z17=>?_)))))
 try simp only[aK]at z17
 refine ae (ak Z (fun z17=>?_) (fun z17=>?_))
 try simp only[aK]at z17
 refine af (ac Z (aW Z (nV h1 h2) 23000 Z (js Z (jr ?_))))
 refine aw Z ?_
 unfold aC da;simp_all
 try simp only[aK]at z17
 contradiction
 try simp only[aK]at z17
 refine aa (ac Z (jn (ak Z (fun z17=>?_) (fun z17=>?_))))
 try simp only[aK]at z17
 refine af (ac Z (aW Z (nV h1 h2) 23000 Z (js Z (jr ?_))))
 refine aw Z ?_
 unfold aC da;simp_all
 try simp only[aK]at z17
 refine af (ac Z (jn (ak Z (fun z23=>?_) (fun z23=>?_))))
 try simp only[aK]at z23
 refine af (ac Z (aW Z (nV h1 h2) 28000 Z (js Z (jr ?_))))
 refine aw Z ?_
 unfold aC da;simp_all
 try simp only[aK]at z23
 refine ag (af (ac Z (jn (ak Z (fun z28=>?_) (fun z28=>?_)))))
 try simp only[aK]at z28
 refine ae (ak Z (fun z28=>?_) (fun z28=>?_))
 try simp only[aK]at z28
 refine af (bn Z (jr ?_))
 refine aw Z ?_
 unfold aC da;simp_all
 try simp only[aK]at z28
 contradiction
 try simp only[aK]at z28
 refine af (ac Z (jn (ak Z (fun z28=>?_) (fun z28=>?_))))
 try simp only[aK]at z28
 refine ae (ak Z (fun z28=>?_) (fun z28=>?_))
 try simp only[aK]at z28
 refine af (bn Z (jr ?_))
 refine aw Z ?_
 unfold aC da;simp_all
 try simp only[aK]at z28
 contradiction
 try simp only[aK]at z28
 refine af (ac Z (jn (ak Z (fun z28=>?_) (fun z28=>?_))))
 try simp only[aK]at z28
 refine ae (ak Z (fun z28=>?_) (fun z28=>?_))
 try simp only[aK]at z28
 refine af (bn Z (jr ?_))
 refine aw Z ?_
 unfold aC da;simp_all
 try simp only[aK]at z28
 contradiction
 try simp only[aK]at z28
 refine af (ac Z (jn (ak Z (fun z28=>?_) (fun z28=>?_))))
 try simp only[aK]at z28
 refine ae (ak Z (fun z28=>?_) (fun z28=>?_))
 try simp only[aK]at z28
 refine af (bn Z (jr ?_))
 refine aw Z ?_
 unfold aC da;simp_all
 try simp only[aK]at z28
 contradiction
 try simp only[aK]at z28
 refine aa (ac Z (jn (ak Z (fun z28=>?_) (fun z28=>?_))))
 try simp only[aK]at z28
 refine af (bn Z (jr ?_))
 refine aw Z ?_
 unfold aC da;simp_all
 try simp only[aK]at z28
 refine ae (af (js Z (jr ?_)))
 refine aw Z ?_
 unfold aC da;simp_all
variable{c:List In}
theorem vj:MQ h1 h2 61 [i8 c] [] (Plain (eB (dD c))):=by
 refine am ?_ Z
 refine jB 19 h1 h2 Tryz.func61 Z fun O hF=>?_
 have hl:c.length≤L:=by simpa[As.fact,A.fact,M.fact,D.fact,Ds.fact]using hF.1.1
 refine af (js Z (jn (ag (af (js Z (jn (ap (av (X:=Nat) (fun i=>⟨[(0,i8 c),(3,eI i)],[]⟩) (fun i=>i≤c.length∧∀j (h:j<c.length),j<i→aC c[j]=true) (fun i=>c.length-i) 0 (Ent.env ⟨Z,Z,ao⟩) ?_ (fun i hi=>?_)))))))))
 exact⟨cN _,fun j h hj=>absurd hj (Nat.not_lt_zero j)⟩
 refine ag (af (ac Z ?_))
 first|refine db Z ?_|refine js Z ?_|refine be Z Z ?_
 refine js Z (jn (ak Z (fun z7=>?_) (fun z7=>?_)))
 try simp only[aK]at z7
 refine ae (ag (ap (af (ac Z ?_))))
 first|refine kB Z Z ?_|refine be Z Z ?_
 refine js Z (aW Z (rA h1 h2) 15000 Z (js Z (jn (ak Z (fun z15=>?_) (fun z15=>?_)))))
 try simp only[aK]at z15
 refine af (js Z (jr ?_))
 refine aw Z ?_
 rw[Int.toNat_natCast,getD_lt (by omega)]at z15
 rw[dD,fU i (by omega) z15,Bool.false_and]
 try simp only[aK]at z15
 refine ae (aa (js Z ?_))
 first|refine ji Z ?_|refine be Z Z ?_
 refine js Z (jn ?_)
 refine⟨i+1,Ent.env ⟨Z,Z,ao⟩,⟨by omega,fun j h hj=>?_⟩,by omega⟩
 by_cases e:j=i
 subst e;rw[Int.toNat_natCast,getD_lt h]at z15;exact z15
 exact hi.2 j h (by omega)
 try simp only[aK]at z7
 refine aR (af (js Z ?_))
 first|refine db Z ?_|refine js Z ?_|refine be Z Z ?_
 refine aW Z (nV h1 h2) 19000 Z (js Z (jr ?_))
 refine aw Z ?_
 rw[dD,ix (fun j hj=>hi.2 j hj (by omega)),Bool.true_and]
 rfl
variable{ts:List Tm}
theorem oc:MQ h1 h2 62 [ff ts] [] (Plain (eB (terms ts 6))):=by
 refine am ?_ Z
 refine jB 27 h1 h2 Tryz.func62 Z fun O hF=>?_
 have hl:ts.length≤L:=by simpa[As.fact,A.fact,M.fact,D.fact,Ds.fact]using hF.1.1
 refine af (js Z (jn (ag (af (js Z (jn (ap (av (X:=Nat) (fun i=>⟨[(0,ff ts),(3,eI i)],[]⟩) (fun i=>i≤ts.length∧∀j (h:j<ts.length),j<i→Tm.term ts[j]=true) (fun i=>ts.length-i) 0 (Ent.env ⟨Z,Z,ao⟩) ?_ (fun i hi=>?_)))))))))
 exact⟨cN _,fun j h hj=>absurd hj (Nat.not_lt_zero j)⟩
 refine ag (af (ac Z ?_))
 first|refine db Z ?_|refine js Z ?_|refine be Z Z ?_
 refine js Z (jf [7,0,3] Z (jn (ak Z (fun z7=>?_) (fun z7=>?_))))
 refine ae (ag (ap (af ?_)))
 have hil:i<ts.length:=by have:=bJ z7;omega
 refine ac Z ?_
 first|refine qQ Z Z ?_|refine kB Z Z ?_|refine be Z Z ?_
 refine jf [12,7,0,3] Z (aW Z (s4 (t:=ts.getD i default) h1 h2) 14000 Z (ac Z (jf [15,7,0,3] Z (ay 7 Z Z Z (fun hx=>au hx Z (au hx Z (bE hx (vN Z) Z (au hx Z (au hx Z (bE hx (bN O Z Z Z Z Z Z Z Z) Z (au hx Z (AN.nil)))))))) Z Z ?_))))
 first|refine ab (aq O Z Z Z Z Z) Z ?_|refine ab (Val.pickB O Z Z Z Z Z) Z ?_|refine ab (aj O Z Z Z Z Z) Z ?_
 refine jf [23,7,0,3] Z (jn (ak Z (fun z23=>?_) (fun z23=>?_)))
 refine af (js Z (jr ?_))
 refine aw Z ?_
 have h9:=rv ((qZ _).symm.trans z23)
 rw[getD_lt hil]at h9
 rw[terms,fU i hil h9,Bool.false_and]
 refine ae (aa (js Z ?_))
 first|refine ji Z ?_|refine be Z Z ?_
 refine js Z (jf [3,23,7,0] Z (jn ?_))
 refine⟨i+1,Ent.env ⟨Z,Z,ao⟩,⟨by omega,fun j h hj=>?_⟩,by omega⟩
 by_cases e:j=i
 subst e;rw[←getD_lt h];exact ru ((qZ _).symm.trans z23)
 exact hi.2 j h (by omega)
 refine aR (af (js Z ?_))
 first|refine db Z ?_|refine js Z ?_|refine be Z Z ?_
 refine ac Z (jf [2,7,0,3] Z (jr ?_))
 refine aw Z ?_
 have h9:=ck z7
 rw[terms,ix (fun j hj=>hi.2 j hj (by omega)),Bool.true_and]
theorem vn{a:An}{i:Nat}:(bif (bif !(decide (0≤(a.pts.getD i default).k)&&decide ((a.pts.getD i default).k≤(a.code.length:Int)-1))then true else !terms (a.pts.getD i default).fs 6)then true else(bif decide ((0:Int)<i)then decide ((a.pts.getD i default).k≤(a.pts.getD (i-1) default).k)else false))= !nS a.code.length a.pts i:=by
 unfold nS da
 rw[show decide ((0:Int)<i)=decide (0<i)from decide_eq_decide.2 (by omega)]
 cases decide (0≤(a.pts.getD i default).k)<;>cases decide ((a.pts.getD i default).k≤(a.code.length:Int)-1)<;>cases terms (a.pts.getD i default).fs 6<;>cases decide (0<i)<;>cases decide ((a.pts.getD i default).k≤(a.pts.getD (i-1) default).k)<;>rfl
theorem oZ{a:An}(h:(bif (bif (bif !dD a.code then true else !terms a.pre 6)then true else !terms a.post 6)then true else decide ((8:Int)<a.pts.length))=true):annB a=false:=by
 unfold annB
 rw[show decide (a.pts.length≤8)= !decide ((8:Int)<a.pts.length) by rw[←decide_not];exact decide_eq_decide.2 (by omega)]
 generalize dD a.code=b1 at h ⊢
 generalize terms a.pre 6=b2 at h ⊢
 generalize terms a.post 6=b3 at h ⊢
 generalize decide ((8:Int)<a.pts.length)=b at h ⊢
 cases b1<;>cases b2<;>cases b3<;>cases b<;>simp_all
theorem fT{a:An}(h:(bif (bif (bif !dD a.code then true else !terms a.pre 6)then true else !terms a.post 6)then true else decide ((8:Int)<a.pts.length))=false):annB a=nb a.code.length a.pts∧a.pts.length≤8∧dD a.code=true:=by
 unfold annB
 rw[show decide (a.pts.length≤8)= !decide ((8:Int)<a.pts.length) by rw[←decide_not];exact decide_eq_decide.2 (by omega)]
 generalize dD a.code=b1 at h ⊢
 generalize terms a.pre 6=b2 at h ⊢
 generalize terms a.post 6=b3 at h ⊢
 by_cases hb:(8:Int)<a.pts.length
 rw[decide_eq_true hb]at h
 cases b1<;>cases b2<;>cases b3<;>cases h
 rw[decide_eq_false hb]at h ⊢
 have h9:a.pts.length≤8:=by omega
 cases b1<;>cases b2<;>cases b3<;>simp_all
theorem nv{c:List In}(h:dD c=true):1≤c.length∧c.length≤80:=by
 simp only[dD,da,bh,decide_eq_true_eq]at h;omega
theorem c67:MQ h1 h2 28 [ptr a.data] [] (Plain (eB (annB a))):=by
 refine am ?_ Z
 refine jB 90 h1 h2 Tryz.func28 Z fun O hF=>?_
 have hl:a.code.length≤L:=by simpa[As.fact,A.fact,M.fact,D.fact,Ds.fact]using hF.1.2.2.1.1
 have hlp:a.pts.length≤L:=by simpa[As.fact,A.fact,M.fact,D.fact,Ds.fact]using hF.1.2.2.2.1.1
 refine af (js Z (jn (ag (af (bn Z (cS [(8,_),(2,_),(0,_)] [] ⟨Z,Z,Z,ao⟩ Z (aW Z (vj h1 h2) 10000 Z (ac Z (cS [(11,_),(2,_),(0,_)] [] ⟨Z,Z,Z,ao⟩ Z (ay 6 Z Z Z (fun hx=>au hx Z (au hx Z (au hx Z (au hx Z (bD O hx Z Z Z Z (oc h1 h2) (al Z) Z Z Z Z Z Z Z (B0:=17000) Z (au hx Z (AN.nil))))))) Z Z ?_))))))))))
 first|refine ab (aq O Z Z Z Z Z) Z ?_|refine ab (Val.pickB O Z Z Z Z Z) Z ?_|refine ab (aj O Z Z Z Z Z) Z ?_
 refine js Z (cS [(19,_),(2,_),(0,_)] [] ⟨Z,Z,Z,ao⟩ Z (ay 6 Z Z Z (fun hx=>au hx Z (au hx Z (au hx Z (au hx Z (bD O hx Z Z Z Z (oc h1 h2) (al Z) Z Z Z Z Z Z Z (B0:=25000) Z (au hx Z (AN.nil))))))) Z Z ?_))
 first|refine ab (aq O Z Z Z Z Z) Z ?_|refine ab (Val.pickB O Z Z Z Z Z) Z ?_|refine ab (aj O Z Z Z Z Z) Z ?_
 refine js Z (cS [(27,_),(2,_),(0,_)] [] ⟨Z,Z,Z,ao⟩ Z (ay 6 Z Z Z (fun hx=>au hx Z (au hx Z (au hx Z (au hx Z (bE hx (bN O Z Z Z Z Z Z Z Z) Z (au hx Z (AN.nil))))))) Z Z ?_))
 first|refine ab (aq O Z Z Z Z Z) Z ?_|refine ab (Val.pickB O Z Z Z Z Z) Z ?_|refine ab (aj O Z Z Z Z Z) Z ?_
 refine jf [34,2,0] Z (jn (ak Z (fun z34=>?_) (fun z34=>?_)))
 refine af (js Z (jr ?_))
 refine aw Z ?_
 rw[oZ z34]
 refine ae (ag (af (js Z (jn (ap (av (X:=Nat) (fun i=>⟨[(0,ptr a.data),(3,eI i)],[]⟩) (fun i=>i≤a.pts.length∧∀j,j<i→nS a.code.length a.pts j=true) (fun i=>a.pts.length-i) 0 (Ent.env ⟨Z,Z,ao⟩) ?_ (fun i hi=>?_)))))))
 exact⟨cN _,fun j hj=>absurd hj (Nat.not_lt_zero j)⟩
 refine ag (af (bn Z (js Z ?_)))
 first|refine db Z ?_|refine js Z ?_|refine be Z Z ?_
 refine js Z (jf [41,0,3] Z (jn (ak Z (fun z41=>?_) (fun z41=>?_))))
 refine ae (ag (ap (af ?_)))
 have hil:i<a.pts.length:=by have:=bJ z41;omega
 refine bn Z (js Z ?_)
 first|refine qQ Z Z ?_|refine kB Z Z ?_|refine be Z Z ?_
 refine js Z (jf [4,41,0,3] Z (jn (ag (bu (F:=⟨[(89,eB (bif (bif !(decide (0≤(a.pts.getD i default).k)&&decide ((a.pts.getD i default).k≤(a.code.length:Int)-1))then true else !terms (a.pts.getD i default).fs 6)then true else(bif decide ((0:Int)<i)then decide ((a.pts.getD i default).k≤(a.pts.getD (i-1) default).k)else false))),(0,ptr a.data),(3,eI i)],[]⟩) ?_ ?_))))
 cases hb7:!(decide (0≤(a.pts.getD i default).k)&&decide ((a.pts.getD i default).k≤(a.code.length:Int)-1))with
 | true=>
  refine qR (_::_::_::_::_::_::_::_::_::_::_::_::_::_::_::_::_::_::_::_::_::_::_::_::_::_::_::_::_::_::_::_::_::_::_::_::_::_::_::_::[]) (bv::aU [0]::aU [0,1]::aU [0,1,2]::bv::aU [4]::aU [4,5]::aU [4,5,6]::aU (rg 4 4)::aU (rg 4 5)::pe (rg 0 10) 0::pn (rg 0 11) 1 1::pn (rg 0 12) 1 1::pn (rg 0 13) 0 1::pn (rg 0 14) 0 1::pn (rg 0 15) 0 1::pn (rg 0 16) 0 1::pn (rg 0 17) 0 1::pn (rg 0 18) 0 1::pn (rg 0 19) 1 1::pn (rg 0 20) 1 1::pn (rg 0 21) 0 1::pn (rg 0 22) 0 1::pn (rg 0 23) 0 1::pn (rg 0 24) 0 1::pn (rg 0 25) 0 1::pn (rg 0 26) 0 1::pn (rg 0 27) 0 1::pn (rg 0 24) 0 1::pn (rg 0 24++[28]) 0 1::pn (rg 0 30) 0 1::pn (rg 0 31) 0 1::pn (rg 0 32) 0 1::pn (rg 0 24) 0 1::pn (rg 0 24++[33]) 0 1::pn (rg 0 24++[33,34]) 0 1::pn (rg 0 24++[33,34,35]) 0 1::pn (rg 0 37) 0 1::pn (rg 0 38) 0 1::pn (rg 0 39) 1 1::[]) [10] [_,_] (kc Z (kc Z (kc Z (kc Z (kc Z (kc Z (kc Z (kc Z (ai (bN O Z Z Z Z Z Z Z Z) (ai (vF Z) (ai (aE O (B0:=61000) Z Z Z Z (nV h1 h2) (al Z) Z Z Z Z Z) (kc Z (ai ((V Z).cast (v':=eB true) (congrArg eB hb7)) (ai ⟨Z,Z⟩ (ai ⟨Z,Z⟩ (ai ⟨Z,Z⟩ (ai ⟨Z,Z⟩ (ai ⟨Z,Z⟩ (ai ⟨Z,Z⟩ (ai (cw O Z Z Z Z Z) (kc Z (ai ⟨Z,Z⟩ (ai ⟨Z,Z⟩ (ai ⟨Z,Z⟩ (ai ⟨Z,Z⟩ (ai ⟨Z,Z⟩ (ai ⟨Z,Z⟩ (ai ⟨Z,Z⟩ (ai ⟨Z,Z⟩ (ai ⟨Z,Z⟩ (ai ⟨Z,Z⟩ (ai ⟨Z,Z⟩ (ai ⟨Z,Z⟩ (ai ⟨Z,Z⟩ (ai ⟨Z,Z⟩ (ai ⟨Z,Z⟩ (ai ⟨Z,Z⟩ (ai ⟨Z,Z⟩ (ai ⟨Z,Z⟩ (ai (cw O Z Z Z Z Z) trivial)))))))))))))))))))))))))))))))))))))))) ?_
  exact⟨Z,Ent.env ⟨Z,Z,Z,ao⟩⟩
 | false=>
  cases hb7b:!terms (a.pts.getD i default).fs 6 with
  | true=>
   refine qR (_::_::_::_::_::_::_::_::_::_::_::_::_::_::_::_::_::_::_::_::_::_::_::_::_::_::_::_::_::_::_::_::_::_::_::_::_::_::_::_::[]) (bv::aU [0]::aU [0,1]::aU [0,1,2]::bv::aU [4]::aU [4,5]::aU [4,5,6]::aU (rg 4 4)::aU (rg 4 5)::pe (rg 0 10) 0::pn (rg 0 11) 1 1::pn (rg 0 12) 1 1::pn (rg 0 13) 1 1::pn (rg 0 14) 1 1::pn (rg 0 15) 1 1::pn (rg 0 16) 1 1::pe (rg 0 17) 1::pn (rg 0 18) 2 2::pn (rg 0 19) 2 2::pn (rg 0 20) 2 2::pn (rg 0 21) 0 2::pn (rg 0 22) 0 2::pn (rg 0 23) 0 2::pn (rg 0 24) 0 2::pn (rg 0 25) 0 2::pn (rg 0 26) 0 2::pn (rg 0 27) 0 2::pn (rg 0 24) 0 2::pn (rg 0 24++[28]) 0 2::pn (rg 0 30) 0 2::pn (rg 0 31) 0 2::pn (rg 0 32) 0 2::pn (rg 0 24) 0 2::pn (rg 0 24++[33]) 0 2::pn (rg 0 24++[33,34]) 0 2::pn (rg 0 24++[33,34,35]) 0 2::pn (rg 0 37) 0 2::pn (rg 0 38) 0 2::pn (rg 0 39) 2 2::[]) [10,17] [_,_,_] (kc Z (kc Z (kc Z (kc Z (kc Z (kc Z (kc Z (kc Z (ai (bN O Z Z Z Z Z Z Z Z) (ai (vF Z) (ai (aE O (B0:=61000) Z Z Z Z (nV h1 h2) (al Z) Z Z Z Z Z) (kc Z (ai ((V Z).cast (v':=eB false) (congrArg eB hb7)) (kc Z (kc Z (kc Z (kc Z (ai (aE O (B0:=68000) Z Z Z Z (oc h1 h2) (al Z) Z Z Z Z Z) (kc Z (ai (bf O Z Z Z Z Z) (ai ((V Z).cast (v':=eB true) (congrArg eB hb7b)) (ai ⟨Z,Z⟩ (ai ⟨Z,Z⟩ (ai ⟨Z,Z⟩ (ai ⟨Z,Z⟩ (ai ⟨Z,Z⟩ (ai ⟨Z,Z⟩ (ai ⟨Z,Z⟩ (ai ⟨Z,Z⟩ (ai ⟨Z,Z⟩ (ai ⟨Z,Z⟩ (ai ⟨Z,Z⟩ (ai ⟨Z,Z⟩ (ai ⟨Z,Z⟩ (ai ⟨Z,Z⟩ (ai ⟨Z,Z⟩ (ai ⟨Z,Z⟩ (ai ⟨Z,Z⟩ (ai ⟨Z,Z⟩ (ai (cw O Z Z Z Z Z) trivial)))))))))))))))))))))))))))))))))))))))) ?_
   exact⟨Z,Ent.env ⟨Z,Z,Z,ao⟩⟩
  | false=>
   cases hb7c:decide ((0:Int)<i)with
   | true=>
    have hi0:0<i:=by have:=bJ hb7c;omega
    refine qR (_::_::_::_::_::_::_::_::_::_::_::_::_::_::_::_::_::_::_::_::_::_::_::_::_::_::_::_::_::_::_::_::_::_::_::_::_::_::_::_::[]) (bv::aU [0]::aU [0,1]::aU [0,1,2]::bv::aU [4]::aU [4,5]::aU [4,5,6]::aU (rg 4 4)::aU (rg 4 5)::pe (rg 0 10) 0::pn (rg 0 11) 1 1::pn (rg 0 12) 1 1::pn (rg 0 13) 1 1::pn (rg 0 14) 1 1::pn (rg 0 15) 1 1::pn (rg 0 16) 1 1::pe (rg 0 17) 1::pn (rg 0 18) 2 2::pn (rg 0 19) 2 2::pn (rg 0 20) 2 2::pn (rg 0 21) 2 2::pn (rg 0 22) 2 2::pn (rg 0 23) 2 2::pn (rg 0 24) 2 2::pn (rg 0 25) 2 2::pn (rg 0 26) 2 2::pn (rg 0 27) 2 2::pn (rg 0 24) 2 2::pn (rg 0 24++[28]) 2 2::pn (rg 0 30) 2 2::pn (rg 0 31) 2 2::pn (rg 0 32) 2 2::pn (rg 0 24) 2 2::pn (rg 0 24++[33]) 2 2::pn (rg 0 24++[33,34]) 2 2::pn (rg 0 24++[33,34,35]) 2 2::pn (rg 0 37) 2 2::pn (rg 0 38) 2 2::pn (rg 0 39) 2 2::[]) [10,17] [_,_,_] (kc Z (kc Z (kc Z (kc Z (kc Z (kc Z (kc Z (kc Z (ai (bN O Z Z Z Z Z Z Z Z) (ai (vF Z) (ai (aE O (B0:=61000) Z Z Z Z (nV h1 h2) (al Z) Z Z Z Z Z) (kc Z (ai ((V Z).cast (v':=eB false) (congrArg eB hb7)) (kc Z (kc Z (kc Z (kc Z (ai (aE O (B0:=68000) Z Z Z Z (oc h1 h2) (al Z) Z Z Z Z Z) (kc Z (ai (bf O Z Z Z Z Z) (ai ((V Z).cast (v':=eB false) (congrArg eB hb7b)) (kc Z (kc Z (ai ((V Z).cast (v':=eB true) (congrArg eB hb7c)) (kc Z (kc Z (kc Z (kc Z (kc Z (ai ((vF Z).cast (v':=eI ((i-1:Nat):Int)) (congrArg eI (by omega))) (ai (vN Z) (kc Z (kc Z (kc Z (kc Z (kc Z (kc Z (kc Z (ai (cw O Z Z Z Z Z) (ai (bf O Z Z Z Z Z) trivial)))))))))))))))))))))))))))))))))))))))) ?_
    exact⟨Z,Ent.env ⟨Z,Z,Z,ao⟩⟩
   | false=>
    refine qR (_::_::_::_::_::_::_::_::_::_::_::_::_::_::_::_::_::_::_::_::_::_::_::_::_::_::_::_::_::_::_::_::_::_::_::_::_::_::_::_::[]) (bv::aU [0]::aU [0,1]::aU [0,1,2]::bv::aU [4]::aU [4,5]::aU [4,5,6]::aU (rg 4 4)::aU (rg 4 5)::pe (rg 0 10) 0::pn (rg 0 11) 1 1::pn (rg 0 12) 1 1::pn (rg 0 13) 1 1::pn (rg 0 14) 1 1::pn (rg 0 15) 1 1::pn (rg 0 16) 1 1::pe (rg 0 17) 1::pn (rg 0 18) 2 2::pn (rg 0 19) 2 2::pn (rg 0 20) 2 2::pn (rg 0 21) 2 2::pn (rg 0 22) 2 2::pn (rg 0 23) 2 2::pn (rg 0 24) 0 2::pn (rg 0 25) 0 2::pn (rg 0 26) 0 2::pn (rg 0 27) 0 2::pn (rg 0 24) 0 2::pn (rg 0 24++[28]) 0 2::pn (rg 0 30) 0 2::pn (rg 0 31) 0 2::pn (rg 0 32) 0 2::pn (rg 0 24) 0 2::pn (rg 0 24++[33]) 0 2::pn (rg 0 24++[33,34]) 0 2::pn (rg 0 24++[33,34,35]) 0 2::pn (rg 0 37) 0 2::pn (rg 0 38) 2 2::pn (rg 0 39) 2 2::[]) [10,17] [_,_,_] (kc Z (kc Z (kc Z (kc Z (kc Z (kc Z (kc Z (kc Z (ai (bN O Z Z Z Z Z Z Z Z) (ai (vF Z) (ai (aE O (B0:=61000) Z Z Z Z (nV h1 h2) (al Z) Z Z Z Z Z) (kc Z (ai ((V Z).cast (v':=eB false) (congrArg eB hb7)) (kc Z (kc Z (kc Z (kc Z (ai (aE O (B0:=68000) Z Z Z Z (oc h1 h2) (al Z) Z Z Z Z Z) (kc Z (ai (bf O Z Z Z Z Z) (ai ((V Z).cast (v':=eB false) (congrArg eB hb7b)) (kc Z (kc Z (ai ((V Z).cast (v':=eB false) (congrArg eB hb7c)) (ai ⟨Z,Z⟩ (ai ⟨Z,Z⟩ (ai ⟨Z,Z⟩ (ai ⟨Z,Z⟩ (ai ⟨Z,Z⟩ (ai ⟨Z,Z⟩ (ai ⟨Z,Z⟩ (ai ⟨Z,Z⟩ (ai ⟨Z,Z⟩ (ai ⟨Z,Z⟩ (ai ⟨Z,Z⟩ (ai ⟨Z,Z⟩ (ai ⟨Z,Z⟩ (ai ⟨Z,Z⟩ (ai (bf O Z Z Z Z Z) (ai (bf O Z Z Z Z Z) trivial)))))))))))))))))))))))))))))))))))))))) ?_
    exact⟨Z,Ent.env ⟨Z,Z,Z,ao⟩⟩
 refine ak Z (fun z89=>?_) (fun z89=>?_)
 refine af (js Z (jr ?_))
 refine aw Z ?_
 rw[(fT z34).1,kO i hil (rv (vn.symm.trans z89))]
 refine ae (aa (js Z ?_))
 first|refine ji Z ?_|refine be Z Z ?_
 refine js Z (jf [3,89,0] Z (jn ?_))
 have h9:nS a.code.length a.pts i=true:=ru (vn.symm.trans z89)
 refine⟨i+1,Ent.env ⟨Z,Z,ao⟩,⟨by omega,fun j hj=>?_⟩,by omega⟩
 by_cases e:j=i
 subst e;exact h9
 exact hi.2 j (by omega)
 refine aR (af (js Z (jr ?_)))
 refine aw Z ?_
 rw[(fT z34).1,mS fun j hj=>hi.2 j (by have:=ck z41;omega)]
section
set_option linter.unusedSectionVars false
variable{α:Type}[Inhabited α]{f:α→α}{l:List α}{i:Nat}{g:α→List D}
end
structure Fo(a out:An)(k:Nat):Prop where
  le:k≤out.code.length
  eq:my out=my a
  ok:AOk out
  no: ∀j,j<k→(mr out j).1=0
structure Gn(a out:An):Prop where
  eq:my out=my a
  ok:AOk out
abbrev s5(a:An):List B:=[dc a.pre,dc a.post,fd a.code,gW a.pts]
theorem sW{x:Int}:MQ h1 h2 78 [eI x] [] (Plain (eB (da 0 79 x))):=by
 refine am ?_ Z
 refine jB 5 h1 h2 Tryz.func78 Z fun O hF=>?_
 refine af (js Z (bq (js Z (aW Z (kE h1 h2) 5000 Z (js Z (jr ?_))))))
 refine aw Z ?_
 first|rfl|skip
theorem sZ:MQ h1 h2 40 [.agg (x.cells.map .d)] [] (Plain (eB (aC x))):=by
 refine am ?_ Z
 refine jB 37 h1 h2 Tryz.func40 Z fun O hF=>?_
 refine af (jx Z (js Z (jn (ag (af (ac Z (jn (ap (ag (af (ac Z (jn (ak Z (fun z5=>?_) (fun z5=>?_))))))))))))))
 try simp only[aK]at z5
 refine ae (ak Z (fun z5=>?_) (fun z5=>?_))
 try simp only[aK]at z5
 refine af (ac Z (jf [9,6,4,3,2,1,0] Z (aW Z (rz h1 h2) 11000 Z (js Z (jf [2,6,4,3,1,0] Z (jr ?_))))))
 refine aw Z ?_
 unfold aC da;simp_all
 try simp only[aK]at z5
 contradiction
 try simp only[aK]at z5
 refine aa (ac Z (jn (ak Z (fun z5=>?_) (fun z5=>?_))))
 try simp only[aK]at z5
 refine af (ac Z (jf [9,7,6,4,3,2,1,0] Z (aW Z (rz h1 h2) 11000 Z (js Z (jf [2,7,6,4,3,1,0] Z (jr ?_))))))
 refine aw Z ?_
 unfold aC da;simp_all
 try simp only[aK]at z5
 refine ag (af (ac Z (jf [11,7,6,4,3,2,1,0] Z (jn (ak Z (fun z11=>?_) (fun z11=>?_))))))
 try simp only[aK]at z11
 refine ae (ak Z (fun z11=>?_) (fun z11=>?_))
 try simp only[aK]at z11
 refine af (ac Z (jf [15,7,6,4,3,2,1,0] Z (aW Z (sX h1 h2) 17000 Z (js Z (jf [2,7,6,4,3,1,0] Z (jr ?_))))))
 refine aw Z ?_
 unfold aC da;simp_all
 try simp only[aK]at z11
 contradiction
 try simp only[aK]at z11
 refine aa (ac Z (jn (ak Z (fun z11=>?_) (fun z11=>?_))))
 try simp only[aK]at z11
 refine af (ac Z (jf [15,13,7,6,4,3,2,1,0] Z (aW Z (sX h1 h2) 17000 Z (js Z (jf [2,13,7,6,4,3,1,0] Z (jr ?_))))))
 refine aw Z ?_
 unfold aC da;simp_all
 try simp only[aK]at z11
 refine ag (af (ac Z (jf [17,13,7,6,4,3,2,1,0] Z (jn (ak Z (fun z17=>?_) (fun z17=>?_))))))
 try simp only[aK]at z17
 refine ae (ak Z (fun z17=>?_) (fun z17=>?_))
 try simp only[aK]at z17
 refine af (ac Z (jf [21,13,7,6,4,3,2,1,0] Z (aW Z (sW h1 h2) 23000 Z (js Z (jf [2,13,7,6,4,3,1,0] Z (jr ?_))))))
 refine aw Z ?_
 unfold aC da;simp_all
 try simp only[aK]at z17
 contradiction
 try simp only[aK]at z17
 refine aa (ac Z (jn (ak Z (fun z17=>?_) (fun z17=>?_))))
 try simp only[aK]at z17
 refine af (ac Z (jf [21,19,13,7,6,4,3,2,1,0] Z (aW Z (sW h1 h2) 23000 Z (js Z (jf [2,19,13,7,6,4,3,1,0] Z (jr ?_))))))
 refine aw Z ?_
 unfold aC da;simp_all
 try simp only[aK]at z17
 refine af (ac Z (jf [23,19,13,7,6,4,3,2,1,0] Z (jn (ak Z (fun z23=>?_) (fun z23=>?_)))))
 try simp only[aK]at z23
 refine af (ac Z (jf [26,19,13,7,6,4,3,2,1,0] Z (aW Z (uZ h1 h2) 28000 Z (js Z (jf [2,19,13,7,6,4,3,1,0] Z (jr ?_))))))
 refine aw Z ?_
 unfold aC da;simp_all
 try simp only[aK]at z23
 refine ag (af (ac Z (jf [28,19,13,7,6,4,3,2,1,0] Z (jn (ak Z (fun z28=>?_) (fun z28=>?_))))))
 try simp only[aK]at z28
 refine ae (ak Z (fun z28=>?_) (fun z28=>?_))
 try simp only[aK]at z28
 refine af (bn Z (jf [2,28,19,13,7,6,4,3,1,0] Z (jr ?_)))
 refine aw Z ?_
 unfold aC da;simp_all
 try simp only[aK]at z28
 contradiction
 try simp only[aK]at z28
 refine af (ac Z (jn (ak Z (fun z28=>?_) (fun z28=>?_))))
 try simp only[aK]at z28
 refine ae (ak Z (fun z28=>?_) (fun z28=>?_))
 try simp only[aK]at z28
 refine af (bn Z (jf [2,28,30,19,13,7,6,4,3,1,0] Z (jr ?_)))
 refine aw Z ?_
 unfold aC da;simp_all
 try simp only[aK]at z28
 contradiction
 try simp only[aK]at z28
 refine af (ac Z (jn (ak Z (fun z28=>?_) (fun z28=>?_))))
 try simp only[aK]at z28
 refine ae (ak Z (fun z28=>?_) (fun z28=>?_))
 try simp only[aK]at z28
 refine af (bn Z (jf [2,28,31,30,19,13,7,6,4,3,1,0] Z (jr ?_)))
 refine aw Z ?_
 unfold aC da;simp_all
 try simp only[aK]at z28
 contradiction
 try simp only[aK]at z28
 refine af (ac Z (jn (ak Z (fun z28=>?_) (fun z28=>?_))))
 try simp only[aK]at z28
 refine ae (ak Z (fun z28=>?_) (fun z28=>?_))
 try simp only[aK]at z28
 refine af (bn Z (jf [2,32,31,30,19,13,7,6,4,3,1,0] Z (jr ?_)))
 refine aw Z ?_
 unfold aC da;simp_all
 try simp only[aK]at z28
 contradiction
 try simp only[aK]at z28
 refine aa (ac Z (jn (ak Z (fun z28=>?_) (fun z28=>?_))))
 try simp only[aK]at z28
 refine af (bn Z (jf [2,33,32,31,30,19,13,7,6,4,3,1,0] Z (jr ?_)))
 refine aw Z ?_
 unfold aC da;simp_all
 try simp only[aK]at z28
 refine ae (af (js Z (jr ?_)))
 refine aw Z ?_
 unfold aC da;simp_all
theorem u9:MQ h1 h2 81 [.agg (x.cells.map .d)] [] (Plain (eB (!aC x))):=by
 refine am ?_ Z
 refine jB 6 h1 h2 Tryz.func81 Z fun O hF=>?_
 refine af (jx Z (js Z (bq (js Z (jf [3,2,0] Z (aW Z (sZ h1 h2) 5000 Z (ac Z (jf [2,0] Z (jr ?_)))))))))
 refine aw Z ?_
 first|rfl|skip
theorem u3{p:Pt}:MQ h1 h2 86 [.agg (p.cells.map .d),ptr [.int .i64 k]] [] (Plain (eB (decide (p.k=k)))):=by
 refine am ?_ Z
 refine jB 8 h1 h2 Tryz.func86 Z fun O hF=>?_
 refine af (jx Z (js Z (bq (bn Z (js Z (jf [3,0] Z (jr ?_)))))))
 refine aw Z ?_
 first|rfl|skip
def fc{α:Type}(p:α→Bool)(l:List α):Int:=if l.any p=true then(l.findIdx p:Nat)else -1
theorem gh{α:Type}{p:α→Bool}{l:List α}(h: ∀j (hj:j<l.length),p l[j]=false):fc p l= -1:=by rw[fc,if_neg (by rw[sm h];decide)]
theorem gi{α:Type}{p:α→Bool}{l:List α}{i:Nat}(hi:i<l.length)(h: ∀j (hj:j<l.length),j<i→p l[j]=false)(hn:p l[i]=true):fc p l=i:=by
 rw[fc,if_pos (qO i hi hn)]
 exact congrArg Nat.cast ((List.findIdx_eq hi).2 ⟨hn,fun j hj=>by simp[h j (by omega) hj]⟩)
theorem oU{α:Type}{p:α→Bool}{l:List α}:decide (fc p l≥0)=l.any p:=by
 unfold fc
 cases h:l.any p<;>simp
theorem tH:MQ h1 h2 106 [i8 c,.c (.fn 81 [])] [] (Plain (eI (fc (fun x:In=>!aC x) c))):=by
 refine am ?_ Z
 refine jB 19 h1 h2 Tryz.func106 Z fun O hF=>?_
 have hl:c.length≤L:=by simpa[As.fact,A.fact,M.fact,D.fact,Ds.fact]using hF.1.1
 refine af (js Z (jn (ag (af (js Z ?_)))))
 first|refine db Z ?_|refine js Z ?_|refine be Z Z ?_
 refine js Z (jn (ap (av (X:=Nat) (fun i=>⟨[(0,i8 c),(1,.c (.fn 81 [])),(7,eI c.length),(8,eI i)],[]⟩) (fun i=>i≤c.length∧∀j (h:j<c.length),j<i→(fun x:In=>!aC x) c[j]=false) (fun i=>c.length-i) 0 (Ent.env ⟨Z,Z,Z,Z,ao⟩) ?_ (fun i hi=>?_))))
 exact⟨cN _,fun j h hj=>absurd hj (Nat.not_lt_zero j)⟩
 refine af (js Z (jn (ag (ak Z (fun z9=>?_) (fun z9=>?_)))))
 refine ae (ag (ap (af ?_)))
 have hil:i<c.length:=by have:=bJ z9;omega
 refine ac Z (bq (aZ Z ?_))
 first|refine qQ Z Z ?_|refine kB Z Z ?_|refine be Z Z ?_
 refine js Z (cS [(15,_),(11,_),(5,_),(10,_),(9,_),(0,_),(1,_),(7,_),(8,_)] [] ⟨Z,Z,Z,Z,Z,Z,Z,Z,Z,ao⟩ Z (aW Z (u9 (x:=c.getD i default) h1 h2) 17000 Z (jf [16,5,10,9,0,1,7,8] Z (jn (ak Z (fun z16=>?_) (fun z16=>?_))))))
 refine af (ac Z (jr ?_))
 refine aw Z ?_
 rw[getD_lt hil]at z16
 rw[gi hil hi.2 z16]
 refine ae (aa ?_)
 first|refine ji Z ?_|refine be Z Z ?_
 refine js Z (jn ?_)
 refine⟨i+1,Ent.env ⟨Z,Z,Z,Z,ao⟩,⟨by omega,fun j h hj=>?_⟩,by omega⟩
 by_cases e:j=i
 subst e;rw[getD_lt h]at z16;exact z16
 exact hi.2 j h (by omega)
 refine aR (af (js Z (jr ?_)))
 refine aw Z ?_
 have h9:=ck z9
 rw[gh (fun j hj=>hi.2 j hj (by omega))]
theorem u4{ps:List Pt}:MQ h1 h2 85 [nf ps,.c (.fn 86 [.d (.ptr [.int .i64 k] 0)])] [] (Plain (eI (fc (fun p:Pt=>decide (p.k=k)) ps))):=by
 refine am ?_ Z
 refine jB 19 h1 h2 Tryz.func85 Z fun O hF=>?_
 have hl:ps.length≤L:=by simpa[As.fact,A.fact,M.fact,D.fact,Ds.fact]using hF.1.1
 refine af (js Z (jn (ag (af (js Z ?_)))))
 first|refine db Z ?_|refine js Z ?_|refine be Z Z ?_
 refine js Z (jn (ap (av (X:=Nat) (fun i=>⟨[(0,nf ps),(1,.c (.fn 86 [.d (.ptr [.int .i64 k] 0)])),(7,eI ps.length),(8,eI i)],[]⟩) (fun i=>i≤ps.length∧∀j (h:j<ps.length),j<i→(fun p:Pt=>decide (p.k=k)) ps[j]=false) (fun i=>ps.length-i) 0 (Ent.env ⟨Z,Z,Z,Z,ao⟩) ?_ (fun i hi=>?_))))
 exact⟨cN _,fun j h hj=>absurd hj (Nat.not_lt_zero j)⟩
 refine af (js Z (jn (ag (ak Z (fun z9=>?_) (fun z9=>?_)))))
 refine ae (ag (ap (af ?_)))
 have hil:i<ps.length:=by have:=bJ z9;omega
 refine ac Z (bq (aZ Z ?_))
 first|refine qQ Z Z ?_|refine kB Z Z ?_|refine be Z Z ?_
 refine js Z (cS [(15,_),(11,_),(5,_),(10,_),(9,_),(0,_),(1,_),(7,_),(8,_)] [] ⟨Z,Z,Z,Z,Z,Z,Z,Z,Z,ao⟩ Z (aW Z (u3 (k:=k) (p:=ps.getD i default) h1 h2) 17000 Z (jf [16,5,10,9,0,1,7,8] Z (jn (ak Z (fun z16=>?_) (fun z16=>?_))))))
 refine af (ac Z (jr ?_))
 refine aw Z ?_
 rw[getD_lt hil]at z16
 rw[gi hil hi.2 z16]
 refine ae (aa ?_)
 first|refine ji Z ?_|refine be Z Z ?_
 refine js Z (jn ?_)
 refine⟨i+1,Ent.env ⟨Z,Z,Z,Z,ao⟩,⟨by omega,fun j h hj=>?_⟩,by omega⟩
 by_cases e:j=i
 subst e;rw[getD_lt h]at z16;exact z16
 exact hi.2 j h (by omega)
 refine aR (af (js Z (jr ?_)))
 refine aw Z ?_
 have h9:=ck z9
 rw[gh (fun j hj=>hi.2 j hj (by omega))]
theorem t5:MQ h1 h2 80 [i8 c,.c (.fn 81 [])] [] (Plain (eB (c.any (fun x:In=>!aC x)))):=by
 refine am ?_ Z
 refine jB 9 h1 h2 Tryz.func80 Z fun O hF=>?_
 refine af (js Z (bq (ac Z (bg O Z Z Z Z (tH (c:=c) h1 h2) (.cons (.c .d) (.cons (.c (.fn .nil)) .nil)) Z Z Z Z Z (B0:=8000) Z (ac Z (jr ?_))))))
 refine aw Z ?_
 exact congrArg eB oU
theorem vi:MQ h1 h2 42 [i8 c] [] (Plain (eB (dD c))):=by
 refine am ?_ Z
 refine jB 12 h1 h2 Tryz.func42 Z fun O hF=>?_
 have hl:c.length≤L:=by simpa[As.fact,A.fact,M.fact,D.fact,Ds.fact]using hF.1.1
 refine af (js Z (bq (js Z ?_)))
 first|refine db Z ?_|refine js Z ?_|refine be Z Z ?_
 refine aW Z (rB h1 h2) 6000 Z (aW Z (kE h1 h2) 7000 Z (js Z (ay 3 Z Z Z (fun hx=>au hx Z (bD O hx Z Z Z Z (t5 (c:=c) h1 h2) (.cons (.c .d) (.cons (.c (.fn .nil)) .nil)) Z Z Z Z Z Z Z (B0:=10000) Z (au hx Z (AN.nil)))) Z Z ?_)))
 first|refine ab (aj O Z Z Z Z Z) Z ?_|refine ab (aq O Z Z Z Z Z) Z ?_|refine ab (Val.pickB O Z Z Z Z Z) Z ?_
 refine js Z (jr ?_)
 refine aw Z ?_
 rw[Bool.cond_false_right,show dD c=_ from Bool.and_comm _ _,List.all_eq_not_any_not]
theorem vg:MQ h1 h2 46 [n0 a,eI k] [] (Plain (eI (fc (fun p:Pt=>decide (p.k=k)) a.pts))):=by
 refine am ?_ Z
 refine jB 9 h1 h2 Tryz.func46 Z fun O hF=>?_
 refine af (jx Z (aI ?_))
 refine aV (Ent.freeze 2 (e':=[(2,_),(1,_)]) Z (.cons Z (.c (.box (cs:=a.data) Z (aP Z))) (fe [1] Z)) (.skip .nil)) ?_
 refine aI ?_
 refine jx Z (aI ?_)
 refine aV (Ent.freeze 3 (e':=[(3,_),(2,_)]) Z (.cons Z (.c (.box (cs:=[.int .i64 k]) Z (aP Z))) (fe [2] Z)) (.skip .nil)) ?_
 refine aI ?_
 refine js Z (bq (aZ Z (jf [7,6,4] Z (bg O Z Z Z Z (u4 (ps:=a.pts) (k:=k) h1 h2) (.cons (.c .d) (.cons (.c (.fn (.cons .d .nil))) .nil)) Z Z Z Z Z (B0:=9000) Z (js Z (jf [4] Z (jr ?_)))))))
 refine aw Z ?_
 first|rfl|skip
theorem uj{a:An}{i:Nat}:(bif (bif !terms (a.pts.getD i default).fs 6 then true else !(da 0 ((a.code.length:Int)-1) (a.pts.getD i default).k))then true else(bif decide ((0:Int)<i)then decide ((a.pts.getD i default).k≤(a.pts.getD (i-1) default).k)else false))= !nS a.code.length a.pts i:=by
 unfold nS da
 rw[show decide ((0:Int)<i)=decide (0<i)from decide_eq_decide.2 (by omega)]
 cases decide (0≤(a.pts.getD i default).k)<;>cases decide ((a.pts.getD i default).k≤(a.code.length:Int)-1)<;>cases terms (a.pts.getD i default).fs 6<;>cases decide (0<i)<;>cases decide ((a.pts.getD i default).k≤(a.pts.getD (i-1) default).k)<;>rfl
theorem c71:MQ h1 h2 15 [n0 a] [] (Plain (eB (annB a))):=by
 refine am ?_ Z
 refine jB 65 h1 h2 Tryz.func15 Z fun O hF=>?_
 have hl:a.code.length≤L:=by simpa[As.fact,A.fact,M.fact,Ms.fact,D.fact,Ds.fact]using hF.1.2.2.1.1
 have hlp:a.pts.length≤L:=by simpa[As.fact,A.fact,M.fact,Ms.fact,D.fact,Ds.fact]using hF.1.2.2.2.1.1
 refine af (jx Z (aI ?_))
 refine aV (Ent.freeze 1 (e':=[(1,_),(0,_)]) Z (.cons Z (.c (.box (cs:=a.data) Z (aP Z))) (fe [0] Z)) (.skip .nil)) ?_
 refine aI ?_
 refine js Z (jn (ag (af (ac Z (jf [6,2,1,0] Z (aW Z (vi h1 h2) 8000 Z (ac Z (jf [9,2,1,0] Z (ay 4 Z Z Z (fun hx=>au hx Z (au hx Z (bD O hx Z Z Z Z (nd h1 h2) (al Z) Z Z Z Z Z Z Z (B0:=13000) Z (au hx Z (AN.nil))))) Z Z ?_)))))))))
 first|refine ab (aq O Z Z Z Z Z) Z ?_|refine ab (Val.pickB O Z Z Z Z Z) Z ?_|refine ab (aj O Z Z Z Z Z) Z ?_
 refine js Z (jf [15,2,1,0] Z (ay 4 Z Z Z (fun hx=>au hx Z (au hx Z (bD O hx Z Z Z Z (nd h1 h2) (al Z) Z Z Z Z Z Z Z (B0:=19000) Z (au hx Z (AN.nil))))) Z Z ?_))
 first|refine ab (aq O Z Z Z Z Z) Z ?_|refine ab (Val.pickB O Z Z Z Z Z) Z ?_|refine ab (aj O Z Z Z Z Z) Z ?_
 refine js Z (jf [21,2,1,0] Z (ay 4 Z Z Z (fun hx=>au hx Z (au hx Z (bE hx (bN O Z Z Z Z Z Z Z Z) Z (au hx Z (AN.nil))))) Z Z ?_))
 first|refine ab (aq O Z Z Z Z Z) Z ?_|refine ab (Val.pickB O Z Z Z Z Z) Z ?_|refine ab (aj O Z Z Z Z Z) Z ?_
 refine jf [26,2,1,0] Z (jn (ak Z (fun z26=>?_) (fun z26=>?_)))
 refine af (js Z (jr ?_))
 refine aw Z ?_
 rw[oZ z26]
 refine ae (ag (af (ac Z ?_)))
 first|refine db Z ?_|refine js Z ?_|refine be Z Z ?_
 refine js Z (jf [30,29,28,2,1,0] Z (jn (ap (av (X:=Nat) (fun i=>⟨[(1,ptr a.data),(28,nf a.pts),(29,eI a.pts.length),(30,eI i)],[]⟩) (fun i=>i≤a.pts.length∧∀j,j<i→nS a.code.length a.pts j=true) (fun i=>a.pts.length-i) 0 (Ent.env ⟨Z,Z,Z,Z,ao⟩) ?_ (fun i hi=>?_)))))
 exact⟨cN _,fun j hj=>absurd hj (Nat.not_lt_zero j)⟩
 refine af (js Z (jn (ag (ak Z (fun z31=>?_) (fun z31=>?_)))))
 refine ae (ag (ap (af ?_)))
 have hil:i<a.pts.length:=by have:=bJ z31;omega
 have hcl:=(nv (fT z26).2.2).2
 refine js Z ?_
 first|refine qQ Z Z ?_|refine kB Z Z ?_|refine be Z Z ?_
 refine js Z (jf [34,32,31,1,28,29,30] Z (jl Z (aI ?_)))
 refine js Z (jf [3,4,34,31,1,28,29,30] Z (jo Z (aI ?_)))
 refine aV (Ent.freeze 4 (e':=[(4,_),(1,_),(28,_),(29,_),(30,_),(3,_)]) Z (.cons Z (.c (.box (cs:=(a.pts.getD i default).cells) Z (aP Z))) (fe [1,28,29,30,3] Z)) (.skip .nil)) ?_
 refine aI ?_
 refine jn (ag (bu (F:=⟨[(63,eB (bif (bif !terms (a.pts.getD i default).fs 6 then true else !(da 0 ((a.code.length:Int)-1) (a.pts.getD i default).k))then true else(bif decide ((0:Int)<i)then decide ((a.pts.getD i default).k≤(a.pts.getD (i-1) default).k)else false))),(1,ptr a.data),(28,nf a.pts),(29,eI a.pts.length),(30,eI i)],[]⟩) ?_ ?_))
 cases hb6:!terms (a.pts.getD i default).fs 6 with
 | true=>
  refine qR [_,_,_,_,_,_,_,_,_,_,_,_,_,_,_,_,_,_,_,_,_,_,_,_,_,_,_,_,_] [bv,aU [0],pe [0,1] 0,pn [0,1,2] 1 1,pn (rg 0 4) 1 1,pn (rg 0 5) 0 1,pn (rg 0 6) 0 1,pn (rg 0 5) 0 1,pn [0,1,2,3,4,7] 0 1,pn [0,1,2,3,4,7,8] 0 1,pn (rg 0 10) 0 1,pn (rg 0 11) 0 1,pn (rg 0 12) 1 1,pn (rg 0 13) 1 1,pn (rg 0 14) 0 1,pn (rg 0 15) 0 1,pn (rg 0 16) 0 1,pn (rg 0 17) 0 1,pn (rg 0 18) 0 1,pn (rg 0 17) 0 1,pn (rg 0 17++[19]) 0 1,pn (rg 0 21) 0 1,pn (rg 0 22) 0 1,pn (rg 0 23) 0 1,pn (rg 0 17) 0 1,pn (rg 0 17++[24]) 0 1,pn (rg 0 26) 0 1,pn (rg 0 27) 0 1,pn (rg 0 28) 1 1] [2] [_,_] (kc Z (kc Z (ai (aE O (B0:=38000) Z Z Z Z (nd h1 h2) (al Z) Z Z Z Z Z) (ai ((V Z).cast (v':=eB true) (congrArg eB hb6)) (kc Z (ai ⟨Z,Z⟩ (ai ⟨Z,Z⟩ (ai ⟨Z,Z⟩ (ai ⟨Z,Z⟩ (ai ⟨Z,Z⟩ (ai ⟨Z,Z⟩ (ai ⟨Z,Z⟩ (ai (cw O Z Z Z Z Z) (kc Z (ai ⟨Z,Z⟩ (ai ⟨Z,Z⟩ (ai ⟨Z,Z⟩ (ai ⟨Z,Z⟩ (ai ⟨Z,Z⟩ (ai ⟨Z,Z⟩ (ai ⟨Z,Z⟩ (ai ⟨Z,Z⟩ (ai ⟨Z,Z⟩ (ai ⟨Z,Z⟩ (ai ⟨Z,Z⟩ (ai ⟨Z,Z⟩ (ai ⟨Z,Z⟩ (ai ⟨Z,Z⟩ (ai (cw O Z Z Z Z Z) trivial))))))))))))))))))))))))))))) ?_
  exact⟨Z,Ent.env ⟨Z,Z,Z,Z,Z,ao⟩⟩
 | false=>
  cases hb6b:!(da 0 ((a.code.length:Int)-1) (a.pts.getD i default).k)with
  | true=>
   refine qR [_,_,_,_,_,_,_,_,_,_,_,_,_,_,_,_,_,_,_,_,_,_,_,_,_,_,_,_,_] [bv,aU [0],pe [0,1] 0,pn [0,1,2] 1 1,pn (rg 0 4) 1 1,pn (rg 0 5) 1 1,pn (rg 0 6) 1 1,pn (rg 0 5) 1 1,pn [0,1,2,3,4,7] 1 1,pn [0,1,2,3,4,7,8] 1 1,pe (rg 0 10) 1,pn (rg 0 11) 2 2,pn (rg 0 12) 2 2,pn (rg 0 13) 2 2,pn (rg 0 14) 0 2,pn (rg 0 15) 0 2,pn (rg 0 16) 0 2,pn (rg 0 17) 0 2,pn (rg 0 18) 0 2,pn (rg 0 17) 0 2,pn (rg 0 17++[19]) 0 2,pn (rg 0 21) 0 2,pn (rg 0 22) 0 2,pn (rg 0 23) 0 2,pn (rg 0 17) 0 2,pn (rg 0 17++[24]) 0 2,pn (rg 0 26) 0 2,pn (rg 0 27) 0 2,pn (rg 0 28) 2 2] [2,10] [_,_,_] (kc Z (kc Z (ai (aE O (B0:=38000) Z Z Z Z (nd h1 h2) (al Z) Z Z Z Z Z) (ai ((V Z).cast (v':=eB false) (congrArg eB hb6)) (kc Z (kc Z (kc Z (kc Z (kc Z (ai (bN O Z Z Z Z Z Z Z Z) (ai (aE O (B0:=46000) Z Z Z Z (uq (k:=(a.pts.getD i default).k) (n:=a.code.length) h1 h2 (by omega)) (al Z) Z Z Z Z Z) (ai ((V Z).cast (v':=eB true) (congrArg eB hb6b)) (ai (bf O Z Z Z Z Z) (kc Z (ai ⟨Z,Z⟩ (ai ⟨Z,Z⟩ (ai ⟨Z,Z⟩ (ai ⟨Z,Z⟩ (ai ⟨Z,Z⟩ (ai ⟨Z,Z⟩ (ai ⟨Z,Z⟩ (ai ⟨Z,Z⟩ (ai ⟨Z,Z⟩ (ai ⟨Z,Z⟩ (ai ⟨Z,Z⟩ (ai ⟨Z,Z⟩ (ai ⟨Z,Z⟩ (ai ⟨Z,Z⟩ (ai (cw O Z Z Z Z Z) trivial))))))))))))))))))))))))))))) ?_
   exact⟨Z,Ent.env ⟨Z,Z,Z,Z,Z,ao⟩⟩
  | false=>
   cases hb6c:decide ((0:Int)<i)with
   | true=>
    have hi0:0<i:=by have:=bJ hb6c;omega
    refine qR [_,_,_,_,_,_,_,_,_,_,_,_,_,_,_,_,_,_,_,_,_,_,_,_,_,_,_,_,_] [bv,aU [0],pe [0,1] 0,pn [0,1,2] 1 1,pn (rg 0 4) 1 1,pn (rg 0 5) 1 1,pn (rg 0 6) 1 1,pn (rg 0 5) 1 1,pn [0,1,2,3,4,7] 1 1,pn [0,1,2,3,4,7,8] 1 1,pe (rg 0 10) 1,pn (rg 0 11) 2 2,pn (rg 0 12) 2 2,pn (rg 0 13) 2 2,pn (rg 0 14) 2 2,pn (rg 0 15) 2 2,pn (rg 0 16) 2 2,pn (rg 0 17) 2 2,pn (rg 0 18) 2 2,pn (rg 0 17) 2 2,pn (rg 0 17++[19]) 2 2,pn (rg 0 21) 2 2,pn (rg 0 22) 2 2,pn (rg 0 23) 2 2,pn (rg 0 17) 2 2,pn (rg 0 17++[24]) 2 2,pn (rg 0 26) 2 2,pn (rg 0 27) 2 2,pn (rg 0 28) 2 2] [2,10] [_,_,_] (kc Z (kc Z (ai (aE O (B0:=38000) Z Z Z Z (nd h1 h2) (al Z) Z Z Z Z Z) (ai ((V Z).cast (v':=eB false) (congrArg eB hb6)) (kc Z (kc Z (kc Z (kc Z (kc Z (ai (bN O Z Z Z Z Z Z Z Z) (ai (aE O (B0:=46000) Z Z Z Z (uq (k:=(a.pts.getD i default).k) (n:=a.code.length) h1 h2 (by omega)) (al Z) Z Z Z Z Z) (ai ((V Z).cast (v':=eB false) (congrArg eB hb6b)) (ai (bf O Z Z Z Z Z) (kc Z (kc Z (ai ((V Z).cast (v':=eB true) (congrArg eB hb6c)) (kc Z (kc Z (kc Z (kc Z (ai ((vF Z).cast (v':=eI ((i-1:Nat):Int)) (congrArg eI (by omega))) (ai (vN Z) (kc Z (kc Z (kc Z (kc Z (kc Z (ai (cw O Z Z Z Z Z) (ai (bf O Z Z Z Z Z) trivial))))))))))))))))))))))))))))) ?_
    exact⟨Z,Ent.env ⟨Z,Z,Z,Z,Z,ao⟩⟩
   | false=>
    refine qR [_,_,_,_,_,_,_,_,_,_,_,_,_,_,_,_,_,_,_,_,_,_,_,_,_,_,_,_,_] [bv,aU [0],pe [0,1] 0,pn [0,1,2] 1 1,pn (rg 0 4) 1 1,pn (rg 0 5) 1 1,pn (rg 0 6) 1 1,pn (rg 0 5) 1 1,pn [0,1,2,3,4,7] 1 1,pn [0,1,2,3,4,7,8] 1 1,pe (rg 0 10) 1,pn (rg 0 11) 2 2,pn (rg 0 12) 2 2,pn (rg 0 13) 2 2,pn (rg 0 14) 2 2,pn (rg 0 15) 2 2,pn (rg 0 16) 2 2,pn (rg 0 17) 0 2,pn (rg 0 18) 0 2,pn (rg 0 17) 0 2,pn (rg 0 17++[19]) 0 2,pn (rg 0 21) 0 2,pn (rg 0 22) 0 2,pn (rg 0 23) 0 2,pn (rg 0 17) 0 2,pn (rg 0 17++[24]) 0 2,pn (rg 0 26) 0 2,pn (rg 0 27) 2 2,pn (rg 0 28) 2 2] [2,10] [_,_,_] (kc Z (kc Z (ai (aE O (B0:=38000) Z Z Z Z (nd h1 h2) (al Z) Z Z Z Z Z) (ai ((V Z).cast (v':=eB false) (congrArg eB hb6)) (kc Z (kc Z (kc Z (kc Z (kc Z (ai (bN O Z Z Z Z Z Z Z Z) (ai (aE O (B0:=46000) Z Z Z Z (uq (k:=(a.pts.getD i default).k) (n:=a.code.length) h1 h2 (by omega)) (al Z) Z Z Z Z Z) (ai ((V Z).cast (v':=eB false) (congrArg eB hb6b)) (ai (bf O Z Z Z Z Z) (kc Z (kc Z (ai ((V Z).cast (v':=eB false) (congrArg eB hb6c)) (kc Z (ai ⟨Z,Z⟩ (ai ⟨Z,Z⟩ (ai ⟨Z,Z⟩ (ai ⟨Z,Z⟩ (ai ⟨Z,Z⟩ (ai ⟨Z,Z⟩ (ai ⟨Z,Z⟩ (ai ⟨Z,Z⟩ (ai ⟨Z,Z⟩ (ai ⟨Z,Z⟩ (ai (bf O Z Z Z Z Z) (ai (bf O Z Z Z Z Z) trivial))))))))))))))))))))))))))))) ?_
    exact⟨Z,Ent.env ⟨Z,Z,Z,Z,Z,ao⟩⟩
 refine ak Z (fun z63=>?_) (fun z63=>?_)
 refine af (js Z (jr ?_))
 refine aw Z ?_
 rw[(fT z26).1,kO i hil (rv (uj.symm.trans z63))]
 refine ae (aa ?_)
 first|refine ji Z ?_|refine be Z Z ?_
 refine js Z (jn ?_)
 have h9:nS a.code.length a.pts i=true:=ru (uj.symm.trans z63)
 refine⟨i+1,Ent.env ⟨Z,Z,Z,Z,ao⟩,⟨by omega,fun j hj=>?_⟩,by omega⟩
 by_cases e:j=i
 subst e;exact h9
 exact hi.2 j (by omega)
 refine aR (af (js Z (jr ?_)))
 refine aw Z ?_
 rw[(fT z26).1,mS fun j hj=>hi.2 j (by have:=ck z31;omega)]
end Go.Al
