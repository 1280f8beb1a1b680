/- The abstract logic, second vp: rules for operations, calls, stores and appends. -/
import Derived.Test.YtkendpichnklaaaGreatDoorA
import Derived.Deep.AppendSrc
import Derived.StillTail
set_option linter.unusedVariables false
/- The abstract logic, vp 13: values told by rules; operations that are done only where a condition holds. -/
namespace Go.Al

def Val(σ:Sg)(s:St)(o:Oper)(v:A):Prop:= ∀Γ:Ctx,Γ.toSg=σ→∀m F a w,Rel0 Γ m F s a w→∃u,(execOp a.eval o).run σ.P w= .ok (.value u) w∧RA σ.L w (Γ.ok F) m v u

section
variable{σ:Sg}{s s':St}{o:Oper}{v:A}
theorem Val.of(hσ:SgOk σ)(h:fd σ.tt σ.L s o=some v)(hs:Al.Oper.shorts o=true):Val σ s o v:=fun Γ e m F a w hR=>by
 subst e;exact oK hσ.tt hσ.plain hσ.lo hσ.hi hR hs h
theorem c6(hσ:SgOk σ){c:Prop}{inst:Decidable c}(h:fd σ.tt σ.L s o= @ite _ c inst (some v) none)(hs:Al.Oper.shorts o=true)(hc:c):Val σ s o v:=
 Val.of hσ (h.trans (if_pos hc)) hs
theorem sC(hσ:SgOk σ){k:IntKind}{n:Int}(h:fd σ.tt σ.L s o=some (.c (.d (.int k (k.wrap n)))))(hs:Al.Oper.shorts o=true)(h1:k.min≤n)(h2:n≤k.max):Val σ s o (.c (.d (.int k n))):=
 Val.of hσ (by rw[h,l7 k n h1 h2]) hs

theorem RA.bool_inv{L w ok m}{b:Bool}{x:Value}(h:RA L w ok m (.c (.d (.bool b))) x):x= .bool b:=by
 cases h with|c h=>cases h with|d h=>cases h;rfl
theorem Val.pick(hσ:SgOk σ){c x y:Operand}{b:Bool}{u1 u2:A}(ho:o.op= .pick c x y)(hs:Al.Oper.shorts o=true)(hc:ev s c=some (.c (.d (.bool b))))(h1:b=true→∃u,ev s x=some u∧u=u1)(h2:b=false→∃u,ev s y=some u∧u=u2) :
  Val σ s o (bif b then u1 else u2):=fun Γ e m F a w hR=>by
 subst e
 simp only[Al.Oper.shorts,ho,Op.operands]at hs
 simp at hs
 have hb:=(hR.ev hσ.lo hs.1 hc).bool_inv
 refine⟨if b then a.eval x else a.eval y,?_,?_⟩
 simp[execOp,ho,asBool,hb]
 cases b with
 | true=>obtain⟨u,h3,rfl⟩:=h1 rfl;exact hR.ev hσ.lo hs.2.1 h3
 | false=>obtain⟨u,h3,rfl⟩:=h2 rfl;exact hR.ev hσ.lo hs.2.2 h3
theorem lN{b p q:Bool}:(bif b then(A.c (.d (.bool p)))else(.c (.d (.bool q))))= .c (.d (.bool (bif b then p else q))):=by cases b<;>rfl
section
variable{c x y:Operand}{b p q:Bool}
theorem aI(hσ:SgOk σ)(ho:o.op= .pick c x y)(hs:Al.Oper.shorts o=true)(hc:ev s c=some (.c (.d (.bool b))))(h1:ev s x=some (bif (b==true)then(.c (.d (.bool p)))else .un))(h2:ev s y=some (.c (.d (.bool q)))):Val σ s o (.c (.d (.bool (bif b then p else q)))):=by
 rw[←lN];exact Val.pick hσ ho hs hc (fun hb=>⟨_,h1,by rw[hb];rfl⟩) (fun _=>⟨_,h2,rfl⟩)
theorem aK(hσ:SgOk σ)(ho:o.op= .pick c x y)(hs:Al.Oper.shorts o=true)(hc:ev s c=some (.c (.d (.bool b))))(h1:ev s x=some (.c (.d (.bool p))))(h2:ev s y=some (bif (b==false)then(.c (.d (.bool q)))else .un)):Val σ s o (.c (.d (.bool (bif b then p else q)))):=by
 rw[←lN];exact Val.pick hσ ho hs hc (fun _=>⟨_,h1,rfl⟩) (fun hb=>⟨_,h2,by rw[hb];rfl⟩)
end
theorem im(hσ:SgOk σ){t:Nat}{x y:Operand}{sz:Nat}{xs:List (List D)}{k:IntKind}{n:Int}{e:List D}{i j:TI}(ho:o.op= .indexAddr t x y)(hs:Al.Oper.shorts o=true)(hx:ev s x=some (.c (.d (.slc sz xs))))(hy:ev s y=some (.c (.d (.int k n))))
  (ht:lk σ.tt t=some i) (hk:Nat.beq i.kind 1=true) (hj:lk σ.tt i.elem=some j) (hz:Nat.beq sz j.size=true) (h0:0≤n) (he:xs[n.toNat]? = some e):Val σ s o (.c (.d (.ptr e 0))):=by
 refine Val.of hσ ?_ hs
 simp only[fd,ho,hx,hy,l6,ht,hk,cond_true,if_pos h0,he,hj,hz]
variable{Q:b0}{all:Array Oper}{rest:List Oper}
theorem AOps.step{e:List (Nat×A)}{H:List (Nat×B)}{d:Nat}(hv:Val σ ⟨e,H⟩ o v)(hg:o.guard=none)(hp:o.dst=some d)(hn:Nat.blt d σ.nt=true)(K:AOps σ all Q rest ⟨(d,v)::e,H⟩):AOps σ all Q (o::rest) ⟨e,H⟩:=fun Γ e a w hR=>by
 subst e
 obtain⟨m,F,hR0⟩:=hR
 obtain⟨u,h1,h2⟩:=hv Γ rfl m F a w hR0
 refine wpList_plain hg fun K' hK=>?_
 simp only[Oper.wp,h1,Oper.upon]
 exact hK _ _ (K Γ Z _ _ ⟨m,F,hR0.put h2 (by simp[Al.put,hp,hn])⟩)
def jX:St→List (Nat×A)→St
 | s,[]=>s
 | s,(d,v)::r=>jX ⟨(d,v)::s.env,s.H⟩ r
def AG(σ:Sg)(all:Array Oper)(l:List Oper)(s:St)(vs:List (Nat×A)):Prop:= ∀Γ:Ctx,Γ.toSg=σ→∀a w,fz Γ s a w→∀(Q:Exit→Act→World→Prop) (rest:List Oper),
 (∀a' w',fz Γ (jX s vs) a' w'→wpList σ.P all Q rest a' w')→wpList σ.P all Q (l++rest) a w
theorem AG.nil:AG σ all [] s []:=fun Γ e a w hR Q rest K=>K a w hR
theorem dM{Γ:Ctx}{m F a w}(hR:Rel0 Γ m F s a w){j t:Nat}{x:Bool}(hd:((all[j]?).bind (·.dst))=some t)(hl:lk s.env t=some (.c (.d (.bool x)))):yielded all a.tmps j=some x:=by
 have h:=(hR.env t _ hl).bool_inv
 unfold yielded
 rw[hd]
 simp only[Option.bind_some]
 have h1:a.tmps[t]? = some (.bool x):=by
  rw[Array.getD_eq_getD_getElem?]at h
  cases h2:a.tmps[t]? with
  | none=>rw[h2]at h;simp[undef]at h
  | some y=>rw[h2]at h;simp at h;rw[h]
 rw[h1]
theorem lA{P:Program}{ops:Array Oper}{Q:Exit→Act→World→Prop}{a:Act}{w:World}(hw:Region.wanted o (yielded ops a.tmps)=true)(h: ∀K:Act→World→Prop,(∀a w,wpList P ops Q rest a w→K a w)→o.wp P a w K Q):wpList P ops Q (o::rest) a w:=
 wpList_step fun K hK=>by rw[if_pos hw];exact h K hK
theorem AG.step{e:List (Nat×A)}{H:List (Nat×B)}{j t d:Nat}{want x:Bool}{vs:List (Nat×A)}{l:List Oper}(hg:o.guard=some (j,want))(hd:((all[j]?).bind (·.dst))=some t)(hl:lk e t=some (.c (.d (.bool x))))(hx:(x==want)=true)(hv:Val σ ⟨e,H⟩ o v)(ho:o.dst=some d)
  (hn:Nat.blt d σ.nt=true) (K:AG σ all l ⟨(d,v)::e,H⟩ vs):AG σ all (o::l) ⟨e,H⟩ ((d,v)::vs):=fun Γ e a w hR Q rest K'=>by
 subst e
 obtain⟨m,F,hR0⟩:=hR
 obtain⟨u,h1,h2⟩:=hv Γ rfl m F a w hR0
 have hy:=dM hR0 hd hl
 refine lA (by simp only[Region.wanted,hg,hy];simpa using hx) fun K1 hK1=>?_
 simp only[Oper.wp,h1,Oper.upon]
 refine hK1 _ _ (K Γ Z _ _ ⟨m,F,hR0.put h2 (by simp[Al.put,ho,hn])⟩ Q rest K')
def o0(all:Array Oper)(g:Nat×Bool):List Nat→List Oper→Bool
 | _,[]=>true
 | seen,o::r=>(match o.guard,o.dst with
  | some (j,want),some d=>((Nat.beq j g.1&&(want==g.2))||(match(all[j]?).bind (·.dst)with|some t=>seen.contains t|none=>false))&&o0 all g (d::seen) r
  | _,_=>false)
def iw:List Oper→List (Nat×A)
 | []=>[]
 | o::r=>match o.dst with|some d=>(d,.un)::iw r|none=>iw r
def qT(c:Bool):List (Nat×A)→List (Nat×A)
 | []=>[]
 | (d,v)::r=>(d,bif c then v else .un)::qT c r
theorem kE: ∀vs,qT true vs=vs
 | []=>rfl
 | (d,v)::r=>by simp only[qT,cond_true,kE r]
theorem vx{g:Nat×Bool}{σ:Sg}{Γ:Ctx}(hΓ:Γ.toSg=σ){t:Nat}{x:Bool}(hd:((all[g.1]?).bind (·.dst))=some t)(hx:(x==g.2)=false): ∀{l:List Oper} {seen:List Nat} {s:St} {m F a w},Rel0 Γ m F s a w→lk s.env t=some (.c (.d (.bool x)))→(∀k∈seen,lk s.env k=some .un)→
  o0 all g seen l=true→(iw l).all (fun y=>Nat.blt y.1 σ.nt&& !(Nat.beq y.1 t))=true→∀(Q:Exit→Act→World→Prop) (rest:List Oper),(∀a',Rel0 Γ m F (jX s (iw l)) a' w→wpList σ.P all Q rest a' w)→wpList σ.P all Q (l++rest) a w
 | [],seen,s,m,F,a,w,hR,hl,hs,hg,hb,Q,rest,K=>K a hR
 | o :: l,seen,s,m,F,a,w,hR,hl,hs,hg,hb,Q,rest,K=>by
  unfold o0 at hg
  split at hg
  rename_i j want d h1 h2
  simp only[bD,Bool.or_eq_true]at hg
  simp only[iw,h2,List.all_cons,bD]at hb
  have hdt:d≠t:=by have:=hb.1.2;simpa[qC]using this
  have hw:Region.wanted o (yielded all a.tmps)=false:=by
   simp only[Region.wanted,h1]
   rcases hg.1 with⟨e1,e2⟩|e
   have e1':=tN.1 e1
   have e2':want=g.2:=by simpa using e2
   subst e1'
   rw[dM hR hd hl]
   cases x<;>cases want<;>simp_all
   split at e
   rename_i t' ht'
   have hu:=hR.env t' _ (hs t' (by simpa using e))
   unfold yielded
   rw[ht']
   simp only[Option.bind_some]
   have:a.tmps.getD t' undef=undef:=by
    generalize a.tmps.getD t' undef=z at hu
    cases hu;rfl
   rw[Array.getD_eq_getD_getElem?]at this
   cases h3:a.tmps[t']? with
   | none=>simp
   | some y=>rw[h3]at this;simp at this;subst this;simp[undef]
   cases e
  rw[List.cons_append]
  unfold wpList
  rw[hw]
  simp only[Bool.false_eq_true,if_false]
  subst hΓ
  refine vx Z hd hx (seen:=d::seen) (s:=⟨(d,.un)::s.env,s.H⟩) (hR.put (.un) (by simp[Al.put,h2,hb.1.1])) (by rw[aw,if_neg hdt];exact hl) (fun k hk=>?_) hg.2 hb.2 Q rest (fun a' hR'=>K a' (by simpa[iw,h2,jX]using hR'))
  rcases List.mem_cons.1 hk with rfl|hk
  rw[aw,if_pos Z]
  rw[aw];split
  rfl
  exact hs k hk
  cases hg
theorem qw: ∀{vs:List (Nat×A)} {l:List Oper},vs.map (·.1)=(iw l).map (·.1)→qT false vs=iw l:=by
 intro vs
 induction vs with
 | nil=>
  intro l h
  cases hu:iw l with
  | nil=>rfl
  | cons x y=>rw[hu]at h;simp at h
 | cons x r ih=>
  intro l h
  induction l with
  | nil=>simp[iw]at h
  | cons o l ihl=>
   cases ho:o.dst with
   | none=>simp only[iw,ho]at h ⊢;exact ihl h
   | some d=>
    simp only[iw,ho,List.map_cons,List.cons.injEq]at h ⊢
    obtain⟨k,v⟩:=x
    simp only at h
    simp only[qT,cond_false,h.1,ih h.2]
def gok(σ:Sg)(all:Array Oper)(g:Nat×Bool)(t:Nat)(l:List Oper)(vs:List (Nat×A)):Bool:=
 o0 all g [] l&&((iw l).all (fun y=>Nat.blt y.1 σ.nt&& !(Nat.beq y.1 t))&&(vs.map (·.1)==(iw l).map (·.1)))
theorem nH{g:Nat×Bool}{t:Nat}{x:Bool}{l l2:List Oper}{vs vs2:List (Nat×A)}(hd:((all[g.1]?).bind (·.dst))=some t)(hl:lk s.env t=some (.c (.d (.bool x))))(h:(x==g.2)=true→AG σ all l s vs)(hk:gok σ all g t l vs=true)
  (K:AG σ all l2 (jX s (qT (x==g.2) vs)) vs2):AG σ all (l++l2) s (qT (x==g.2) vs++vs2):=fun Γ e a w hR Q rest K'=>by
 subst e
 simp only[gok,bD]at hk
 have hp: ∀(vs1 vs2:List (Nat×A)) (s:St),jX s (vs1++vs2)=jX (jX s vs1) vs2:=by
  intro vs1
  induction vs1 with
  | nil=>intro _ _;rfl
  | cons y r ih=>intro vs2 s;simp only[List.cons_append,jX];exact ih _ _
 rw[dO]
 cases hx:(x==g.2)with
 | true=>
  rw[hx,kE]at K
  rw[hx,kE,hp]at K'
  exact h hx Γ Z a w hR Q (l2++rest) fun a' w' hR'=>K Γ Z a' w' hR' Q rest K'
 | false=>
  have he:=qw (vs:=vs) (l:=l) (by simpa using hk.2.2)
  rw[hx,he]at K
  rw[hx,he,hp]at K'
  obtain⟨m,F,hR0⟩:=hR
  exact vx rfl hd hx hR0 hl (fun k hk=>by cases hk) hk.1 hk.2.1 Q (l2++rest) fun a' hR'=>K Γ rfl a' w ⟨m,F,hR'⟩ Q rest K'
theorem oU{g:Nat×Bool}{t:Nat}{x:Bool}{l:List Oper}{vs:List (Nat×A)}(hd:((all[g.1]?).bind (·.dst))=some t)(hl:lk s.env t=some (.c (.d (.bool x))))(h:(x==g.2)=true→AG σ all l s vs)(hk:gok σ all g t l vs=true)
  (K:AOps σ all Q rest (jX s (qT (x==g.2) vs))):AOps σ all Q (l++rest) s:=fun Γ e a w hR=>by
 have:=nH (l2:=[]) (vs2:=[]) hd hl h hk AG.nil Γ e a w hR (lh Γ Q) rest
 rw[List.append_nil]at this
 rw[List.append_nil]at this
 exact this fun a' w' hR'=>K Γ e a' w' hR'
def AN(σ:Sg)(all:Array Oper)(n:Nat)(l:List Oper)(s:St)(vs:List (Nat×A)):Prop:=AG σ all (l.take n) s vs
theorem AN.nil{l:List Oper}:AN σ all 0 l s []:=AG.nil
theorem AN.step{e:List (Nat×A)}{H:List (Nat×B)}{j t d n:Nat}{want x:Bool}{vs:List (Nat×A)}{l:List Oper}(hx:(x==want)=true)(hg:o.guard=some (j,want))(hd:((all[j]?).bind (·.dst))=some t)(hl:lk e t=some (.c (.d (.bool x))))(hv:Val σ ⟨e,H⟩ o v)(ho:o.dst=some d)
  (hn:Nat.blt d σ.nt=true) (K:AN σ all n l ⟨(d,v)::e,H⟩ vs):AN σ all (n+1) (o::l) ⟨e,H⟩ ((d,v)::vs):=AG.step hg hd hl hx hv ho hn K
theorem rP{j:Nat}{want:Bool}{t:Nat}{x:Bool}{l:List Oper}{l1:List Oper}(k:Nat){n:Nat}{vs vs2:List (Nat×A)}(hg:o.guard=some (j,want))(hd:((all[j]?).bind (·.dst))=some t)(hl:lk s.env t=some (.c (.d (.bool x))))
  (hk0:Nat.ble k (n+1)=true) (h:(x==want)=true→AN σ all k (o::l) s vs) (hk:gok σ all (j,want) t ((o::l).take k) vs=true) (hr:(o::l).drop k=l1)
  (K:AN σ all (n+1-k) l1 (jX s (qT (x==want) vs)) vs2):AN σ all (n+1) (o::l) s (qT (x==want) vs++vs2):=by
 have hle:k≤n+1:=Nat.le_of_ble_eq_true hk0
 have:=nH (g:=(j,want)) (l:=(o::l).take k) (l2:=l1.take (n+1-k)) hd hl h hk K
 rw[←hr]at this
 have e:(o::l).take k++((o::l).drop k).take (n+1-k)=(o::l).take (n+1):=by
  rw[←List.take_add,Nat.add_sub_cancel' hle]
 rw[e]at this
 exact this
theorem aX{j:Nat}{want:Bool}{t:Nat}{x:Bool}{l1:List Oper}(n:Nat){vs:List (Nat×A)}(hg:o.guard=some (j,want))(hd:((all[j]?).bind (·.dst))=some t)(hl:lk s.env t=some (.c (.d (.bool x))))
  (h:(x==want)=true→AN σ all n (o::rest) s vs) (hk:gok σ all (j,want) t ((o::rest).take n) vs=true) (hr:(o::rest).drop n=l1)
  (K:AOps σ all Q l1 (jX s (qT (x==want) vs))):AOps σ all Q (o::rest) s:=by
 rw[←List.take_append_drop n (o::rest),hr]
 exact oU (g:=(j,want)) hd hl h hk K
end
end Go.Al
/- The abstract logic, vp 14: calls with a plain answer; joins; other short cuts. -/
namespace Go.Al

def isD:M→Bool
 | .d _=>true
 | _=>false
def A.isD:A→Bool
 | .c x=>Al.isD x
 | .agg ms=>ms.all Al.isD
 | _=>false
theorem aV{H:List (Nat×B)}: ∀{ms:List M},ms.all isD=true→VMs H ms ms
 | [],_=>.nil
 | .d x::r,h=>.cons .d (aV (by simpa[isD]using h))
 | .rs _ _ _::r,h=>by simp[isD]at h
 | .rp _ _ _::r,h=>by simp[isD]at h
 | .pt _ _ _::r,h=>by simp[isD]at h
 | .mp _::r,h=>by simp[isD]at h
 | .fn _ _::r,h=>by simp[isD]at h
 | .fb _ _::r,h=>by simp[isD]at h
 | .ez::r,h=>by simp[isD]at h
 | .junk::r,h=>by simp[isD]at h
theorem ae{H:List (Nat×B)}: ∀{as:List A},as.all A.isD=true→VAs H as as
 | [],_=>.nil
 | x::r,h=>by
  simp only[List.all_cons,bD]at h
  refine .cons ?_ (ae h.2)
  have h1:=h.1
  unfold A.isD at h1
  split at h1
  rename_i y
  cases y<;>simp[isD]at h1
  exact .c .d
  exact .agg (aV h1)
  cases h1
section
variable{σ:Sg}{Q:b0}{all:Array Oper}{o:Oper}{rest:List Oper}{c:Call}{fx:Operand}{f:Nat}{caps:List M}{as ds:List A}{e:List (Nat×A)}{H:List (Nat×B)}{d:Nat}{v:A}
def Plain(r:A):A→List (Nat×B)→Prop:=fun x H=>x=r∧H=[]
def A.lone:A→Bool
 | .c (.d x)=>x.scalar
 | _=>false
theorem dh{v:A}(h:v.lone=true)(n:Nat):v.ren n=v∧du v=true:=by
 unfold A.lone at h
 split at h
 exact⟨Z,h⟩
 cases h
theorem aP(hσ:SgOk σ)(hop:o.op= .call c)(hc:c.callee= .value fx)(hf:ev ⟨e,H⟩ fx=some (.c (.fn f caps)))(has:iv ⟨e,H⟩ c.args.toList=some as)(hM:MC σ.P σ.L f ds [] (Plain v))(hv:VAs H (as++caps.map .c) ds)(hl:v.lone=true)
  (hs:Al.Oper.shorts o=true) (hg:o.guard=none) (hd:o.dst=some d) (hn:Nat.blt d σ.nt=true) {B0:Nat} (hu:(St.under B0 ⟨e,H⟩&&bz B0 σ.ins)=true) (K:AOps σ all Q rest ⟨(d,v)::e,H⟩):AOps σ all Q (o::rest) ⟨e,H⟩:=by
 refine lU hσ hop hc hf has hs hg hv hM hu fun res H' hQ=>?_
 obtain⟨rfl,rfl⟩:=hQ
 refine⟨by simp[(dh hl 0).2,eO],_,by rw[hd];simp only[Al.put,hn,cond_true];rfl,?_⟩
 rw[(dh hl B0).1]
 simpa[fP]using K
theorem cd{j t n:Nat}{want x:Bool}{vs:List (Nat×A)}{l:List Oper}(hσ:SgOk σ)(hx:(x==want)=true)(hop:o.op= .call c)(hc:c.callee= .value fx)(hf:ev ⟨e,H⟩ fx=some (.c (.fn f caps)))(has:iv ⟨e,H⟩ c.args.toList=some as)(hM:MC σ.P σ.L f ds [] (Plain v))(hv:VAs H (as++caps.map .c) ds)(hl:v.lone=true)
  (hs:Al.Oper.shorts o=true) (hg:o.guard=some (j,want)) (hdt:((all[j]?).bind (·.dst))=some t) (hlk:lk e t=some (.c (.d (.bool x)))) (hd:o.dst=some d) (hn:Nat.blt d σ.nt=true) {B0:Nat} (hu:(St.under B0 ⟨e,H⟩&&bz B0 σ.ins)=true)
  (K:AN σ all n l ⟨(d,v)::e,H⟩ vs):AN σ all (n+1) (o::l) ⟨e,H⟩ ((d,v)::vs):=fun Γ e' a w hR Q rest K'=>by
 subst e'
 obtain⟨m,F,hR0⟩:=hR
 simp only[bD]at hu
 obtain⟨cs,h1,h2⟩:=dL hσ hR0 hσ.lo hop hc hf has hs
 have hy:=dM hR0 hdt hlk
 refine lA (by simp only[Region.wanted,hg,hy];simpa using hx) fun K1 hK1=>?_
 simp only[Oper.wp,eP hM.1 hop hc h1,Oper.upon]
 refine Calls.mono (hR0.lent hM hv h2 hu.1 hu.2) fun en w' he=>?_
 cases en with
 | returned u=>
  obtain⟨res,H',⟨rfl,rfl⟩,h4⟩:=he
  obtain⟨m',F',h8,h9⟩:=h4 (by simp[(dh hl 0).2,eO])
  rw[(dh hl B0).1]at h9
  have h8':Rel0 Γ m' F' ⟨e,H⟩ a w':=by simpa[fP]using h8
  exact hK1 _ _ (K Γ Z _ _ ⟨m',F',h8'.put h9 (by simp[Al.put,hd,hn])⟩ Q rest K')
 | _=>exact he.elim
theorem MC.plain{P:Program}{L f:Nat}{args:List A}{Hin:List (Nat×B)}{v u:A}(h:MC P L f args Hin (Plain v))(hv:v=u):MC P L f args Hin (Plain u):=hv ▸ h
theorem aL{s:St}{n:Int}(hσ:SgOk σ)(h:fd σ.tt σ.L s o=some (.c (.d (.int .i64 (IntKind.i64.wrap n)))))(hs:Al.Oper.shorts o=true)(h1: -9223372036854775808≤n)(h2:n≤9223372036854775807):Val σ s o (.c (.d (.int .i64 n))):=
 sC hσ h hs h1 h2
end
end Go.Al
/- The abstract logic, vp 15: what is known of the size of what a slot holds. -/
namespace Go.Al

mutual
def D.fact(L:Nat):D→Prop
 | .int k n=>k.min≤n∧n≤k.max
 | .str s=>s.size≤L
 | .slc _ xs=>xs.length≤L∧Dss.fact L xs
 | .ptr cs _=>Ds.fact L cs
 | _=>True
def Ds.fact(L:Nat):List D→Prop
 | []=>True
 | d::r=>D.fact L d∧Ds.fact L r
def Dss.fact(L:Nat):List (List D)→Prop
 | []=>True
 | e::r=>Ds.fact L e∧Dss.fact L r
end
theorem e5{L:Nat}: ∀{xs ys:List D},Ds.fact L (xs++ys)↔Ds.fact L xs∧Ds.fact L ys
 | [],ys=>by simp[Ds.fact]
 | x::xs,ys=>by simp only[List.cons_append,Ds.fact,e5,and_assoc]
theorem dR{L:Nat}: ∀{xs:List (List D)},Ds.fact L xs.flatten→Dss.fact L xs
 | [],_=>by simp[Dss.fact]
 | e::r,h=>by
  rw[List.flatten_cons,e5]at h
  exact⟨h.1,dR h.2⟩
theorem dz{L:Nat}{α:Type}{f:α→List D}: ∀{l:List α},Dss.fact L (l.map f)↔∀a∈l,Ds.fact L (f a)
 | []=>by simp[Dss.fact]
 | x::r=>by simp only[List.map_cons,Dss.fact,dz,List.forall_mem_cons]
mutual
theorem RD.fact{L:Nat}{w:World}{ok:Nat→Prop}: ∀{d v F},RD L w ok d v F→D.fact L d
 | _,_,_,.int h1 h2=>⟨h1,h2⟩
 | _,_,_,.bool=>trivial
 | _,_,_,.str h=>h
 | _,_,_,.nils=>trivial
 | _,_,_,.nilp=>trivial
 | _,_,_,.nilf=>trivial
 | _,_,_,.nilm=>trivial
 | _,_,_,.slc0=>⟨co _,trivial⟩
 | _,_,_,.slc h1 _ _ _ _ h=>⟨h1,dR (RDs.fact h)⟩
 | _,_,_,.own h1 _ _ _ _ _ h=>⟨h1,dR (RDs.fact h)⟩
 | _,_,_,.ptr _ _ h=>RDs.fact h
 | _,_,_,.any _ _=>trivial
theorem RDs.fact{L:Nat}{w:World}{ok:Nat→Prop}: ∀{ds b o F},RDs L w ok ds b o F→Ds.fact L ds
 | _,_,_,_,.nil=>trivial
 | _,_,_,_,.cons _ h1 h2=>⟨RD.fact h1,RDs.fact h2⟩
end
def M.fact(L:Nat):M→Prop
 | .d x=>D.fact L x
 | _=>True
def Ms.fact(L:Nat):List M→Prop
 | []=>True
 | x::r=>M.fact L x∧Ms.fact L r
def A.fact(L:Nat):A→Prop
 | .c x=>M.fact L x
 | .agg ms=>Ms.fact L ms
 | _=>True
def As.fact(L:Nat):List A→Prop
 | []=>True
 | x::r=>A.fact L x∧As.fact L r
theorem RM.fact{L w ok m x v}(h:RM L w ok m x v):M.fact L x:=by
 cases h with
 | d h=>exact h.fact
 | _=>trivial
theorem RMs.fact{L w ok m}: ∀{xs vs},RMs L w ok m xs vs→Ms.fact L xs
 | _,_,.nil=>trivial
 | _,_,.cons h1 h2=>⟨h1.fact,RMs.fact h2⟩
theorem RA.fact{L w ok m x v}(h:RA L w ok m x v):A.fact L x:=by
 cases h with
 | c h=>exact h.fact
 | agg h=>exact h.fact
 | _=>trivial
theorem RAs.fact{L w ok m}: ∀{xs vs},RAs L w ok m xs vs→As.fact L xs
 | _,_,.nil=>trivial
 | _,_,.cons h1 h2=>⟨h1.fact,RAs.fact h2⟩
def B.fact(L:Nat):B→Prop
 | .row _ _ xs=>xs.length≤L∧Dss.fact L xs
 | .box ms=>Ms.fact L ms
 | .map _=>True
theorem RB.fact{L w ok m blk loc F}(h:RB L w ok m blk loc F):B.fact L blk:=by
 cases h with
 | nil=>exact⟨co _,trivial⟩
 | row h1 _ _ _ _ _ h _=>exact⟨h1,dR h.fact⟩
 | box _ h=>exact h.fact
 | map _ _=>trivial
section
variable{σ:Sg}{Q:b0}{all:Array Oper}{l:List Oper}{c:Code}{s:St}
theorem gJ(k:Nat){b:B}(h:lk s.H k=some b)(K:B.fact σ.L b→AWP σ c Q s):AWP σ c Q s:=fun Γ e a w hR=>by
 subst e
 obtain⟨m,F,hR0⟩:=hR
 obtain⟨F1,h1,_⟩:=hR0.H.get h
 exact K h1.fact Γ Z a w ⟨m,F,hR0⟩
theorem MC.facts{P:Program}{L f:Nat}{args:List A}{Hin:List (Nat×B)}{Q:A→List (Nat×B)→Prop}(hc:fJ P f)(h:As.fact L args→MC P L f args Hin Q):MC P L f args Hin Q:=
 ⟨hc,fun w m F ok vs h0 h1 h2 h3 h4 h5=>(h h5.fact).2 w m F ok vs h0 h1 h2 h3 h4 h5⟩
theorem MC.body{L nt:Nat}{P:Program}{tt:List (Nat×TI)}(hσ:SgOk ⟨P,tt,L,nt,[]⟩){f:Nat}{fn:Func}{c:Code}{args:List A}{Q:A→List (Nat×B)→Prop}(hf:P.funcs[f]? = some fn)(hn:(fn.name== "runtime.NumGoroutine")=false)(hb:fn.body=some c)
  (hnt:fn.ntmps=nt) (ha:args.length≤nt)
  (h:As.fact L args→AWP ⟨P,tt,L,nt,[]⟩ c (fun e s=>(e= .ret∨e= .normal)∧∃s2,Ent ⟨P,tt,L,nt,[]⟩ s s2∧∃res,dw tt s2 fn.results.toList=some res∧Q res s2.H) ⟨bN 0 args,[]⟩):MC P L f args [] Q:=
 MC.facts ⟨fn,c,hf,hn,hb⟩ fun hF=>MC.intro (σ:=⟨P,tt,L,nt,[]⟩) hσ hf hn hb hnt Z ha (h hF)
theorem al{X:Type}(I:X→St)(p:X→Prop)(μ:X→Nat)(x:X)(h0:Ent σ s (I x))(hp:p x)(h: ∀x,p x→AWP σ c (jz (fun s'=> ∃y,Ent σ s' (I y)∧p y∧μ y<μ x) Q) (I x)):AWP σ (.loop c) Q s:=
 AWP.loop (X:={x // p x}) (fun y=>I y.1) (fun y=>μ y.1) ⟨x,hp⟩ h0 fun y=>(h y.1 y.2).mono fun e s' hq=>by
 cases e with
 | normal=>obtain⟨z,h1,h2,h3⟩:=hq;exact⟨⟨z,h2⟩,h1,h3⟩
 | _=>exact hq
theorem mn{α β:Type}[Inhabited α]{l:List α}{f:α→β}{n:Int}(h0:0≤n)(h:n<(l.length:Int)):(l.map f)[n.toNat]? = some (f (l.getD n.toNat default)):=by
 have:n.toNat<l.length:=by omega
 simp[this]
theorem bK{e:List (Nat×A)}{H:List (Nat×B)}(hσ:SgOk σ){α:Type}{f:α→List D}{xs:List α}{sz t:Nat}{x:Operand}{o:Oper}{cl:Call}{i:TI}(ho:o.op= .call cl)(hb:cl.callee= .builtin .len)(ha:cl.args.toList=[x])(ht:cl.argTypes.toList=[t])(hs:Al.Oper.shorts o=true)
  (hx:ev ⟨e,H⟩ x=some (.c (.d (.slc sz (xs.map f))))) (hi:lk σ.tt t=some i) (hk:Nat.beq i.kind 1=true):Val σ ⟨e,H⟩ o (.c (.d (.int .i64 xs.length))):=by
 refine Val.of hσ ?_ hs
 simp only[fd,ho,hb,ha,ht,hx,sP,hi,hk,cond_true,aQ]
end
end Go.Al
/- The abstract logic, vp 16: steps that make blocks. -/
namespace Go.Al

def HS(σ:Sg)(s:St)(o:Oper)(s':St):Prop:= ∀Γ:Ctx,Γ.toSg=σ→∀m F a w,Rel0 Γ m F s a w→
 (∃u w',(execOp a.eval o).run σ.P w= .ok (.value u) w'∧fz Γ s' (a.put o.dst u) w')∨(∃w',(execOp a.eval o).run σ.P w= .ok .skip w'∧fz Γ s' (a.put o.dst undef) w')
section
variable{σ:Sg}{Q:b0}{all:Array Oper}{rest:List Oper}{o:Oper}{s s':St}{e:List (Nat×A)}{H:List (Nat×B)}{d:Nat}
theorem AOps.heap(h:HS σ s o s')(hg:o.guard=none)(K:AOps σ all Q rest s'):AOps σ all Q (o::rest) s:=fun Γ e a w hR=>by
 subst e
 obtain⟨m,F,hR0⟩:=hR
 rcases h Γ rfl m F a w hR0 with⟨u,w',h1,h2⟩|⟨w',h1,h2⟩
 refine wpList_plain hg fun K' hK=>?_
 simp only[Oper.wp,h1,Oper.upon]
 exact hK _ _ (K Γ Z _ _ h2)
 refine wpList_plain hg fun K' hK=>?_
 simp only[Oper.wp,h1,Oper.upon]
 exact hK _ _ (K Γ Z _ _ h2)
theorem HS.box(hσ:SgOk σ){t:Nat}{x:Operand}{v:A}{ms:List M}(ho:o.op= .box t x)(hs:Operand.short x=true)(hx:ev ⟨e,H⟩ x=some v)(hm:v.cells=some ms)(hd:o.dst=some d)(hf:St.fresh ⟨e,H⟩ σ d=true)(hn:Nat.blt d σ.nt=true) :
  HS σ ⟨e,H⟩ o ⟨(d,.c (.pt d 0 0))::e,ins H d (.box ms)⟩:=fun Γ eq m F a w hR=>by
 subst eq
 obtain⟨hf1,hf2⟩:=bo hf
 have h1:=hR.rebase (l:=d) hf1 hf2 w.heap.size
 have h2:=RA.cells (h1.ev hσ.lo hs hx) hm
 refine .inl ⟨.pointer (some ⟨w.heap.size,0,none⟩),w.alloc (.cells (a.eval x).cells t),?_,?_⟩
 simp[execOp,ho,Instr.box,newVar,newRow,newObj,Sem.run]
 rw[hd]
 exact kW h1 (bV _ _ _) h2 (by simp[sQ,hf,Al.put,hn])
theorem HS.alloc(hσ:SgOk σ){t:Nat}{i:TI}(ho:o.op= .alloc t)(ht:lk σ.tt t=some i)(hd:o.dst=some d)(hf:St.fresh ⟨e,H⟩ σ d=true)(hn:Nat.blt d σ.nt=true) :
  HS σ ⟨e,H⟩ o ⟨(d,.c (.pt d 0 0))::e,ins H d (.box (i.zero.map .d))⟩:=fun Γ eq m F a w hR=>by
 subst eq
 obtain⟨hf1,hf2⟩:=bo hf
 have h1:=hR.rebase (l:=d) hf1 hf2 w.heap.size
 obtain⟨x,hx,hsz,hby,z,hzz,hzl⟩:=(hσ.tt.get ht).info
 have h2:RMs Γ.L w (Γ.ok F) (fM m d (.bx w.heap.size)) (i.zero.map .d) z.cells.toList:=by rw[hzl];exact kv (TTplain.get hσ.plain ht)
 refine .inl ⟨.pointer (some ⟨w.heap.size,0,none⟩),w.alloc (.cells z.cells t),?_,?_⟩
 simp[execOp,ho,Instr.alloc,zeroValue,typeInfo,hx,hzz,newVar,newRow,newObj,Sem.run]
 rw[hd]
 exact kW h1 (bV _ _ _) h2 (by simp[sQ,hf,Al.put,hn])
theorem HS.lit(hσ:SgOk σ){t n:Nat}{parts:Array (Nat×Operand)}(ho:o.op= .buildSlice t n parts)(hs:parts.toList.all (fun x=>Al.Operand.short x.2)=true)(h:sO σ s o.dst t n parts.toList=some s'):HS σ s o s':=fun Γ eq m F a w hR=>by
 subst eq
 obtain⟨x,w',h1,h2⟩:=oL hσ.tt hσ.plain hσ.lo hR hs h
 refine .inl ⟨x,w',?_,h2⟩
 have:(parts.map fun x=>(x.1,a.eval x.2))=(parts.toList.map fun x=>(x.1,a.eval x.2)).toArray:=by
  apply Array.ext';simp
 simp only[execOp,ho]
 rw[show(parts.map fun(i,x)=>(i,a.eval x))=(parts.toList.map fun x=>(x.1,a.eval x.2)).toArray from this]
 simp[h1]
theorem sa{z:Array Value}{n:Nat}{j:Nat}{v:Value}(h:((List.replicate n z.toList).flatten)[j]? = some v)(N:Nat)(hN:n*z.size≤N):(madeCells z N)[j]? = some v:=by
 have hlt:j<n*z.size:=by
  have:=(List.getElem?_eq_some_iff.1 h).1
  simpa using this
 have hz:0<z.size:=by
  rcases Nat.eq_zero_or_pos z.size with e|e
  rw[e,Nat.mul_zero]at hlt;omega
  exact e
 have hmod:j%z.size<z.size:=Nat.mod_lt _ hz
 have h1:((List.replicate n z.toList).flatten)[j]? = z.toList[j%z.size]? := by
  clear h
  induction n generalizing j with
  | zero=>simp at hlt
  | succ n ih=>
   rw[List.replicate_succ,List.flatten_cons]
   by_cases hj:j<z.size
   rw[List.getElem?_append_left (by simpa using hj),Nat.mod_eq_of_lt hj]
   rw[List.getElem?_append_right (by simp;omega)]
   rw[Nat.add_mul,Nat.one_mul]at hlt hN
   have:=ih (j:=j-z.size) (by omega) (by omega) (by rw[←Nat.mod_eq_sub_mod (by omega)];exact hmod)
   rw[Array.length_toList,this,←Nat.mod_eq_sub_mod (by omega)]
 rw[h1]at h
 have hjN:j<N:=by omega
 have h2:z[j%z.size]? = some v:=by simpa using h
 simp only[madeCells]
 rw[Array.getElem?_map,Array.getElem?_range]
 simp only[hjN,if_true,Option.map_some]
 rw[getElem!_def,h2]
theorem fo(hσ:SgOk σ){t:Nat}{x y:Operand}{k1 k2:IntKind}{n c:Int}{i j:TI}(ho:o.op= .makeSlice t x y)(hs1:Operand.short x=true)(hs2:Operand.short y=true)(hx:ev ⟨e,H⟩ x=some (.c (.d (.int k1 n))))(hy:ev ⟨e,H⟩ y=some (.c (.d (.int k2 c))))
  (ht:lk σ.tt t=some i) (hk:Nat.beq i.kind 1=true) (hj:lk σ.tt i.elem=some j) (hz:Nat.beq j.zero.length j.size=true) (h0:0≤n) (hnc:n≤c) (hL:n≤σ.L) (hc:j.bytes*c≤281474976710656) (hm:c≤140737488355328)
  (hd:o.dst=some d) (hf:St.fresh ⟨e,H⟩ σ d=true) (hn:Nat.blt d σ.nt=true) :
  HS σ ⟨e,H⟩ o ⟨(d,.c (.rs d 0 n.toNat))::e,ins H d (.row true j.size (List.replicate n.toNat j.zero))⟩:=fun Γ eq m F a w hR=>by
 subst eq
 have int_inv: ∀{k:IntKind} {n:Int} {v:Value},RA Γ.L w (Γ.ok F) m (.c (.d (.int k n))) v→v= .int k n:=by
  intro k n v h
  cases h with|c h=>cases h with|d h=>cases h;rfl
 have e1:=int_inv (hR.ev hσ.lo hs1 hx)
 have e2:=int_inv (hR.ev hσ.lo hs2 hy)
 have hu:=(hσ.tt.get ht).isSlice (tN.1 hk)
 obtain⟨q,hq,hsz,hby,z,hzz,hzl⟩:=(hσ.tt.get hj).info
 have hzsize:z.cells.size=j.size:=by
  rw[←Array.length_toList,hzl,aQ];exact tN.1 hz
 have hrun:=run_make (P:=Γ.P) w t i.elem q z hu hq hzz k1 k2 n c h0 hnc (by rw[hby];exact hc) (by omega)
 rw[hsz]at hrun
 have hlen:(List.replicate n.toNat j.zero).length=n.toNat:=List.length_replicate
 refine .inl ⟨_,_,by simp[execOp,ho,e1,e2,hrun];exact⟨Z,Z⟩,?_⟩
 rw[hd]
 have hR1:Rel1 Γ m F ([]++[]) ⟨e,H⟩ a w:=hR.to1
 have hx:RDL Γ.L w (fun b=>true=false∧Γ.ok F b) (List.replicate n.toNat j.zero).flatten (List.replicate n.toNat z.cells.toList).flatten []:=by
  rw[hzl]
  generalize n.toNat=k
  have base: ∀{zs:List D},zs.all D.plain=true→RDL Γ.L w (fun b=>true=false∧Γ.ok F b) zs (zs.map D.val) []:=by
   intro zs
   induction zs with
   | nil=>intro _;exact .nil
   | cons x r ih=>
    intro h
    simp only[List.all_cons,bD]at h
    exact .cons (F1:=[]) (F2:=[]) (eX h.1) (ih h.2)
  induction k with
  | zero=>exact .nil
  | succ k ih=>
   rw[List.replicate_succ,List.replicate_succ,List.flatten_cons,List.flatten_cons]
   exact RDL.append (F:=[]) (G:=[]) (base (TTplain.get hσ.plain hj)) ih
 have hmul:n.toNat*z.cells.size≤c.toNat*j.size:=by rw[hzsize];exact Nat.mul_le_mul_right _ (by omega)
 have:=Rel1.newRow (T:=i.elem) (bO:=madeCells z.cells (c.toNat*j.size)) (cap:=c.toNat) hR1 hR.dom hf (own:=true) (sz:=j.size) hx (fun h=>by cases h) (by rw[hlen];omega) (by rw[hlen];omega)
  (fun e' he'=>by rw[List.mem_replicate]at he';rw[he'.2];exact tN.1 hz) (fun k v hk=>sa hk _ hmul) (by rw[size_madeCells];exact cm _) (by unfold maxLen;omega) (s':=⟨(d,.c (.rs d 0 (List.replicate n.toNat j.zero).length))::e,ins H d (.row true j.size (List.replicate n.toNat j.zero))⟩)
  (by simp[Al.put,hn])
 rw[hlen]at this
 exact this
end
end Go.Al
/- The abstract logic, vp 17: stores. -/
namespace Go.Al

mutual
def M.noRp(l:Nat):M→Bool
 | .rp k _ _=>!Nat.beq k l
 | .fn _ caps=>Ms.noRp l caps
 | .fb _ caps=>Ms.noRp l caps
 | _=>true
def Ms.noRp(l:Nat):List M→Bool
 | []=>true
 | x::r=>M.noRp l x&&Ms.noRp l r
end
mutual
def A.noRp(l:Nat):A→Bool
 | .c x=>M.noRp l x
 | .agg ms=>Ms.noRp l ms
 | .tup vs=>As.noRp l vs
 | _=>true
def As.noRp(l:Nat):List A→Bool
 | []=>true
 | x::r=>A.noRp l x&&As.noRp l r
end
def fm(l:Nat):List (Nat×A)→Bool
 | []=>true
 | (_,v)::r=>A.noRp l v&&fm l r
def ly(l:Nat):List (Nat×B)→Bool
 | []=>true
 | (_,.row _ _ _)::r=>ly l r
 | (_,.box ms)::r=>Ms.noRp l ms&&ly l r
 | (_,.map _)::r=>ly l r
def St.noRp(l:Nat)(s:St):Bool:=fm l s.env&&ly l s.H
theorem oJ{l:Nat}{e:List (Nat×A)}(h:fm l e=true){t:Nat}{v:A}(hv:lk e t=some v):A.noRp l v=true:=by
 induction e with
 | nil=>simp[aU]at hv
 | cons x r ih=>
  obtain⟨k,u⟩:=x
  simp only[fm,bD]at h
  rw[aw]at hv
  split at hv
  simp at hv;subst hv;exact h.1
  exact ih h.2 hv
section
variable{L:Nat}{w w':World}{ok ok':Nat→Prop}{m:Nat→Loc}{l:Nat}
mutual
theorem RM.pass(h:Keep w w' ok ok')
  (hp: ∀k b cap sz i j x n c,k≠l→m k= .at b cap sz→w.cell? ⟨b,i*sz+j,none⟩=some (.slice x n c)→w'.cell? ⟨b,i*sz+j,none⟩=some (.slice x n c)) :
  ∀{x v},RM L w ok m x v→M.noRp l x=true→RM L w' ok' m x v
 | _,_,.d h1,_=>.d (h1.mono h.imm h.size (by simp))
 | _,_,.rs h1 h2 h3 h4,hf=>.rs h1 h2 h3 h4
 | _,_,.rsNil h1,hf=>.rsNil h1
 | _,_,.rp h1 h2,hf=>.rp h1 (hp _ _ _ _ _ _ _ _ _ (qC.1 (by simpa[M.noRp]using hf)) h1 h2)
 | _,_,.pt h1,hf=>.pt h1
 | _,_,.pb h1,hf=>.pb h1
 | _,_,.mp h1,hf=>.mp h1
 | _,_,.fn h1,hf=>.fn (RMs.pass h hp h1 (by simpa[M.noRp]using hf))
 | _,_,.fb h1,hf=>.fb (RMs.pass h hp h1 (by simpa[M.noRp]using hf))
 | _,_,.ez,_=>.ez
 | _,_,.junk h1,_=>.junk h1
theorem RMs.pass(h:Keep w w' ok ok')
  (hp: ∀k b cap sz i j x n c,k≠l→m k= .at b cap sz→w.cell? ⟨b,i*sz+j,none⟩=some (.slice x n c)→w'.cell? ⟨b,i*sz+j,none⟩=some (.slice x n c)) :
  ∀{xs vs},RMs L w ok m xs vs→Ms.noRp l xs=true→RMs L w' ok' m xs vs
 | _,_,.nil,_=>.nil
 | _,_,.cons h1 h2,hf=>.cons (RM.pass h hp h1 (by simp[Ms.noRp]at hf;exact hf.1)) (RMs.pass h hp h2 (by simp[Ms.noRp]at hf;exact hf.2))
end
mutual
theorem RA.pass(h:Keep w w' ok ok')
  (hp: ∀k b cap sz i j x n c,k≠l→m k= .at b cap sz→w.cell? ⟨b,i*sz+j,none⟩=some (.slice x n c)→w'.cell? ⟨b,i*sz+j,none⟩=some (.slice x n c)) :
  ∀{x v},RA L w ok m x v→A.noRp l x=true→RA L w' ok' m x v
 | _,_,.c h1,hf=>.c (h1.pass h hp (by simpa[A.noRp]using hf))
 | _,_,.agg h1,hf=>.agg (RMs.pass h hp h1 (by simpa[A.noRp]using hf))
 | _,_,.tup h1,hf=>.tup (RAs.pass h hp h1 (by simpa[A.noRp]using hf))
 | _,_,.junk,_=>.junk
 | _,_,.un,_=>.un
theorem RAs.pass(h:Keep w w' ok ok')
  (hp: ∀k b cap sz i j x n c,k≠l→m k= .at b cap sz→w.cell? ⟨b,i*sz+j,none⟩=some (.slice x n c)→w'.cell? ⟨b,i*sz+j,none⟩=some (.slice x n c)) :
  ∀{xs vs},RAs L w ok m xs vs→As.noRp l xs=true→RAs L w' ok' m xs vs
 | _,_,.nil,_=>.nil
 | _,_,.cons h1 h2,hf=>.cons (RA.pass h hp h1 (by simp[As.noRp]at hf;exact hf.1)) (RAs.pass h hp h2 (by simp[As.noRp]at hf;exact hf.2))
end
theorem RB.pass(h:Keep w w' ok ok')
  (hp: ∀k b cap sz i j x n c,k≠l→m k= .at b cap sz→w.cell? ⟨b,i*sz+j,none⟩=some (.slice x n c)→w'.cell? ⟨b,i*sz+j,none⟩=some (.slice x n c))
  {blk loc F} (hb:RB L w ok m blk loc F) (hf: ∀ms,blk= .box ms→Ms.noRp l ms=true) (hF: ∀b∈F,Same w w' b):RB L w' ok' m blk loc F:=by
 cases hb with
 | nil=>exact .nil
 | row h1 h2 h3 h4 h5 h6 h7 h8=>
  exact .row h1 h2 h3 ((hF _ (by simp)).trans h4) h5 h6 (h7.mono (fun b hb hok=>⟨⟨hok.1,(h.imm b hb hok.2).1⟩,(h.imm b hb hok.2).2⟩) h.size (hF _ (by simp)) (fun b hb=>hF b (by simp[hb]))) h8
 | box h1 h2=>exact .box ((hF _ (by simp)).trans h1) (RMs.pass h hp h2 (hf _ Z))
 | map h1 h2=>exact .map ((hF _ (by simp)).trans h1) (h2.mono h.imm h.size)
theorem RH.pass(h:Keep w w' ok ok')
  (hp: ∀k b cap sz i j x n c,k≠l→m k= .at b cap sz→w.cell? ⟨b,i*sz+j,none⟩=some (.slice x n c)→w'.cell? ⟨b,i*sz+j,none⟩=some (.slice x n c)) :
  ∀{H F},RH L w ok m H F→ly l H=true→(∀b∈F,Same w w' b)→RH L w' ok' m H F
 | _,_,.nil,_,_=>.nil
 | _,_,.cons (blk:=.row _ _ _) h1 h2,hf,hF=>.cons (h1.pass h hp (fun ms e=>by cases e) (fun b hb=>hF b (by simp[hb]))) (RH.pass h hp h2 hf (fun b hb=>hF b (by simp[hb])))
 | _,_,.cons (blk:=.map _) h1 h2,hf,hF=>.cons (h1.pass h hp (fun ms e=>by cases e) (fun b hb=>hF b (by simp[hb]))) (RH.pass h hp h2 hf (fun b hb=>hF b (by simp[hb])))
 | _,_,.cons (blk:=.box ms) h1 h2,hf,hF=>by
  simp only[ly,bD]at hf
  exact .cons (h1.pass h hp (fun ms' e=>by cases e;exact hf.1) (fun b hb=>hF b (by simp[hb]))) (RH.pass h hp h2 hf.2 (fun b hb=>hF b (by simp[hb])))
end
theorem nO{Γ m F E s a w w'}{l:Nat}(h:Rel1 Γ m F E s a w)(hl:s.noRp l=true)(hos:w'.os=w.os)(ht:w'.tape=w.tape)(ho:w'.output=w.output)(hz:w'.heap.size=w.heap.size)(hs: ∀b,b ∉ E→Same w w' b)
  (hp: ∀k b cap sz i j x n c,b∈E→k≠l→m k= .at b cap sz→w.cell? ⟨b,i*sz+j,none⟩=some (.slice x n c)→w'.cell? ⟨b,i*sz+j,none⟩=some (.slice x n c)):Rel1 Γ m F E s a w':=by
 obtain⟨FH,h1,h2⟩:=h.H
 simp only[St.noRp,bD]at hl
 have hE: ∀b,b∈E→b∈F:=fun b hb=>h2.mem_iff.2 (List.mem_append_right _ hb)
 have hk:Keep w w' (Γ.ok F) (Γ.ok F):=⟨by omega,fun b _ hok=>⟨hok,hs b (fun hb=>hok.1 (hE b hb))⟩⟩
 have hp': ∀k b cap sz i j x n c,k≠l→m k=Loc.at b cap sz→w.cell? ⟨b,i*sz+j,none⟩=some (.slice x n c)→w'.cell? ⟨b,i*sz+j,none⟩=some (.slice x n c):=fun k b cap sz i j x n c hkl hm hc=>by
  by_cases hb:b∈E
  ·
   exact hp k b cap sz i j x n c hb hkl hm hc
  ·
   exact(hs b hb).cell.trans hc
 have hnd:(FH++E).Nodup:=h2.nodup_iff.1 h.nodup
 refine⟨⟨FH,h1.pass hk hp' hl.2 (fun b hb=>hs b (fun hb'=>(List.nodup_append.1 hnd).2.2 b hb b hb' Z)),h2⟩,h.nodup,fun b hb=>by rw[hz];exact h.lt b hb,h.own,fun t v hv=>(h.env t v hv).pass hk hp' (oJ hl.1 hv),h.size,h.defers,
  ⟨hos.trans h.frame.os,ht.trans h.frame.tape,ho.trans h.frame.output,by rw[hz];exact h.frame.size,fun b hb hn=>(hs b (fun hb'=>?_)).trans (h.frame.block b hb hn)⟩,h.keep⟩
 rcases h.own b (hE b hb')with h3|h3
 omega
 exact hn h3
theorem Rel1.notE{Γ m F E s a w}(h:Rel1 Γ m F E s a w){k b cap sz:Nat}(hk:(lk s.H k).isSome=true)(hm:m k= .at b cap sz):b ∉ E:=by
 obtain⟨FH,h1,h2⟩:=h.H
 have hnd:(FH++E).Nodup:=h2.nodup_iff.1 h.nodup
 obtain⟨blk,hb⟩:=Option.isSome_iff_exists.1 hk
 obtain⟨F1,h3,h4⟩:=h1.get hb
 rw[hm]at h3
 intro hE
 have:b∈F1:=by cases h3;simp
 exact(List.nodup_append.1 hnd).2.2 b (h4.subset this) b hE Z
theorem md{P:Program}{t:Nat}{i:TI}(ht:TIok P t i){w:World}{b o:Nat}{bO:Array Value}{T:Nat}{x:Value}(hb:w.heap[b]? = some (.cells bO T (0,0)))(hx:x.cells.size=i.size)(hle:o+i.size≤bO.size)(h1: ∀v∈x.cells.toList,v.oneCell'=true) :
  (Instr.storeAt t (.pointer (some ⟨b,o,none⟩)) x).run P w= .ok () (w.setRow b (bO.toList.take o++x.cells.toList++bO.toList.drop (o+i.size)).toArray):=by
 have h:=run_storeCells_at (P:=P) b o T x.cells.toList 0 bO w hb (by simp[hx];exact hle) h1
 simp only[Nat.add_zero,Array.length_toList,hx]at h
 simp[Instr.storeAt,Instr.sureAddr,storeVar,ht.run_sizeOf,hx]
 simpa using h
section
variable{σ:Sg}{Q:b0}{all:Array Oper}{rest:List Oper}{o:Oper}{s s':St}{e:List (Nat×A)}{H:List (Nat×B)}
theorem jS(hσ:SgOk σ){t l j:Nat}{x y:Operand}{v:A}{cs ms:List M}{i:TI}(ho:o.op= .store t x y)(hs1:Operand.short x=true)(hs2:Operand.short y=true)(hx:ev ⟨e,H⟩ x=some (.c (.pt l 0 j)))(hl:lk H l=some (.box cs))(hy:ev ⟨e,H⟩ y=some v)(hm:v.cells=some ms)
  (ht:lk σ.tt t=some i) (hz:Nat.beq ms.length i.size=true) (hle:Nat.ble (j+i.size) cs.length=true) (hd:o.dst=none) :
  HS σ ⟨e,H⟩ o ⟨e,ins (dG H l) l (.box (splice cs j ms))⟩:=fun Γ eq m F a w hR=>by
 subst eq
 obtain⟨Fl,G,hB,hR1⟩:=hR.to1.take hl
 have h2:=RA.cells (hR.ev hσ.lo hs2 hy) hm
 have hp:=hR.ev hσ.lo hs1 hx
 have hzl:=tN.1 hz
 have hle':j+i.size≤cs.length:=Nat.le_of_ble_eq_true hle
 generalize hq:m l=loc at hB
 cases hB with
 | @box _ b bO T h3 h4=>
  have hlen:=h4.length
  have hpv:a.eval x= .pointer (some ⟨b,j,none⟩):=by
   generalize a.eval x=p at hp
   cases hp with
   | c hp=>cases hp with
    | pt h5=>rw[hq]at h5;cases h5
    | pb h5=>rw[hq]at h5;cases h5;rfl
  have hxs:(a.eval y).cells.size=i.size:=by rw[←Array.length_toList,←h2.length];exact hzl
  have hrun:=md (hσ.tt.get ht) (o:=j) h3 hxs (by rw[←Array.length_toList,←hlen];exact hle') h2.oneCell
  refine .inr ⟨w.setRow b (bO.toList.take j++(a.eval y).cells.toList++bO.toList.drop (j+i.size)).toArray,by simp only[execOp,ho,hpv,Sem.run_bind,hrun,Result.andThen_ok,Sem.run_pure],?_⟩
  have hD:Dom m ⟨e,dG H l⟩:=fun k b' cap sz hk=>by
   have hne:l≠k:=fun e'=>by subst e';rw[hq]at hk;cases hk
   have:=hR.dom k b' cap sz hk
   simp only[cW,if_neg hne];exact this
  have hw:=Rel1.write hR1 (w':=w.setRow b (bO.toList.take j++(a.eval y).cells.toList++bO.toList.drop (j+i.size)).toArray) rfl rfl rfl (by simp[World.setRow]) (fun b' hb'=>setRow_other _ _ _ _ (fun e'=>hb' (by subst e';simp)))
   (fun k b' cap sz i' j' x' n c hb' hk _=>absurd hb' (hR1.notE (hD k b' cap sz hk) hk))
  have hB':RB Γ.L (w.setRow b (bO.toList.take j++(a.eval y).cells.toList++bO.toList.drop (j+i.size)).toArray) (Γ.ok F) m (.box (splice cs j ms)) (m l) [b]:=by
   rw[hq]
   refine .box (setRow_heap w b bO _ T (0,0) h3) ?_
   have h6:RMs Γ.L w (Γ.ok F) m (splice cs j ms) (bO.toList.take j++(a.eval y).cells.toList++bO.toList.drop (j+i.size)):=by
    have h7:=RMs.splice h4 h2 j
    rw[←h2.length,hzl]at h7
    simpa[dO]using h7
   have hkp:Keep w (w.setRow b (bO.toList.take j++(a.eval y).cells.toList++bO.toList.drop (j+i.size)).toArray) (Γ.ok F) (Γ.ok F):=⟨by simp[World.setRow],fun b' _ hok=>⟨hok,setRow_other _ _ _ _ (fun e'=>hok.1 (by
    subst e'
    obtain⟨FH,g1,g2⟩:=hR1.H
    exact g2.mem_iff.2 (by simp)))⟩⟩
   have:=h6.over (m:=m) hkp (fun k b' cap sz i' j' x' n c hk hc=>by
    have hb':b'≠b:=fun e'=>by
     subst e'
     exact hR1.notE (hD k b' cap sz hk) hk (by simp)
    rw[cell_setRow_other _ _ _ _ (by simpa using hb')];exact hc)
   simpa using this
  have:=Rel1.back (E1:=[b]) (E2:=G++[]) (l:=l) hw (by simp[cW]) hB' (fun hi=>hR.keep l hi (by simp[hl]))
  rw[hd]
  refine Rel1.toRel (m:=m) (F:=F) (E:=G++[]) ?_ ?_
  exact⟨this.H,this.nodup,this.lt,this.own,this.env,this.size,this.defers,this.frame,this.keep⟩
  intro k b' cap sz hk
  have:=hD k b' cap sz hk
  have hne:l≠k:=fun e'=>by subst e';rw[hq]at hk;cases hk
  simp only[dn,if_neg hne];exact this
end

theorem RDL.segs{L w ok}: ∀{xs ys:List D} {vs:List Value} {F:List Nat},RDL L w ok (xs++ys) vs F→∃v1 v2 F1 F2,vs=v1++v2∧F=F1++F2∧RDL L w ok xs v1 F1∧RDL L w ok ys v2 F2
 | [],ys,vs,F,h=>⟨[],vs,[],F,rfl,rfl,.nil,h⟩
 | x :: xs,ys,vs,F,h=>by
  rw[List.cons_append]at h
  cases h with
  | cons h1 h2=>
   obtain⟨v1,v2,F1,F2,rfl,rfl,h3,h4⟩:=RDL.segs h2
   exact⟨_::v1,v2,_++F1,F2,Z,(dO _ _ _).symm,.cons h1 h3,h4⟩
theorem io{Γ m F Fd E s a w}(h:Rel1 Γ m F (Fd++E) s a w)(hD:Dom m s){l:Nat}{own:Bool}{sz:Nat}{xs:List (List D)}(hl:lk s.H l=some (.row own sz xs))(hno:St.noRp l ⟨s.env,dG s.H l⟩=true){i j:Nat}{ex:List D}(hx:xs[i]? = some ex)
  {ds:List D} {us:List Value} (hds:RDL Γ.L w (fun b=>own=false∧Γ.ok F b) ds us Fd) (hF0:own=false→Fd=[]) (hj:j+ds.length≤sz) {b cap sz':Nat} (hm:m l= .at b cap sz') :
  sz'=sz∧∃bO T,w.heap[b]? = some (.cells bO T (0,0))∧i*sz+j+us.length≤bO.size∧
   fz Γ ⟨s.env,ins (dG s.H l) l (.row own sz (xs.set i (ex.take j++(ds++ex.drop (j+ds.length)))))⟩ a (w.setRow b (bO.toList.take (i*sz+j)++us++bO.toList.drop (i*sz+j+us.length)).toArray):=by
 obtain⟨Fl,G,hB,hR1⟩:=h.take hl
 rw[hm]at hB
 cases hB with
 | @row _ _ _ _ _ bO T F1 a1 a2 a3 a4 a5 a6 a7 a8=>
  refine⟨Z,bO,T,a4,?_,?_⟩
  have hi:i<xs.length:=(List.getElem?_eq_some_iff.1 hx).1
  have h1:(i+1)*sz≤cap*sz:=Nat.mul_le_mul_right _ (by omega)
  have h2:=hds.length
  rw[Nat.add_mul,Nat.one_mul]at h1
  omega
  have hi:i<xs.length:=(List.getElem?_eq_some_iff.1 hx).1
  have hexl:ex.length=sz:=a3 ex (List.mem_of_getElem? hx)
  have hul:=hds.length
  -- the row in five parts
  obtain⟨vs,c1,c2⟩:=RDL.of a7
  have e1:xs.flatten=((xs.take i).flatten++ex.take j)++((ex.drop j).take ds.length++(ex.drop (j+ds.length)++(xs.drop (i+1)).flatten)):=by
   rw[db hx]
   have:ex=ex.take j++((ex.drop j).take ds.length++ex.drop (j+ds.length)):=by
    conv=>lhs;rw[←List.take_append_drop j ex,←List.take_append_drop ds.length (ex.drop j)]
    rw[List.drop_drop]
   conv=>lhs;rw[this]
   simp
  rw[e1]at c2
  obtain⟨v1,v2,FA,FB,rfl,rfl,d1,d2⟩:=c2.segs
  obtain⟨v3,v4,FM,FC,rfl,rfl,d3,d4⟩:=d2.segs
  have hlA:((xs.take i).flatten++ex.take j).length=i*sz+j:=by
   rw[cG,br (fun e he=>a3 e (List.mem_of_mem_take he)),List.length_take,List.length_take,Nat.min_eq_left (by omega),Nat.min_eq_left (by omega)]
  have hl1:v1.length=i*sz+j:=by rw[←d1.length];exact hlA
  have hl3:v3.length=us.length:=by rw[←d3.length,←hul,List.length_take,List.length_drop];omega
  generalize hW:w.setRow b (bO.toList.take (i*sz+j)++us++bO.toList.drop (i*sz+j+us.length)).toArray=w'
  have hsame: ∀b',b'≠b→Same w w' b':=fun b' hb'=>by rw[←hW];exact setRow_other _ _ _ _ hb'
  have hsz:w'.heap.size=w.heap.size:=by rw[←hW];simp[World.setRow]
  have hD': ∀k b' cap' sz',k≠l→m k=Loc.at b' cap' sz'→(lk (dG s.H l) k).isSome=true:=fun k b' cap' sz' hne hk=>by
   simp only[cW,if_neg (Ne.symm hne)];exact hD k b' cap' sz' hk
  -- the write
  have hw:=nO (l:=l) hR1 hno (w':=w') (by rw[←hW];rfl) (by rw[←hW];rfl) (by rw[←hW];rfl) hsz (fun b' hb'=>hsame b' (fun e'=>hb' (by subst e';simp)))
   (fun k b' cap' sz' i' j' x' n c hb' hne hk _=>absurd hb' (hR1.notE (hD' k b' cap' sz' hne hk) hk))
  obtain⟨FH,g1,g2⟩:=hR1.H
  have hnd:(b::(FA++(FM++FC))++(G++(Fd++E))).Nodup:=(List.nodup_append.1 (g2.nodup_iff.1 hR1.nodup)).2.1
  have hbF:b∈F:=g2.mem_iff.2 (by simp)
  have hnb: ∀b'∈FA++(FM++FC)++(G++(Fd++E)),b'≠b:=by
   intro b' hb' e'
   subst e'
   rw[List.cons_append]at hnd
   exact(List.nodup_cons.1 hnd).1 hb'
  have hok: ∀b',b'<w.heap.size→(own=false∧Γ.ok F b')→(own=false∧Γ.ok F b')∧Same w w' b':=fun b' _ hb'=>⟨hb',hsame b' (fun e'=>hb'.2.1 (e' ▸ hbF))⟩
  have k1:=d1.mono hok (by omega) (fun b' hb'=>hsame b' (hnb b' (by simp[hb'])))
  have k2:=hds.mono hok (by omega) (fun b' hb'=>hsame b' (hnb b' (by simp[hb'])))
  have k3:=d4.mono hok (by omega) (fun b' hb'=>hsame b' (hnb b' (by simp[hb'])))
  have hcell: ∀p,w'.cell? ⟨b,p,none⟩=(bO.toList.take (i*sz+j)++us++bO.toList.drop (i*sz+j+us.length))[p]? := fun p=>by
   rw[←hW,cell_setRow_same w b p bO _ T (0,0) a4];simp
  have hold: ∀p v,(v1++(v3++v4))[p]? = some v→bO.toList[p]? = some v:=fun p v hp=>by
   have:=c1 p v hp
   rw[Nat.zero_add,cell_of_row _ _ _ bO T _ a4]at this
   rw[Array.getElem?_toList];exact this
  have hall:v1.length+(us.length+v4.length)≤bO.toList.length:=by
   have h5:(v1++(v3++v4)).length≤bO.toList.length:=by
    rcases Nat.lt_or_ge bO.toList.length (v1++(v3++v4)).length with hlt|hge
    have hp:(v1++(v3++v4))[bO.toList.length]? = some (v1++(v3++v4))[bO.toList.length]:=List.getElem?_eq_getElem hlt
    have:=hold _ _ hp
    simp at this
    exact hge
   simp only[cG]at h5
   omega
  have hnew: ∀p v,(v1++(us++v4))[p]? = some v→w'.cell? ⟨b,p,none⟩=some v:=fun p v hp=>by
   rw[hcell]
   have ht:(bO.toList.take (i*sz+j)).length=i*sz+j:=by rw[List.length_take];omega
   rcases Nat.lt_or_ge p (i*sz+j)with hlt|hge
   ·
    rw[List.getElem?_append_left (by omega)]at hp
    have:=hold p v (by rw[List.getElem?_append_left (by omega)];exact hp)
    rw[List.getElem?_append_left (by rw[cG,ht];omega),List.getElem?_append_left (by omega),List.getElem?_take,if_pos hlt]
    exact this
   ·
    rw[List.getElem?_append_right (by omega),hl1]at hp
    rcases Nat.lt_or_ge (p-(i*sz+j)) us.length with hlt2|hge2
    ·
     rw[List.getElem?_append_left (by omega)]at hp
     rw[List.getElem?_append_left (by rw[cG,ht];omega),List.getElem?_append_right (by omega),ht]
     exact hp
    ·
     rw[List.getElem?_append_right (by omega)]at hp
     have:=hold p v (by
      rw[List.getElem?_append_right (by omega),hl1,List.getElem?_append_right (by omega),hl3];exact hp)
     rw[List.getElem?_append_right (by rw[cG,ht];omega),cG,ht,List.getElem?_drop]
     rw[show i*sz+j+us.length+(p-(i*sz+j+us.length))=p by omega]
     exact this
  have hflat:(xs.set i (ex.take j++(ds++ex.drop (j+ds.length)))).flatten=((xs.take i).flatten++ex.take j)++(ds++(ex.drop (j+ds.length)++(xs.drop (i+1)).flatten)):=by
   rw[db (xs:=xs.set i _) (i:=i) (e:=ex.take j++(ds++ex.drop (j+ds.length))) (by rw[List.getElem?_set];simp[hi])]
   rw[List.take_set_of_le (by omega),List.drop_set_of_lt (by omega)]
   simp
  have hrow:RB Γ.L w' (Γ.ok F) m (.row own sz (xs.set i (ex.take j++(ds++ex.drop (j+ds.length))))) (m l) (b::(FA++(Fd++FC))):=by
   rw[hm]
   refine .row (by simpa using a1) (by simpa using a2) (fun e' he'=>?_) (T:=T) (bO:=(bO.toList.take (i*sz+j)++us++bO.toList.drop (i*sz+j+us.length)).toArray) (by rw[←hW];exact setRow_heap w b bO _ T (0,0) a4) ?_ a6 ?_ ?_
   rcases List.mem_or_eq_of_mem_set he' with he'|rfl
   exact a3 e' he'
   simp only[cG,List.length_take,List.length_drop,hexl];omega
   simp only[List.size_toArray,cG,List.length_take,List.length_drop,Array.length_toList]
   have:v1.length+(us.length+v4.length)≤bO.size:=by simpa using hall
   have h5:cap*sz≤bO.size:=a5
   omega
   rw[hflat]
   exact(k1.append (k2.append k3)).at (fun p v hp=>by rw[Nat.zero_add];exact hnew p v hp)
   intro ho
   have:=a8 ho
   simp only[List.append_eq_nil_iff]at this
   simp[this,hF0 ho]
  have hperm:((b::(FA++(FM++FC)))++(G++(Fd++E))).Perm ((b::(FA++(Fd++FC)))++(FM++(G++E))):=by
   simp only[List.cons_append,dO]
   refine List.Perm.cons _ (List.Perm.append_left FA ?_)
   have p1:(FM++(FC++(G++(Fd++E)))).Perm (Fd++(FC++(FM++(G++E)))):=by
    refine(List.perm_iff_count.2 fun x=>?_)
    simp only[List.count_append];omega
   exact p1
  have hb:=Rel1.back (l:=l) (hw.permE hperm) (by simp[cW]) hrow (fun hi=>h.keep l hi (by simp[hl]))
  refine Rel1.toRel hb ?_
  intro k b' cap' sz' hk
  by_cases hne:k=l
  subst hne;simp[dn]
  have:=hD' k b' cap' sz' hne hk
  simp only[dn,if_neg (Ne.symm hne)];exact this
section
variable{σ:Sg}{o:Oper}{s s1:St}{e:List (Nat×A)}{H:List (Nat×B)}
theorem rz{Γ:Ctx}{m F a w}(hR:Rel0 Γ m F ⟨e,H⟩ a w){l i j:Nat}{own:Bool}{sz:Nat}{xs:List (List D)}(hl:lk H l=some (.row own sz xs)){p:Value}(h:RA Γ.L w (Γ.ok F) m (.c (.pt l i j)) p): ∃b cap sz',m l= .at b cap sz'∧p= .pointer (some ⟨b,i*sz'+j,none⟩):=by
 cases h with
 | c h=>cases h with
  | pt h1=>exact⟨_,_,_,h1,Z⟩
  | pb h1=>
   obtain⟨F1,h2,_⟩:=hR.H.get (l:=l) hl
   rw[h1]at h2
   cases h2
theorem bl(hσ:SgOk σ){t l i j:Nat}{x y:Operand}{v:A}{ms:List M}{ds ex:List D}{inf:TI}{own:Bool}{sz:Nat}{xs xs':List (List D)}(ho:o.op= .store t x y)(hs1:Operand.short x=true)(hs2:Operand.short y=true)(hx:ev ⟨e,H⟩ x=some (.c (.pt l i j)))(hl:lk H l=some (.row own sz xs))
  (hy:ev ⟨e,H⟩ y=some v) (hm:v.cells=some ms) (hp:cV ms=some ds) (hsc:(!own||ds.all D.scalar)=true) (ht:lk σ.tt t=some inf) (hz:Nat.beq ds.length inf.size=true) (hj:Nat.ble (j+ds.length) sz=true) (hno:St.noRp l ⟨e,dG H l⟩=true) (hd:o.dst=none)
  (hxs:xs[i]? = some ex) (hxs':xs.set i (ex.take j++(ds++ex.drop (j+ds.length)))=xs'):HS σ ⟨e,H⟩ o ⟨e,ins (dG H l) l (.row own sz xs')⟩:=fun Γ eq m F a w hR=>by
 subst eq
 subst hxs'
 have h2:=RA.cells (hR.ev hσ.lo hs2 hy) hm
 obtain⟨b,cap,sz',hb,hpv⟩:=rz hR hl (hR.ev hσ.lo hs1 hx)
 have h3:=eG h2 hp
 have h4:RDL Γ.L w (fun b=>own=false∧Γ.ok F b) ds (a.eval y).cells.toList []:=by
  cases own with
  | false=>
   have:(fun b=>false=false∧Γ.ok F b)=Γ.ok F:=by funext b;simp
   rw[this];exact h3
  | true=>
   simp only[Bool.not_true,Bool.false_or]at hsc
   clear hp hz hj hxs
   generalize (a.eval y).cells.toList=us at h3
   induction ds generalizing us with
   | nil=>cases h3;exact .nil
   | cons d r ih=>
    simp only[List.all_cons,bD]at hsc
    generalize hF:([]:List Nat)=F0 at h3
    cases h3 with
    | cons g1 g2=>
     obtain⟨rfl,rfl⟩:=List.append_eq_nil_iff.1 hF.symm
     exact .cons (F1:=[]) (F2:=[]) (cr hsc.1 g1) (ih hsc.2 _ g2)
 have hlen:=h4.length
 obtain⟨rfl,bO,T,g1,g2,g3⟩:=io (Fd:=[]) (E:=[]) hR.to1 hR.dom hl hno hxs h4 (fun _=>rfl) (Nat.le_of_ble_eq_true hj) hb
 have hxsz:(a.eval y).cells.size=inf.size:=by rw[←Array.length_toList,←hlen];exact tN.1 hz
 have hrun:=md (hσ.tt.get ht) (o:=i*sz'+j) g1 hxsz (by rw[←hxsz,←Array.length_toList];exact g2) h2.oneCell
 rw[←hxsz,←Array.length_toList]at hrun
 exact .inr ⟨_,by simp only[execOp,ho,hpv,Sem.run_bind,hrun,Result.andThen_ok,Sem.run_pure];rfl,by rw[hd];exact g3⟩
end
end Go.Al
/- The abstract logic, vp 18: append. -/
namespace Go.Al

theorem Rel1.purge0{Γ m F E s a w}(h:Rel1 Γ m F E s a w)(l:Nat)(loc:Loc): ∃G,Rel1 Γ (fM m l loc) F (G++E) (s.purge l) a w:=by
 by_cases hi:l ∉ Γ.ins
 exact h.purge l loc hi
 obtain⟨FH,h1,h2⟩:=h.H
 obtain⟨F',h3,h4⟩:=h1.purged (l:=l) (m':=fM m l loc) (fun k hk=>bj hk)
 obtain⟨G,h5⟩: ∃G,FH.Perm (F'++G):=by
  clear h3 h1 h2
  induction h4 with
  | slnil=>exact⟨[],.refl _⟩
  | cons a _ ih=>obtain⟨G,hG⟩:=ih;exact⟨a::G,(hG.cons a).trans List.perm_middle.symm⟩
  | cons_cons a _ ih=>obtain⟨G,hG⟩:=ih;exact⟨G,hG.cons a⟩
 refine⟨G,⟨⟨F',h3,?_⟩,h.nodup,h.lt,h.own,fun t v hv=>?_,h.size,h.defers,h.frame,fun k hk hs=>?_⟩⟩
 refine h2.trans ((h5.append_right E).trans ?_)
 rw[dO]
 simp only[St.purge,gl,Option.map_eq_some_iff]at hv
 obtain⟨u,hu,rfl⟩:=hv
 exact(h.env t u hu).purged (fun k hk=>bj hk)
 simp only[St.purge,eH]at hs
 split at hs
 simp at hs
 rename_i hne
 rw[bj (Ne.symm hne)]
 refine h.keep k hk ?_
 simpa using hs
theorem Rel1.takeAll0{Γ m F E s a w}(h:Rel1 Γ m F E s a w){l:Nat}{blk:B}(hl:lk s.H l=some blk) :
  ∃Fl G,RB Γ.L w (Γ.ok F) m blk (m l) Fl∧Rel1 Γ (fM m l .nil) F (Fl++(G++E)) (s.purge l) a w:=by
 obtain⟨Fl,G,h1,h2⟩:=h.take hl
 obtain⟨G',h3⟩:=h2.purge0 l .nil
 have e:St.purge l ⟨s.env,dG s.H l⟩=s.purge l:=by simp[St.purge,lM]
 rw[e]at h3
 refine⟨Fl,G'++G,h1,h3.permE ?_⟩
 refine(List.perm_iff_count.2 fun x=>?_)
 simp only[List.count_append];omega
theorem lm{P:Program}{w:World}(t tx ty e:TypeId)(i:TypeInfo)(ht:P.underlying t=some (.slice e))(hi:P.info? e=some i)(b sLen sCap:Nat)(x:Value)(n:Nat)(news:List Value)(hs:Src P i.size tx x n news w)
  (hroom:sLen+n≤sCap) {bO:Array Value} {T:Nat} (hb:w.heap[b]? = some (.cells bO T (0,0))) (hle:sLen*i.size+news.length≤bO.size) :
  (Builtin.append_ #[t,tx] ty #[.slice (some ⟨b,0,none⟩) sLen sCap,x]).run P w= .ok (.slice (some ⟨b,0,none⟩) (sLen+n) sCap) (w.setRow b (bO.toList.take (sLen*i.size)++news++bO.toList.drop (sLen*i.size+news.length)).toArray):=by
 have hst:=run_storeCells_at (P:=P) b (sLen*i.size) T news 0 bO w hb (by simpa using hle) hs.one
 simp only[Nat.add_zero]at hst
 rcases hs.kind with⟨e',hk⟩|hk<;>simp[Builtin.append_,run_underlying ht,run_underlying hk,sizeOf,typeInfo,hi,hs.len,hroom,hs.cells,Addr.add_lit,hst]
theorem jZ{P:Program}{w:World}(t tx ty e:TypeId)(i:TypeInfo)(ht:P.underlying t=some (.slice e))(hi:P.info? e=some i)(base:Option Addr)(x:Value)(hs:Src P i.size tx x 0 [] w) :
  (Builtin.append_ #[t,tx] ty #[.slice base 0 0,x]).run P w= .ok (.slice base 0 0) w:=by
 rcases hs.kind with⟨e',hk⟩|hk<;>cases base<;>simp[Builtin.append_,run_underlying ht,run_underlying hk,sizeOf,typeInfo,hi,hs.len,hs.cells,storeCells]
theorem oc{P:Program}{w:World}{size n c:Nat}{tx e':TypeId}{base:Option Addr}{us:List Value}(hk:P.underlying tx=some (.slice e'))(hl:us.length=n*size)(h1: ∀u∈us,u.oneCell'=true)
  (h:n=0∨∃b o,base=some ⟨b,o,none⟩∧cw w b o us):Src P size tx (.slice base n c) n us w:=by
 cases base with
 | none=>
  rcases h with rfl|⟨b,o,h,_⟩
  have:us=[]:=List.eq_nil_of_length_eq_zero (by simpa using hl)
  subst this
  exact Src.ofNil w hk c
  cases h
 | some a=>
  refine Src.ofSlice w hk a n c us hl (fun j u hj=>?_) h1
  rcases h with rfl|⟨b,o,h,hc⟩
  have:us=[]:=List.eq_nil_of_length_eq_zero (by simpa using hl)
  subst this;simp at hj
  cases h
  rw[Addr.add_lit];exact hc j u hj
inductive Onto(L:Nat)(w:World)(ok:Nat→Prop)(own:Bool)(sz:Nat)(xs:List (List D)):Value→List Nat→List Nat→List Value→Prop
 | none {base}:xs=[]→Onto L w ok own sz xs (.slice base 0 0) [] [] []
 | row {b c cap bO T F vs}:xs.length≤L→xs.length≤c→c≤cap→(∀e∈xs,e.length=sz)→w.heap[b]? = some (.cells bO T (0,0))→cap*sz≤bO.size→cap≤maxLen→cw w b 0 vs→
   RDL L w (fun b=>own=false∧ok b) xs.flatten vs F→(own=false→F=[])→Onto L w ok own sz xs (.slice (some ⟨b,0,none⟩) xs.length c) [b] F vs

theorem fy{Γ m F Fb F1 F2 E s a w}(h:Rel1 Γ m F (Fb++(F1++(F2++E))) s a w)(hD:Dom m s)(hσ:SgOk Γ.toSg){d t tx ty:Nat}{i e:TI}(hd:s.fresh Γ.toSg d=true)(hn:Nat.blt d Γ.nt=true)(ht:lk Γ.tt t=some i)(hk:Nat.beq i.kind 1=true)(he:lk Γ.tt i.elem=some e)(hze:Nat.beq e.zero.length e.size=true)
  {own:Bool} {xs ys:List (List D)} {v1 v2:List Value} {p q:Value} (hO:Onto Γ.L w (Γ.ok F) own e.size xs p Fb F1 v1) (hS: ∀info:TypeInfo,info.size=e.size→Src Γ.P info.size tx q ys.length v2 w) (hy:RDL Γ.L w (fun b=>own=false∧Γ.ok F b) ys.flatten v2 F2) (hF2:own=false→F2=[])
  (hys: ∀x∈ys,x.length=e.size) (hL:xs.length+ys.length≤Γ.L) (hb:(xs.length+ys.length)*e.bytes≤140737488355328) :
  ∃u w',(Builtin.append_ #[t,tx] ty #[p,q]).run Γ.P w= .ok u w'∧fz Γ ⟨(d,.c (.rs d 0 (xs++ys).length))::s.env,ins s.H d (.row own e.size (xs++ys))⟩ (a.put (some d) u) w':=by
 have hu:=(hσ.tt.get ht).isSlice (tN.1 hk)
 obtain⟨info,hi,hsz,hby,z,hzz,hzl⟩:=(hσ.tt.get he).info
 have hS':=hS info hsz
 have hv2:v2.length=ys.length*e.size:=by rw[←hy.length,br hys]
 have hmx:Γ.L≤9223372036854775807:=hσ.hi
 have hput: ∀{u:Value} (own:Bool) (zs:List (List D)),Al.put Γ.nt ⟨s.env,ins s.H d (.row own e.size zs)⟩ (some d) (.c (.rs d 0 zs.length))=some ⟨(d,.c (.rs d 0 zs.length))::s.env,ins s.H d (.row own e.size zs)⟩:=fun own zs=>by simp[Al.put,hn]
 -- a new row
 have grow: ∀(base:Option Addr) (sCap:Nat),sCap<xs.length+ys.length→v1.length=xs.length*e.size→(Builtin.firstCells info.size xs.length (.slice base xs.length sCap)).run Γ.P w.drew= .ok v1.toArray w.drew→RDL Γ.L w (fun b=>own=false∧Γ.ok F b) xs.flatten v1 F1→(own=false→F1=[])→(∀x∈xs,x.length=e.size)→
   ∃u w',(Builtin.append_ #[t,tx] ty #[.slice base xs.length sCap,q]).run Γ.P w= .ok u w'∧fz Γ ⟨(d,.c (.rs d 0 (xs++ys).length))::s.env,ins s.H d (.row own e.size (xs++ys))⟩ (a.put (some d) u) w':=by
  intro base sCap hg hv1 hold hx hF1 hxl
  have hfit:=growslice_fits (bytes:=info.bytes) hg (by rw[hby];exact hb)
  have hrun:=run_append_grow_src w t tx ty i.elem info z hu hi hzz base xs.length sCap v1 hold q ys.length v2 hS' hg (by omega) hfit
  refine⟨_,_,hrun,?_⟩
  have hcap:=grownCap_ge w (xs.length+ys.length) sCap i.elem
  have hcapm:=grownCap_le_maxLen w (xs.length+ys.length) sCap i.elem (by unfold maxLen;omega)
  have h1:Rel1 Γ m F ((F1++F2)++(Fb++E)) s a w.drew:=(h.permE (by
   refine(List.perm_iff_count.2 fun x=>?_)
   simp only[List.count_append];omega)).drew
  have hmono: ∀b,b<w.heap.size→(own=false∧Γ.ok F b)→(own=false∧Γ.ok F b)∧Same w w.drew b:=fun b _ hb=>⟨hb,rfl⟩
  have h2:RDL Γ.L w.drew (fun b=>own=false∧Γ.ok F b) (xs++ys).flatten (v1++v2) (F1++F2):=by
   rw[List.flatten_append]
   exact(hx.mono hmono (cm _) (fun _ _=>rfl)).append (hy.mono hmono (cm _) (fun _ _=>rfl))
  have hnr:=Rel1.newRow (T:=i.elem) (cap:=grownCap w (xs.length+ys.length) sCap i.elem) (sz:=e.size) (bO:=(v1++v2).toArray++Builtin.zeroCells z.cells (grownCap w (xs.length+ys.length) sCap i.elem-(xs.length+ys.length))) h1 hD hd h2
   (fun ho=>by rw[hF1 ho,hF2 ho];rfl) (by simpa using hL) (by simpa using hcap) (fun x hx=>by
    rcases List.mem_append.1 hx with hx|hx
    ·
     exact hxl x hx
    ·
     exact hys x hx) (fun j v hj=>by
    rw[Array.getElem?_append]
    have hlt:=(List.getElem?_eq_some_iff.1 hj).1
    rw[if_pos (by simpa using hlt)]
    simpa using hj) ?_ hcapm (hput (u:=undef) own (xs++ys))
  ·
   rw[cG]at hnr ⊢
   simpa using hnr
  ·
   have hzl2:z.cells.size=e.size:=by rw[←Array.length_toList,hzl,aQ];exact tN.1 hze
   have hsub:grownCap w (xs.length+ys.length) sCap i.elem=xs.length+ys.length+(grownCap w (xs.length+ys.length) sCap i.elem-(xs.length+ys.length)):=by omega
   generalize grownCap w (xs.length+ys.length) sCap i.elem-(xs.length+ys.length)=r at hsub ⊢
   rw[hsub,Nat.add_mul,Nat.add_mul]
   simp[Builtin.zeroCells,hv1,hv2,hzl2]
 cases hO with
 | none hx=>
  subst hx
  by_cases h0:ys.length=0
  have hy0:=List.eq_nil_of_length_eq_zero h0
  subst hy0
  have hv:v2=[]:=List.eq_nil_of_length_eq_zero (by simpa using hv2)
  subst hv
  rename_i base
  refine⟨_,_,jZ t tx ty i.elem info hu hi base q hS',?_⟩
  have h1:Rel1 Γ m F ([]++(F2++E)) s a w:=h
  have h2:=h1.give (l:=d) (blk:=.row own e.size ([]++[])) (loc:=.nil) (bo hd).1 (bo hd).2 .nil
  have h3:=h2.put (dst:=some d) (v:=.c (.rs d 0 0)) (x:=.slice base 0 0) (.c (.rsNil (bV _ _ _))) (hput (u:=undef) own ([]++[]))
  exact h3.toRel ((hD.ins d _ _ _).put (hput (u:=undef) own ([]++[])))
  rename_i base
  exact grow base 0 (by simp;omega) (by simp) (by
   cases base with
   | none=>exact run_firstCells_none _ _ _ _ _
   | some a=>exact run_firstCells_some _ _ _ a _ _ [] (by simp) (by simp)) .nil (fun _=>rfl) (by simp)
 | row a1 a2 a3 a4 a5 a6 a7 a8 a9 a10=>
  rename_i b c cap bO T
  have hv1:v1.length=xs.length*e.size:=by rw[←a9.length,br a4]
  by_cases hroom:xs.length+ys.length≤c
  have hle:xs.length*info.size+v2.length≤bO.size:=by
   have h1:(xs.length+ys.length)*e.size≤cap*e.size:=Nat.mul_le_mul_right _ (by omega)
   rw[Nat.add_mul]at h1
   rw[hsz,hv2];omega
  have hrun:=lm t tx ty i.elem info hu hi b xs.length c q ys.length v2 hS' hroom a5 hle
  rw[hsz]at hrun hle
  generalize hW:w.setRow b (bO.toList.take (xs.length*e.size)++v2++bO.toList.drop (xs.length*e.size+v2.length)).toArray=w' at hrun
  refine⟨_,_,hrun,?_⟩
  have hsame: ∀b',b'≠b→Same w w' b':=fun b' hb'=>by rw[←hW];exact setRow_other _ _ _ _ hb'
  have hsize:w'.heap.size=w.heap.size:=by rw[←hW];simp[World.setRow]
  have hw:=Rel1.write h (w':=w') (by rw[←hW];rfl) (by rw[←hW];rfl) (by rw[←hW];rfl) hsize (fun b' hb'=>hsame b' (fun e'=>hb' (by subst e';simp)))
   (fun k b' cap' sz' i' j' x' n c hb' hk _=>absurd hb' (h.notE (hD k b' cap' sz' hk) hk))
  obtain⟨FH,g1,g2⟩:=h.H
  have hnd:([b]++(F1++(F2++E))).Nodup:=(List.nodup_append.1 (g2.nodup_iff.1 h.nodup)).2.1
  have hbF:b∈F:=g2.mem_iff.2 (by simp)
  have hnb: ∀b'∈F1++(F2++E),b'≠b:=by
   intro b' hb' e'
   subst e'
   exact(List.nodup_cons.1 hnd).1 hb'
  have hok: ∀b',b'<w.heap.size→(own=false∧Γ.ok F b')→(own=false∧Γ.ok F b')∧Same w w' b':=fun b' _ hb'=>⟨hb',hsame b' (fun e'=>hb'.2.1 (e' ▸ hbF))⟩
  have k1:=a9.mono hok (by omega) (fun b' hb'=>hsame b' (hnb b' (by simp[hb'])))
  have k2:=hy.mono hok (by omega) (fun b' hb'=>hsame b' (hnb b' (by simp[hb'])))
  have hcell: ∀p,w'.cell? ⟨b,p,none⟩=(bO.toList.take (xs.length*e.size)++v2++bO.toList.drop (xs.length*e.size+v2.length))[p]? := fun p=>by
   rw[←hW,cell_setRow_same w b p bO _ T (0,0) a5];simp
  have hal:bO.toList.length=bO.size:=Array.length_toList
  have htk:(bO.toList.take (xs.length*e.size)).length=xs.length*e.size:=by rw[List.length_take,hal];omega
  have hcells:cw w' b 0 (v1++v2):=fun j v hj=>by
   rw[Nat.zero_add,hcell]
   rcases Nat.lt_or_ge j (xs.length*e.size)with hlt|hge
   ·
    rw[List.getElem?_append_left (by omega)]at hj
    have:=a8 j v hj
    rw[Nat.zero_add,cell_of_row _ _ _ bO T _ a5]at this
    rw[List.getElem?_append_left (by rw[cG,htk];omega),List.getElem?_append_left (by omega),List.getElem?_take,if_pos hlt,Array.getElem?_toList]
    exact this
   ·
    rw[List.getElem?_append_right (by omega),hv1]at hj
    have hlt2:=(List.getElem?_eq_some_iff.1 hj).1
    rw[List.getElem?_append_left (by rw[cG,htk];omega),List.getElem?_append_right (by omega),htk]
    exact hj
  have hB:RB Γ.L w' (Γ.ok F) (fM m d (.at b cap e.size)) (.row own e.size (xs++ys)) (.at b cap e.size) (b::(F1++F2)):=by
   refine .row (T:=T) (bO:=(bO.toList.take (xs.length*e.size)++v2++bO.toList.drop (xs.length*e.size+v2.length)).toArray) (by simpa using hL) (by simp;omega) (fun x hx=>?_) (by rw[←hW];exact setRow_heap w b bO _ T (0,0) a5) ?_ a7 ?_ (fun ho=>by rw[a10 ho,hF2 ho];rfl)
   rcases List.mem_append.1 hx with hx|hx
   exact a4 x hx
   exact hys x hx
   simp only[List.size_toArray,cG,htk,List.length_drop,Array.length_toList];omega
   rw[List.flatten_append]
   exact(k1.append k2).at hcells
  have h1:Rel1 Γ m F ((b::(F1++F2))++E) s a w':=hw.permE (by
   refine(List.perm_iff_count.2 fun x=>?_)
   simp only[List.count_append,List.cons_append,List.nil_append,List.count_cons];omega)
  have h2:=h1.give (l:=d) (bo hd).1 (bo hd).2 hB
  have h3:=h2.put (dst:=some d) (v:=.c (.rs d 0 (xs++ys).length)) (x:=.slice (some ⟨b,0,none⟩) (xs.length+ys.length) c) (.c (by
   have:=RM.rs (L:=Γ.L) (w:=w') (ok:=Γ.ok F) (m:=fM m d (.at b cap e.size)) (l:=d) (off:=0) (len:=(xs++ys).length) (c:=c) (base:=⟨b,0,none⟩) (bV _ _ _) (by simpa using hroom) (by omega) (.inr (by simp))
   rwa[cG]at this ⊢)) (hput (u:=undef) own (xs++ys))
  exact h3.toRel ((hD.ins d _ _ _).put (hput (u:=undef) own (xs++ys)))
  exact grow (some ⟨b,0,none⟩) c (by omega) hv1 (run_firstCells_some _ _ _ ⟨b,0,none⟩ _ _ v1 (by rw[hsz];exact hv1) (fun j v hj=>by
   rw[Addr.add_lit,Nat.zero_add]
   have:=a8 j v hj
   rw[Nat.zero_add]at this
   exact this)) a9 a10 a4
end Go.Al
/- The abstract logic, vp 19: append, as a step. -/
namespace Go.Al

def Scal(ys:List (List D)):Prop:= ∀x∈ys,∀d∈x,d.scalar=true
theorem Scal.map{α:Type}{f:α→List D}{l:List α}(h: ∀a,(f a).all D.scalar=true):Scal (l.map f):=by
 intro x hx d hd
 obtain⟨a,_,rfl⟩:=List.mem_map.1 hx
 exact List.all_eq_true.1 (h a) d hd
theorem Scal.flat{ys:List (List D)}(h:Scal ys): ∀d∈ys.flatten,d.scalar=true:=by
 intro d hd
 obtain⟨x,hx,hd⟩:=List.mem_flatten.1 hd
 exact h x hx d hd
theorem RDL.scal{L w ok ok'}: ∀{ds vs F},RDL L w ok ds vs F→(∀d∈ds,d.scalar=true)→RDL L w ok' ds vs []
 | _,_,_,.nil,_=>.nil
 | _,_,_,.cons h1 h2,h=>.cons (F1:=[]) (F2:=[]) (cr (h _ (by simp)) h1) (RDL.scal h2 (fun d hd=>h d (by simp[hd])))
inductive Feed(H:List (Nat×B))(own:Bool)(sz:Nat):A→List (List D)→Prop
 | nils:Feed H own sz (.c (.d .nils)) []
 | ez:Feed H own sz (.c .ez) []
 | slc {ys}:(own=false∨Scal ys)→Feed H own sz (.c (.d (.slc sz ys))) ys
 | whole {l own2 ys len}:lk H l=some (.row own2 sz ys)→len=ys.length→(Scal ys∨(own=false∧own2=false))→Feed H own sz (.c (.rs l 0 len)) ys
 | vp {l off len own2 zs ys}:lk H l=some (.row own2 sz zs)→off+len≤zs.length→(zs.drop off).take len=ys→(Scal ys∨(own=false∧own2=false))→Feed H own sz (.c (.rs l off len)) ys
 | rp {l i j own2 sz2 zs ex ys}:lk H l=some (.row own2 sz2 zs)→zs[i]? = some ex→ex[j]? = some (.slc sz ys)→Scal ys→Feed H own sz (.c (.rp l i j)) ys
structure Found(L:Nat)(w:World)(ok:Nat→Prop)(own:Bool)(sz:Nat)(ys:List (List D))(v:Value)(us:List Value):Prop where
 val: ∃base c,v= .slice base ys.length c∧(ys.length=0∨∃b o,base=some ⟨b,o,none⟩∧cw w b o us)
 data:RDL L w (fun b=>own=false∧ok b) ys.flatten us []
 sizes: ∀x∈ys,x.length=sz
 len:ys.length≤L

theorem nq{L w ok m own own2 sz zs loc G}(hB:RB L w ok m (.row own2 sz zs) loc G){off len l:Nat}{ys:List (List D)}(hle:off+len≤zs.length)(hys:(zs.drop off).take len=ys)(hsc:Scal ys∨(own=false∧own2=false))(hloc:m l=loc){v:Value}(h:RM L w ok m (.rs l off len) v) :
  ∃us,Found L w ok own sz ys v us:=by
 have hlen:ys.length=len:=by rw[←hys,List.length_take,List.length_drop];omega
 by_cases h0:len=0
 subst h0
 have:ys=[]:=List.eq_nil_of_length_eq_zero hlen
 subst this
 obtain⟨b,cap,base,c,sz',a1,a2,a3,a4,rfl⟩|⟨a1,_,_,base,rfl⟩:=h.rs_inv
 exact⟨[],⟨_,_,Z,.inl Z⟩,.nil,by simp,by simp⟩
 exact⟨[],⟨_,_,Z,.inl Z⟩,.nil,by simp,by simp⟩
 obtain⟨b,cap,base,c,sz',a1,a2,a3,a4,rfl⟩|⟨a1,_,hz,base,rfl⟩:=h.rs_inv
 rw[hloc]at a1
 subst a1
 cases hB with
 | @row _ _ _ _ _ bO T F1 b1 b2 b3 b4 b5 b6 b7 b8=>
  rcases a4 with a4|rfl
  omega
  obtain⟨vs,c1,c2⟩:=RDL.of b7
  rw[kG (a:=off) (n:=len),hys]at c2
  obtain⟨v1,v2,FA,FB,rfl,rfl,d1,d2⟩:=c2.segs
  obtain⟨v3,v4,FC,FD,rfl,rfl,d3,d4⟩:=d1.segs
  have hl3:v3.length=off*sz:=by
   rw[←d3.length,br (fun e he=>b3 e (List.mem_of_mem_take he)),List.length_take,Nat.min_eq_left (by omega)]
  refine⟨v4,⟨_,_,by rw[hlen],.inr ⟨b,off*sz,Z,fun j u hj=>?_⟩⟩,?_,fun x hx=>b3 x (List.mem_of_mem_drop (List.mem_of_mem_take (hys ▸ hx))),by omega⟩
  have:=c1 (off*sz+j) u (by
   rw[List.getElem?_append_left (by have:=(List.getElem?_eq_some_iff.1 hj).1;rw[cG];omega),List.getElem?_append_right (by omega),hl3,Nat.add_sub_cancel_left];exact hj)
  rwa[Nat.zero_add]at this
  rcases hsc with hsc|⟨ho,ho2⟩
  exact d4.scal hsc.flat
  have hF:=b8 ho2
  simp only[List.append_eq_nil_iff]at hF
  rw[hF.1.2]at d4
  refine d4.mono (w':=w) (fun b _ hb=>⟨⟨ho,hb.2⟩,Z⟩) (cm _) (by simp)
 omega
theorem Feed.found{Γ m F e H a w}(hR:Rel0 Γ m F ⟨e,H⟩ a w){own:Bool}{sz:Nat}{y:A}{ys:List (List D)}(h:Feed H own sz y ys)(hs: ∀x∈ys,x.length=sz){v:Value}(hv:RA Γ.L w (Γ.ok F) m y v): ∃us,Found Γ.L w (Γ.ok F) own sz ys v us:=by
 cases h with
 | nils=>cases hv with|c hv=>cases hv with|d hv=>cases hv;exact⟨[],⟨_,_,rfl,.inl rfl⟩,.nil,by simp,by simp⟩
 | ez=>cases hv with|c hv=>cases hv;exact⟨[],⟨_,_,rfl,.inl rfl⟩,.nil,by simp,by simp⟩
 | slc hsc=>
  cases hv with
  | c hv=>cases hv with
   | d hv=>
    generalize hF:([]:List Nat)=F0 at hv
    cases hv with
    | slc0=>exact⟨[],⟨_,_,Z,.inl Z⟩,.nil,by simp,by simp⟩
    | slc b1 b2 b3 b4 b5 b6=>
     obtain⟨vs,c1,c2⟩:=RDL.of b6
     refine⟨vs,⟨_,_,Z,.inr ⟨_,_,Z,c1⟩⟩,?_,b3,b1⟩
     rcases hsc with ho|hsc
     ·
      exact c2.mono (w':=w) (fun b _ hb=>⟨⟨ho,hb⟩,Z⟩) (cm _) (by simp)
     ·
      exact c2.scal hsc.flat
    | own b1 b2 b3 b4 b5 b6 b7=>cases hF
 | whole hl hlen hsc=>
  subst hlen
  cases hv with
  | c hv=>
   obtain⟨G,hB,_⟩:=hR.H.get hl
   exact nq hB (by omega) (by rw[List.drop_zero,List.take_length]) hsc Z hv
 | vp hl hle hys hsc=>
  cases hv with
  | c hv=>
   obtain⟨G,hB,_⟩:=hR.H.get hl
   exact nq hB hle hys hsc Z hv
 | rp hl hi hj hsc=>
  cases hv with
  | c hv=>
   cases hv with
   | rp a1 a2=>
    obtain⟨G,hB,_⟩:=hR.H.get hl
    rw[a1]at hB
    cases hB with
    | @row _ _ _ _ _ bO T F1 b1 b2 b3 b4 b5 b6 b7 b8=>
     obtain⟨u,F',c1,c2,_⟩:=b7.cell (gh b3 hi hj)
     rw[Nat.zero_add,a2]at c1
     cases c1
     cases c2 with
     | slc0=>exact⟨[],⟨_,_,Z,.inl Z⟩,.nil,by simp,by simp⟩
     | slc d1 d2 d3 d4 d5 d6=>
      obtain⟨vs,c1,c2⟩:=RDL.of d6
      exact⟨vs,⟨_,_,Z,.inr ⟨_,_,Z,c1⟩⟩,c2.scal hsc.flat,d3,d1⟩
     | own d1 d2 d3 d4 d5 d6 d7=>
      obtain⟨vs,c1,c2⟩:=RDL.of d7
      exact⟨vs,⟨_,_,Z,.inr ⟨_,_,Z,c1⟩⟩,c2.scal hsc.flat,d3,d1⟩
inductive Tgt(H:List (Nat×B))(own:Bool)(sz:Nat):A→List (List D)→Option Nat→Prop
 | nils:Tgt H own sz (.c (.d .nils)) [] none
 | ez:Tgt H own sz (.c .ez) [] none
 | row {l xs len}:lk H l=some (.row own sz xs)→len=xs.length→Tgt H own sz (.c (.rs l 0 len)) xs (some l)
def St.let(s:St):Option Nat→St
 | none=>s
 | some l=>s.purge l
theorem Tgt.onto{Γ m F e H a w}(hR:Rel0 Γ m F ⟨e,H⟩ a w){own:Bool}{sz:Nat}{x:A}{xs:List (List D)}{lo:Option Nat}(h:Tgt H own sz x xs lo){v:Value}(hv:RA Γ.L w (Γ.ok F) m x v) :
  ∃m' Fb F1 G v1,Onto Γ.L w (Γ.ok F) own sz xs v Fb F1 v1∧Rel1 Γ m' F (Fb++(F1++G)) (St.let ⟨e,H⟩ lo) a w∧Dom m' (St.let ⟨e,H⟩ lo)∧(∀k,lo≠some k→m' k=m k):=by
 cases h with
 | nils=>cases hv with|c hv=>cases hv with|d hv=>cases hv;exact⟨m,[],[],[],[],.none rfl,hR.to1,hR.dom,fun _ _=>rfl⟩
 | ez=>cases hv with|c hv=>cases hv;exact⟨m,[],[],[],[],.none rfl,hR.to1,hR.dom,fun _ _=>rfl⟩
 | @row l xs len hl hlen=>
  subst hlen
  cases hv with
  | c hv=>
   obtain⟨Fl,G,hB,hR1⟩:=hR.to1.takeAll0 hl
   have hm: ∀k,some l≠some k→fM m l .nil k=m k:=fun k hk=>bj (fun e=>hk (by rw[e]))
   have hD:Dom (fM m l .nil) (St.let ⟨e,H⟩ (some l)):=Dom.purge (s:=⟨e,H⟩) hR.dom l
   obtain⟨b,cap,base,c,sz',a1,a2,a3,a4,rfl⟩|⟨a1,_,hz,base,rfl⟩:=hv.rs_inv
   rw[a1]at hB
   cases hB with
   | @row _ _ _ _ _ bO T F1 b1 b2 b3 b4 b5 b6 b7 b8=>
    by_cases h0:c=0
    subst h0
    have hx:xs=[]:=List.eq_nil_of_length_eq_zero (by omega)
    subst hx
    exact⟨_,[],[],_,[],.none Z,hR1,hD,hm⟩
    rcases a4 with a4|rfl
    omega
    obtain⟨vs,c1,c2⟩:=RDL.of b7
    refine⟨_,[b],F1,G++[],vs,?_,hR1,hD,hm⟩
    rw[Nat.zero_mul]
    exact .row b1 a2 (by omega) b3 b4 b5 b6 c1 c2 b8
   have hx:xs=[]:=List.eq_nil_of_length_eq_zero hz
   subst hx
   exact⟨_,[],[],_,[],.none Z,hR1,hD,hm⟩
section
variable{σ:Sg}{o:Oper}{e:List (Nat×A)}{H:List (Nat×B)}{c:Call}{x y:Operand}{t tx d n:Nat}{u v:A}{i ti:TI}{own:Bool}{xs ys zs:List (List D)}{lo:Option Nat}{it:TI}
theorem iq(hσ:SgOk σ)(ho:o.op= .call c)(hb:c.callee= .builtin .append)(ha:c.args.toList=[x,y])(hat:c.argTypes.toList=[t,tx])(hs1:Operand.short x=true)(hs2:Operand.short y=true)(hx:ev ⟨e,H⟩ x=some u)(hy:ev ⟨e,H⟩ y=some v)
  (ht:lk σ.tt t=some i) (hk:Nat.beq i.kind 1=true) (htx:lk σ.tt tx=some it) (hkx:Nat.beq it.kind 1=true) (he:lk σ.tt i.elem=some ti) (hze:Nat.beq ti.zero.length ti.size=true) (hd:o.dst=some d) (hn:Nat.blt d σ.nt=true)
  (hT:Tgt H own ti.size u xs lo) (hF:Feed H own ti.size v ys) (hys: ∀x∈ys,x.length=ti.size) (hf:St.fresh (St.let ⟨e,H⟩ lo) σ d=true) (hL:xs.length+ys.length≤σ.L) (hbb:(xs.length+ys.length)*ti.bytes≤140737488355328) (hzs:xs++ys=zs) (hnn:zs.length=n) :
  HS σ ⟨e,H⟩ o ⟨(d,.c (.rs d 0 n))::(St.let ⟨e,H⟩ lo).env,ins (St.let ⟨e,H⟩ lo).H d (.row own ti.size zs)⟩:=fun Γ eq m F a w hR=>by
 subst eq;subst hzs;subst hnn
 obtain⟨us,hfd⟩:=hF.found hR hys (hR.ev hσ.lo hs2 hy)
 obtain⟨m',Fb,F1,G,v1,h1,h2,h3,h4⟩:=hT.onto hR (hR.ev hσ.lo hs1 hx)
 obtain⟨base,cc,hv,hcell⟩:=hfd.val
 have hux:=(hσ.tt.get htx).isSlice (tN.1 hkx)
 obtain⟨r,w',h5,h6⟩:=fy (F2:=[]) (E:=G) (t:=t) (tx:=tx) (ty:=o.type) (by simpa using h2) h3 hσ hf hn ht hk he hze h1 (ys:=ys) (q:=a.eval y) (fun info hi=>by
  rw[hv]
  exact oc hux (by rw[←hfd.data.length,br hys,hi]) (fun u hu=>hfd.data.oneCell u hu) hcell) hfd.data (fun _=>rfl) hys hL hbb
 refine .inl ⟨r,w',?_,by rw[hd];exact h6⟩
 have e1:c.args.map a.eval= #[a.eval x,a.eval y]:=by
  rw[←Array.toArray_toList (xs:=c.args),ha];simp
 have e2:c.argTypes= #[t,tx]:=by rw[←Array.toArray_toList (xs:=c.argTypes),hat]
 simp only[execOp,ho,resolve,hb,Sem.run_bind,Sem.run_pure,Result.andThen_ok,invoke,builtin,e1,e2,h5]
theorem bE{l2 len2:Nat}(hσ:SgOk σ)(ho:o.op= .call c)(hb:c.callee= .builtin .append)(ha:c.args.toList=[x,y])(hat:c.argTypes.toList=[t,tx])(hs1:Operand.short x=true)(hs2:Operand.short y=true)(hx:ev ⟨e,H⟩ x=some u)(hy:ev ⟨e,H⟩ y=some (.c (.rs l2 0 len2)))
  (ht:lk σ.tt t=some i) (hk:Nat.beq i.kind 1=true) (htx:lk σ.tt tx=some it) (hkx:Nat.beq it.kind 1=true) (he:lk σ.tt i.elem=some ti) (hze:Nat.beq ti.zero.length ti.size=true) (hd:o.dst=some d) (hn:Nat.blt d σ.nt=true)
  (hT:Tgt H true ti.size u xs lo) (hl2:lk H l2=some (.row true ti.size ys)) (hlen2:len2=ys.length) (hne:lo≠some l2) (hf:St.fresh (St.purge l2 (St.let ⟨e,H⟩ lo)) σ d=true) (hL:xs.length+ys.length≤σ.L) (hbb:(xs.length+ys.length)*ti.bytes≤140737488355328) (hzs:xs++ys=zs) (hnn:zs.length=n) :
  HS σ ⟨e,H⟩ o ⟨(d,.c (.rs d 0 n))::(St.purge l2 (St.let ⟨e,H⟩ lo)).env,ins (St.purge l2 (St.let ⟨e,H⟩ lo)).H d (.row true ti.size zs)⟩:=fun Γ eq m F a w hR=>by
 subst eq;subst hzs;subst hnn;subst hlen2
 obtain⟨m',Fb,F1,G,v1,h1,h2,h3,h4⟩:=hT.onto hR (hR.ev hσ.lo hs1 hx)
 have hl2':lk (St.let ⟨e,H⟩ lo).H l2=some (.row true ti.size ys):=by
  cases lo with
  | none=>exact hl2
  | some l=>
   have:l≠l2:=fun e=>hne (by rw[e])
   simp only[St.let,St.purge,eH,if_neg this,hl2];rfl
 obtain⟨Fl,G2,hB,h5⟩:=h2.takeAll0 hl2'
 have hD:=Dom.purge h3 l2
 have hml:m' l2=m l2:=h4 l2 hne
 have hvy:=hR.ev hσ.lo hs2 hy
 have hux:=(hσ.tt.get htx).isSlice (tN.1 hkx)
 have key: ∃us F2 G3 base cc,a.eval y= .slice base ys.length cc∧(ys.length=0∨∃b o,base=some ⟨b,o,none⟩∧cw w b o us)∧RDL Γ.L w (fun b=>true=false∧Γ.ok F b) ys.flatten us F2∧Fl.Perm (F2++G3)∧(∀x∈ys,x.length=ti.size):=by
  generalize a.eval y=q at hvy
  cases hvy with
  | c hvy=>
   obtain⟨b,cap,base,cc,sz',a1,a2,a3,a4,rfl⟩|⟨a1,_,hz,base,rfl⟩:=hvy.rs_inv
   rw[hml,a1]at hB
   cases hB with
   | @row _ _ _ _ _ bO T F2 b1 b2 b3 b4 b5 b6 b7 b8=>
    obtain⟨vs,c1,c2⟩:=RDL.of b7
    refine⟨vs,F2,[b],_,_,Z,?_,c2,?_,b3⟩
    rcases a4 with a4|rfl
    exact .inl (by omega)
    exact .inr ⟨b,_,Z,by rw[Nat.zero_mul];exact c1⟩
    exact(List.perm_iff_count.2 fun x=>by simp only[List.count_append,List.count_cons,List.count_nil];omega)
   have hy0:ys=[]:=List.eq_nil_of_length_eq_zero hz
   subst hy0
   exact⟨[],[],Fl,base,0,Z,.inl Z,.nil,List.Perm.refl _,by simp⟩
 obtain⟨us,F2,G3,base,cc,hv,hcell,hdata,hperm,hys⟩:=key
 have h6:=h5.permE (E':=Fb++(F1++(F2++(G3++(G2++G))))) (by
  refine(List.perm_iff_count.2 fun x=>?_)
  have:=(List.perm_iff_count.1 hperm) x
  simp only[List.count_append]at this ⊢;omega)
 obtain⟨r,w',h7,h8⟩:=fy (t:=t) (tx:=tx) (ty:=o.type) h6 hD hσ hf hn ht hk he hze h1 (ys:=ys) (q:=a.eval y) (fun info hi=>by
  rw[hv]
  exact oc hux (by rw[←hdata.length,br hys,hi]) (fun u hu=>hdata.oneCell u hu) hcell) hdata (fun h=>by cases h) hys hL hbb
 refine .inl ⟨r,w',?_,by rw[hd];exact h8⟩
 have e1:c.args.map a.eval= #[a.eval x,a.eval y]:=by
  rw[←Array.toArray_toList (xs:=c.args),ha];simp
 have e2:c.argTypes= #[t,tx]:=by rw[←Array.toArray_toList (xs:=c.argTypes),hat]
 simp only[execOp,ho,resolve,hb,Sem.run_bind,Sem.run_pure,Result.andThen_ok,invoke,builtin,e1,e2,h7]
end
end Go.Al
/- The abstract logic, vp 20: answers that are rows, their labels in order. -/
namespace Go.Al

mutual
def M.lab(ls:List Nat):M→M
 | .rs l a b=>.rs (ls.getD l 0) a b
 | .rp l i j=>.rp (ls.getD l 0) i j
 | .pt l i j=>.pt (ls.getD l 0) i j
 | .mp l=>.mp (ls.getD l 0)
 | .fn f caps=>.fn f (Ms.lab ls caps)
 | .fb f caps=>.fb f (Ms.lab ls caps)
 | .d x=>.d x
 | .ez=>.ez
 | .junk=>.junk
def Ms.lab(ls:List Nat):List M→List M
 | []=>[]
 | x::r=>M.lab ls x::Ms.lab ls r
end
mutual
def A.lab(ls:List Nat):A→A
 | .c x=>.c (M.lab ls x)
 | .agg ms=>.agg (Ms.lab ls ms)
 | .tup vs=>.tup (As.lab ls vs)
 | .junk=>.junk
 | .un=>.un
def As.lab(ls:List Nat):List A→List A
 | []=>[]
 | x::r=>A.lab ls x::As.lab ls r
end
def eN(H:List (Nat×B)):List Nat→Option (List B)
 | []=>some []
 | l::r=>match lk H l,eN H r with
  | some (.row own sz xs),some bs=>some (.row own sz xs::bs)
  | _,_=>none
def cM:Nat→List B→List (Nat×B)
 | _,[]=>[]
 | k,b::r=>(k,b)::cM (k+1) r
def Rows(R:A)(bs:List B):A→List (Nat×B)→Prop:=fun r H=>r=R∧H=cM 0 bs
def pV(R:A)(bs:List B):A→List (Nat×B)→Prop:=fun r H=> ∃ls:List Nat,ls.Nodup∧A.under bs.length R=true∧r=R.lab ls∧eN H ls=some bs

section
variable{L:Nat}{w:World}{ok ok':Nat→Prop}{m m':Nat→Loc}
mutual
theorem RM.unlab{ls:List Nat}{n:Nat}(hm: ∀k,k<n→m' k=m (ls.getD k 0)): ∀{x:M} {v},RM L w ok m (x.lab ls) v→M.under n x=true→RM L w ok m' x v
 | .d _,_,.d h1,_=>.d h1
 | .rs _ _ _,_,.rs h1 h2 h3 h4,hf=>.rs ((hm _ (by simpa[M.under]using hf)).trans h1) h2 h3 h4
 | .rs _ _ _,_,.rsNil h1,hf=>.rsNil ((hm _ (by simpa[M.under]using hf)).trans h1)
 | .rp _ _ _,_,.rp h1 h2,hf=>.rp ((hm _ (by simpa[M.under]using hf)).trans h1) h2
 | .pt _ _ _,_,.pt h1,hf=>.pt ((hm _ (by simpa[M.under]using hf)).trans h1)
 | .pt _ _ _,_,.pb h1,hf=>.pb ((hm _ (by simpa[M.under]using hf)).trans h1)
 | .mp _,_,.mp h1,hf=>.mp ((hm _ (by simpa[M.under]using hf)).trans h1)
 | .fn _ _,_,.fn h1,hf=>.fn (RMs.unlab hm h1 (by simpa[M.under]using hf))
 | .fb _ _,_,.fb h1,hf=>.fb (RMs.unlab hm h1 (by simpa[M.under]using hf))
 | .ez,_,.ez,_=>.ez
 | .junk,_,.junk h1,_=>.junk h1
theorem RMs.unlab{ls:List Nat}{n:Nat}(hm: ∀k,k<n→m' k=m (ls.getD k 0)): ∀{xs:List M} {vs},RMs L w ok m (Ms.lab ls xs) vs→Ms.under n xs=true→RMs L w ok m' xs vs
 | [],_,.nil,_=>.nil
 | _::_,_,.cons h1 h2,hf=>.cons (RM.unlab hm h1 (by simp[Ms.under]at hf;exact hf.1)) (RMs.unlab hm h2 (by simp[Ms.under]at hf;exact hf.2))
end
mutual
theorem RA.unlab{ls:List Nat}{n:Nat}(hm: ∀k,k<n→m' k=m (ls.getD k 0)): ∀{x:A} {v},RA L w ok m (x.lab ls) v→A.under n x=true→RA L w ok m' x v
 | .c _,_,.c h1,hf=>.c (h1.unlab hm (by simpa[A.under]using hf))
 | .agg _,_,.agg h1,hf=>.agg (RMs.unlab hm h1 (by simpa[A.under]using hf))
 | .tup _,_,.tup h1,hf=>.tup (RAs.unlab hm h1 (by simpa[A.under]using hf))
 | .junk,_,.junk,_=>.junk
 | .un,_,.un,_=>.un
theorem RAs.unlab{ls:List Nat}{n:Nat}(hm: ∀k,k<n→m' k=m (ls.getD k 0)): ∀{xs:List A} {vs},RAs L w ok m (As.lab ls xs) vs→As.under n xs=true→RAs L w ok m' xs vs
 | [],_,.nil,_=>.nil
 | _::_,_,.cons h1 h2,hf=>.cons (RA.unlab hm h1 (by simp[As.under]at hf;exact hf.1)) (RAs.unlab hm h2 (by simp[As.under]at hf;exact hf.2))
end
theorem gO{H:List (Nat×B)}: ∀{ls bs},eN H ls=some bs→ls.length=bs.length
 | [],bs,h=>by simp[eN]at h;subst h;rfl
 | l::r,bs,h=>by
  unfold eN at h
  split at h
  rename_i h1 h2
  simp at h;subst h
  simp[gO h2]
  cases h
theorem kR{H:List (Nat×B)}{l:Nat}: ∀{ls bs},l ∉ ls→eN H ls=some bs→eN (dG H l) ls=some bs
 | [],bs,_,h=>h
 | k::r,bs,hl,h=>by
  unfold eN at h ⊢
  have hne:l≠k:=fun e=>hl (by simp[e])
  split at h
  rename_i own sz xs bs' h1 h2
  simp at h;subst h
  rw[cW,if_neg hne,h1,kR (fun hh=>hl (by simp[hh])) h2]
  cases h
theorem pU: ∀{ls:List Nat} {bs:List B} {H F k},RH L w ok m H F→ls.Nodup→eN H ls=some bs→(∀j,j<ls.length→m' (k+j)=m (ls.getD j 0))→∃F' G,RH L w ok m' (cM k bs) F'∧F.Perm (F'++G)
 | [],bs,H,F,k,hH,_,h,_=>by simp[eN]at h;subst h;exact⟨[],F,.nil,.refl _⟩
 | l :: r,bs,H,F,k,hH,hn,h,hm=>by
  unfold eN at h
  split at h
  rename_i own sz xs bs' h1 h2
  simp at h;subst h
  obtain⟨Fl,Fr,G,h3,h4,h5⟩:=hH.taken h1
  have hl:=(List.nodup_cons.1 hn).1
  obtain⟨F',G',h6,h7⟩:=pU (k:=k+1) h4 (List.nodup_cons.1 hn).2 (kR hl h2) (fun j hj=>by
   have:=hm (j+1) (by simpa using hj)
   rw[show k+1+j=k+(j+1) by omega,this];simp)
  refine⟨Fl++F',G'++G,.cons ?_ h6,?_⟩
  have:=hm 0 (by simp)
  rw[Nat.add_zero]at this
  rw[this]
  simp only[List.getD_cons_zero]
  generalize m l=loc at h3
  cases h3 with
  | nil=>exact .nil
  | row a1 a2 a3 a4 a5 a6 a7 a8=>exact .row a1 a2 a3 a4 a5 a6 a7 a8
  refine h5.trans ?_
  refine(List.perm_iff_count.2 fun x=>?_)
  have:=(List.perm_iff_count.1 h7) x
  simp only[List.count_append]at this ⊢;omega
  cases h
end
theorem eY: ∀{bs:List B} {k j:Nat},k≤j→j<k+bs.length→(lk (cM k bs) j).isSome=true
 | [],k,j,h1,h2=>by simp at h2;omega
 | b::r,k,j,h1,h2=>by
  simp only[cM,aw]
  split
  rfl
  exact eY (by omega) (by simp at h2;omega)
theorem bd{P:Program}{L f:Nat}{args:List A}{R:A}{bs:List B}(h:MC P L f args [] (pV R bs)):MC P L f args [] (Rows R bs):=by
 refine⟨h.1,fun w m F ok vs h0 h1 h2 h3 h4 h5=>Calls.mono (h.2 w m F ok vs h0 h1 h2 h3 h4 h5) fun e w' he=>?_⟩
 cases e with
 | returned v=>
  obtain⟨r,H',m',F',⟨ls,hn,hR,rfl,hb⟩,a1,a2,a3,a4,a5,a6,a7⟩:=he
  have hlen:=gO hb
  obtain⟨F2,G,b1,b2⟩:=pU (m':=fun k=>if k<bs.length then m' (ls.getD k 0)else .nil) (k:=0) a1 hn hb (fun j hj=>by rw[Nat.zero_add,if_pos (by omega)])
  have hsub: ∀b∈F2,b∈F':=fun b hb=>b2.mem_iff.2 (by simp[hb])
  have hk:Keep w' w' (fun b=>b ∉ F'∧(ok b∨w.heap.size≤b∨b∈F)) (fun b=>b ∉ F2∧(ok b∨w.heap.size≤b∨b∈F)):=⟨cm _,fun b _ hb=>⟨⟨fun hh=>hb.1 (hsub b hh),hb.2⟩,rfl⟩⟩
  refine⟨R,cM 0 bs,_,F2,⟨Z,Z⟩,b1.over hk (fun _ _ _ _ _ _ _ _ _ _ h=>h) (fun _ _=>rfl),?_,fun b hb=>a3 b (hsub b hb),?_,a5,fun l hl=>by simp at hl,?_⟩
  exact(List.nodup_append.1 (b2.nodup_iff.1 a2)).1
  exact(a4.unlab (n:=bs.length) (m':=fun k=>if k<bs.length then m' (ls.getD k 0)else .nil) (fun k hk=>if_pos hk) hR).over hk (fun _ _ _ _ _ _ _ _ _ _ h=>h)
  intro l b cap sz hl
  by_cases hlt:l<bs.length
  exact eY (co _) (by omega)
  simp only[if_neg hlt]at hl;cases hl
 | _=>exact he.elim
section
variable{σ:Sg}{Q:b0}{all:Array Oper}{o:Oper}{rest:List Oper}{c:Call}{fx:Operand}{f:Nat}{caps:List M}{as ds:List A}{e:List (Nat×A)}{H:List (Nat×B)}{d:Nat}{R:A}{bs:List B}
theorem aC(hσ:SgOk σ)(hop:o.op= .call c)(hc:c.callee= .value fx)(hf:ev ⟨e,H⟩ fx=some (.c (.fn f caps)))(has:iv ⟨e,H⟩ c.args.toList=some as)(hM:MC σ.P σ.L f ds [] (Rows R bs))(hv:VAs H (as++caps.map .c) ds)
  (hcl:(du R&&eO (cM 0 bs))=true) (hs:Al.Oper.shorts o=true) (hg:o.guard=none) (hd:o.dst=some d) (hn:Nat.blt d σ.nt=true) {B0:Nat} (hu:(St.under B0 ⟨e,H⟩&&bz B0 σ.ins)=true) (K:AOps σ all Q rest ⟨(d,R.ren B0)::e,H++fP B0 (cM 0 bs)⟩):AOps σ all Q (o::rest) ⟨e,H⟩:=by
 refine lU hσ hop hc hf has hs hg hv hM hu fun res H' hQ=>?_
 obtain⟨rfl,rfl⟩:=hQ
 exact⟨hcl,_,by rw[hd];simp only[Al.put,hn,cond_true],K⟩
end
end Go.Al
/- The abstract logic, vp 21: loads out of rows; states told in other words. -/
namespace Go.Al

section
variable{σ:Sg}{o:Oper}{s:St}{e e':List (Nat×A)}{H H':List (Nat×B)}
theorem aW(hσ:SgOk σ){t l i j:Nat}{x:Operand}{own:Bool}{sz:Nat}{xs:List (List D)}{ex:List D}{v:A}(ho:o.op= .load t x)(hs:Al.Oper.shorts o=true)(hx:ev s x=some (.c (.pt l i j)))(hl:lk s.H l=some (.row own sz xs))(hxs:xs[i]? = some ex)
  (hv:lu σ.tt t (oW own l i 0 ex) j=some v):Val σ s o v:=by
 refine Val.of hσ ?_ hs
 simp only[fd,ho,hx,mQ,hl,hxs]
 exact hv
theorem Ent.to(he:envSub e e')(hH:H=H'):Ent σ ⟨e,H⟩ ⟨e',H'⟩:=by subst hH;exact Ent.env he

def sw(l l' k:Nat):Nat:=bif Nat.beq k l then l' else k
mutual
def M.sub(l l':Nat):M→M
 | .rs k a b=>.rs (sw l l' k) a b
 | .rp k i j=>.rp (sw l l' k) i j
 | .pt k i j=>.pt (sw l l' k) i j
 | .mp k=>.mp (sw l l' k)
 | .fn f caps=>.fn f (Ms.sub l l' caps)
 | .fb f caps=>.fb f (Ms.sub l l' caps)
 | .d x=>.d x
 | .ez=>.ez
 | .junk=>.junk
def Ms.sub(l l':Nat):List M→List M
 | []=>[]
 | x::r=>M.sub l l' x::Ms.sub l l' r
end
mutual
def A.sub(l l':Nat):A→A
 | .c x=>.c (M.sub l l' x)
 | .agg ms=>.agg (Ms.sub l l' ms)
 | .tup vs=>.tup (As.sub l l' vs)
 | .junk=>.junk
 | .un=>.un
def As.sub(l l':Nat):List A→List A
 | []=>[]
 | x::r=>A.sub l l' x::As.sub l l' r
end
def B.sub(l l':Nat):B→B
 | .row a b c=>.row a b c
 | .box ms=>.box (Ms.sub l l' ms)
 | .map es=>.map es
def iG(l l':Nat):List (Nat×A)→List (Nat×A)
 | []=>[]
 | (k,v)::r=>(k,A.sub l l' v)::iG l l' r
def kn(l l':Nat):List (Nat×B)→List (Nat×B)
 | []=>[]
 | (k,v)::r=>(sw l l' k,B.sub l l' v)::kn l l' r
section
variable{L:Nat}{w:World}{ok:Nat→Prop}{m:Nat→Loc}{l l':Nat}
def qP(m:Nat→Loc)(l l' k:Nat):Loc:=if k=l' then m l else if k=l then .nil else m k
theorem gW(k:Nat)(h:k≠l'):qP m l l' (sw l l' k)=m k:=by
 unfold sw qP
 by_cases e:k=l
 subst e;rw[tN.2 rfl];simp
 rw[qC.2 e];simp[h,e]
mutual
theorem RM.sub: ∀{x v},RM L w ok m x v→M.free l' x=true→RM L w ok (qP m l l') (x.sub l l') v
 | _,_,.d h1,_=>.d h1
 | _,_,.rs h1 h2 h3 h4,hf=>.rs ((gW _ (qC.1 (by simpa[M.free]using hf))).trans h1) h2 h3 h4
 | _,_,.rsNil h1,hf=>.rsNil ((gW _ (qC.1 (by simpa[M.free]using hf))).trans h1)
 | _,_,.rp h1 h2,hf=>.rp ((gW _ (qC.1 (by simpa[M.free]using hf))).trans h1) h2
 | _,_,.pt h1,hf=>.pt ((gW _ (qC.1 (by simpa[M.free]using hf))).trans h1)
 | _,_,.pb h1,hf=>.pb ((gW _ (qC.1 (by simpa[M.free]using hf))).trans h1)
 | _,_,.mp h1,hf=>.mp ((gW _ (qC.1 (by simpa[M.free]using hf))).trans h1)
 | _,_,.fn h1,hf=>.fn (RMs.sub h1 (by simpa[M.free]using hf))
 | _,_,.fb h1,hf=>.fb (RMs.sub h1 (by simpa[M.free]using hf))
 | _,_,.ez,_=>.ez
 | _,_,.junk h1,_=>.junk h1
theorem RMs.sub: ∀{xs vs},RMs L w ok m xs vs→Ms.free l' xs=true→RMs L w ok (qP m l l') (Ms.sub l l' xs) vs
 | _,_,.nil,_=>.nil
 | _,_,.cons h1 h2,hf=>.cons (RM.sub h1 (by simp[Ms.free]at hf;exact hf.1)) (RMs.sub h2 (by simp[Ms.free]at hf;exact hf.2))
end
mutual
theorem RA.sub: ∀{x v},RA L w ok m x v→A.free l' x=true→RA L w ok (qP m l l') (x.sub l l') v
 | _,_,.c h1,hf=>.c (h1.sub (by simpa[A.free]using hf))
 | _,_,.agg h1,hf=>.agg (RMs.sub h1 (by simpa[A.free]using hf))
 | _,_,.tup h1,hf=>.tup (RAs.sub h1 (by simpa[A.free]using hf))
 | _,_,.junk,_=>.junk
 | _,_,.un,_=>.un
theorem RAs.sub: ∀{xs vs},RAs L w ok m xs vs→As.free l' xs=true→RAs L w ok (qP m l l') (As.sub l l' xs) vs
 | _,_,.nil,_=>.nil
 | _,_,.cons h1 h2,hf=>.cons (RA.sub h1 (by simp[As.free]at hf;exact hf.1)) (RAs.sub h2 (by simp[As.free]at hf;exact hf.2))
end
theorem RB.sub{blk loc F}(h:RB L w ok m blk loc F)(hf:B.free l' blk=true):RB L w ok (qP m l l') (blk.sub l l') loc F:=by
 cases h with
 | nil=>exact .nil
 | row h1 h2 h3 h4 h5 h6 h7 h8=>exact .row h1 h2 h3 h4 h5 h6 h7 h8
 | box h1 h2=>exact .box h1 (RMs.sub h2 (by simpa[B.free]using hf))
 | map h1 h2=>exact .map h1 h2
theorem RH.sub: ∀{H F},RH L w ok m H F→lz l' H=true→lk H l'=none→RH L w ok (qP m l l') (kn l l' H) F
 | _,_,.nil,_,_=>.nil
 | _,_,.cons (l:=k) h1 h2,hf,hn=>by
  simp only[lz,bD]at hf
  rw[aw]at hn
  by_cases hk:k=l'
  rw[if_pos hk]at hn;cases hn
  rw[if_neg hk]at hn
  exact .cons (by rw[gW k hk];exact h1.sub hf.1) (RH.sub h2 hf.2 hn)
theorem oC(e:List (Nat×A))(t:Nat):lk (iG l l' e) t=(lk e t).map (A.sub l l'):=by
 induction e with
 | nil=>simp[iG,aU]
 | cons x r ih=>obtain⟨k,v⟩:=x;simp only[iG,aw,ih];split<;>simp
theorem f7{H:List (Nat×B)}(hn:lk H l'=none)(k:Nat):(lk (kn l l' H) k).isSome=(if k=l' then(lk H l).isSome else if k=l then false else(lk H k).isSome)∨l=l':=by
 by_cases hll:l=l'
 exact .inr hll
 left
 induction H with
 | nil=>simp[kn,aU]
 | cons x r ih=>
  obtain⟨j,v⟩:=x
  rw[aw]at hn
  by_cases hj:j=l'
  rw[if_pos hj]at hn;cases hn
  rw[if_neg hj]at hn
  simp only[kn,aw]
  have ih':=ih hn
  by_cases hjl:j=l
  subst hjl
  have:sw j l' j=l':=by simp[sw]
  rw[this]
  by_cases hk:k=l'
  subst hk;simp
  rw[if_neg (Ne.symm hk),ih']
  simp only[if_neg hk]
  by_cases hkj:k=j
  subst hkj;simp
  simp only[if_neg hkj,if_neg (Ne.symm hkj)]
  have:sw l l' j=j:=by simp[sw,qC.2 hjl]
  rw[this]
  by_cases hk:j=k
  subst hk;simp[hj,hjl]
  rw[if_neg hk,ih']
  by_cases hk2:k=l'
  simp only[if_pos hk2];rw[if_neg hjl]
  simp only[if_neg hk2]
  by_cases hk3:k=l
  simp[hk3]
  simp only[if_neg hk3];rw[if_neg hk]
end
theorem oQ{Q:b0}{c:Code}(e':List (Nat×A))(h:envSub e e')(K:AWP σ c Q ⟨e',H⟩):AWP σ c Q ⟨e,H⟩:=tV (Ent.env h) K
theorem nU{Q:b0}{all:Array Oper}{l:List Oper}(e':List (Nat×A))(h:envSub e e')(K:AOps σ all Q l ⟨e',H⟩):AOps σ all Q l ⟨e,H⟩:=kL (Ent.env h) K
end
end Go.Al
/- The abstract logic, vp 22: regions whose order is left open. -/
namespace Go.Al

def Stp(σ:Sg)(s:St)(o:Oper)(s':St):Prop:= ∀Γ:Ctx,Γ.toSg=σ→∀a w,fz Γ s a w→∀(K:Act→World→Prop) (Q:Exit→Act→World→Prop),(∀a' w',fz Γ s' a' w'→K a' w')→o.wp σ.P a w K Q

section
variable{σ:Sg}{s s':St}{o:Oper}{e:List (Nat×A)}{H:List (Nat×B)}{v:A}{d:Nat}
theorem Stp.val(hv:Val σ ⟨e,H⟩ o v)(hp:o.dst=some d)(hn:Nat.blt d σ.nt=true):Stp σ ⟨e,H⟩ o ⟨(d,v)::e,H⟩:=fun Γ eq a w hR K Q hK=>by
 subst eq
 obtain⟨m,F,hR0⟩:=hR
 obtain⟨u,h1,h2⟩:=hv Γ rfl m F a w hR0
 simp only[Oper.wp,h1,Oper.upon]
 exact hK _ _ ⟨m,F,hR0.put h2 (by simp[Al.put,hp,hn])⟩
theorem Stp.heap(h:HS σ s o s'):Stp σ s o s':=fun Γ eq a w hR K Q hK=>by
 subst eq
 obtain⟨m,F,hR0⟩:=hR
 rcases h Γ rfl m F a w hR0 with⟨u,w',h1,h2⟩|⟨w',h1,h2⟩
 simp only[Oper.wp,h1,Oper.upon];exact hK _ _ h2
 simp only[Oper.wp,h1,Oper.upon];exact hK _ _ h2
theorem nE{c:Call}{fx:Operand}{f:Nat}{caps:List M}{as ds:List A}{R:A}{bs:List (Nat×B)}{B0:Nat}(hσ:SgOk σ)(hop:o.op= .call c)(hc:c.callee= .value fx)(hf:ev ⟨e,H⟩ fx=some (.c (.fn f caps)))(has:iv ⟨e,H⟩ c.args.toList=some as)(hs:Al.Oper.shorts o=true)
  (hM:MC σ.P σ.L f ds [] (fun r H=>r=R∧H=bs)) (hv:VAs H (as++caps.map .c) ds) (hu:(St.under B0 ⟨e,H⟩&&bz B0 σ.ins)=true) (hcl:(du R&&eO bs)=true) (hd:o.dst=some d) (hn:Nat.blt d σ.nt=true) :
  Stp σ ⟨e,H⟩ o ⟨(d,R.ren B0)::e,H++fP B0 bs⟩:=fun Γ eq a w hR K Q hK=>by
 subst eq
 obtain⟨m,F,hR0⟩:=hR
 simp only[bD]at hu
 obtain⟨cs,h1,h2⟩:=dL hσ hR0 hσ.lo hop hc hf has hs
 simp only[Oper.wp,eP hM.1 hop hc h1,Oper.upon]
 refine Calls.mono (hR0.lent hM hv h2 hu.1 hu.2) fun en w' he=>?_
 cases en with
 | returned u=>
  obtain⟨res,H',⟨rfl,rfl⟩,h4⟩:=he
  obtain⟨m',F',h8,h9⟩:=h4 hcl
  exact hK _ _ ⟨m',F',h8.put h9 (by simp[Al.put,hd,hn])⟩
 | _=>exact he.elim
end

def aft(o:Oper):List Nat:=(o.after.toList.filter (Region.binds .any ·)).map (·.on)
def aZ(o:Oper)(v:A):List (Nat×A):=match o.dst with|some d=>[(d,v)]|none=>[]
def bg(X:Nat→Bool):Nat→List Oper→List A→List (Nat×A)
 | i,o::l,v::vs=>bg X (i+1) l vs++(bif X i then aZ o v else[])
 | _,_,_=>[]
theorem dP{X X':Nat→Bool}{t:Nat}: ∀{l:List Oper} {vs:List A} {i:Nat},(∀j,X j=X' j∨∀o,l[j-i]? = some o→i≤j→o.dst≠some t)→lk (bg X i l vs) t=lk (bg X' i l vs) t
 | [],_,_,_=>by simp[bg]
 | _::_,[],_,_=>by simp[bg]
 | o :: l,v::vs,i,h=>by
  simp only[bg,aH]
  rw [dP (l:=l) (vs:=vs) (i:=i+1) (X':=X') (fun j=>by
   rcases h j with h|h
   ·
    exact .inl h
   ·
    refine .inr fun o' ho' hij=>?_
    refine h o' ?_ (by omega)
    rw[show j-i=(j-(i+1))+1 by omega];simpa using ho')]
  congr 1
  rcases h i with h|h
  rw[h]
  have hd:=h o (by simp) (cm _)
  unfold aZ
  cases ho:o.dst with
  | none=>cases X i<;>cases X' i<;>rfl
  | some d=>
   have hne:d≠t:=fun e=>hd (by rw[ho,e])
   cases X i<;>cases X' i<;>simp[aw,aU,hne]
structure PO where
 anc:List Nat
 lo:Nat
 hi:Nat
 eff:Option Nat
def cg(plan:List PO)(i:Nat):List Nat:=match plan[i]? with|some p=>p.anc|none=>[]
def waitOk(plan:List PO)(effs:List Nat)(m:Nat)(dsts:List (Option Nat))(n:Nat)(e0:List (Nat×A))(nt:Nat):Nat→List Oper→List PO→Bool
 | i,o::l,p::ps=>
  (o.guard.isNone&&((aft o).all (fun j=>Nat.blt j i)&&(p.anc.all (fun j=>(aft o).contains j||(aft o).any (fun j'=>(cg plan j').contains j)) &&
  ((match p.eff with
   | none=>(Nat.beq p.lo 0||(match effs[p.lo-1]? with|some x=>p.anc.contains x|none=>false))&&((Nat.beq p.hi m||(match effs[p.hi]? with|some x=>(cg plan x).contains i|none=>false))&&(Nat.ble p.lo p.hi&&((match o.dst with|some d=>Nat.blt d nt|none=>false)&& !(effs.contains i))))
   | some k=>(match effs[k]? with|some x=>Nat.beq x i|none=>false)&&(Nat.beq k 0||(match effs[k-1]? with|some x=>p.anc.contains x|none=>false))) &&
  (match o.dst with
   | some d=>(!((dsts.take i).contains (some d)))&&((lk e0 d).isNone||(List.range n).all (fun j=>Nat.beq j i||p.anc.contains j))
   | none=>true)))))&&waitOk plan effs m dsts n e0 nt (i+1) l ps
 | _,[],[]=>true
 | _,_,_=>false
def cC(l:List Oper)(vs:List A)(e0:List (Nat×A))(o:Oper):List (Nat×A):=
 (aft o).flatMap (fun j=>match l[j]?,vs[j]? with|some o',some v'=>aZ o' v'|_,_=>[])++e0
def LkSub(e e':List (Nat×A)):Prop:= ∀t v,lk e' t=some v→lk e t=some v
def valK(σ:Sg)(E:List (Nat×A))(Hs:List (List (Nat×B)))(o:Oper)(v:A):Nat→Nat→Prop
 | lo,0=>Val σ ⟨E,Hs.getD lo []⟩ o v
 | lo,r+1=>Val σ ⟨E,Hs.getD lo []⟩ o v∧valK σ E Hs o v (lo+1) r
theorem valK.get{σ E Hs o v}: ∀{r lo k:Nat},valK σ E Hs o v lo r→lo≤k→k≤lo+r→Val σ ⟨E,Hs.getD k []⟩ o v
 | 0,lo,k,h,h1,h2=>by obtain rfl:k=lo:=(by omega);exact h
 | r+1,lo,k,h,h1,h2=>by
  by_cases e:k=lo
  subst e;exact h.1
  exact valK.get h.2 (by omega) (by omega)
def ot(l:List Oper)(vs:List A)(e0:List (Nat×A))(plan:List PO)(i:Nat):List (Nat×A):=bg (fun j=>!(Nat.beq j i)&& !((cg plan j).contains i)) 0 l vs++e0
def yE(σ:Sg)(l:List Oper)(vs:List A)(e0:List (Nat×A))(plan:List PO)(Hs:List (List (Nat×B)))(i:Nat)(o:Oper)(p:PO)(v:A):Prop:=
 match p.eff with
 | none=>valK σ (cC l vs e0 o) Hs o v p.lo (p.hi-p.lo)
 | some k=> ∀e,e.Sublist (ot l vs e0 plan i)→LkSub e (cC l vs e0 o)→Stp σ ⟨e,Hs.getD k []⟩ o ⟨aZ o v++e,Hs.getD (k+1) []⟩
section
variable{σ:Sg}{plan:List PO}{effs:List Nat}{m n nt:Nat}{dsts:List (Option Nat)}{e0:List (Nat×A)}
theorem waitOk.get: ∀{l:List Oper} {ps:List PO} {i:Nat},waitOk plan effs m dsts n e0 nt i l ps=true→∀{j:Nat} {o:Oper} {p:PO},l[j]? = some o→ps[j]? = some p→
  o.guard=none∧(∀k∈aft o,k<i+j)∧(∀k∈p.anc,k∈aft o∨∃j'∈aft o,k∈cg plan j')∧
  (match p.eff with
   | none=>(p.lo=0∨∃x,effs[p.lo-1]? = some x∧x∈p.anc)∧(p.hi=m∨∃x,effs[p.hi]? = some x∧i+j∈cg plan x)∧p.lo≤p.hi∧(∃d,o.dst=some d∧Nat.blt d nt=true)∧i+j ∉ effs
   | some k=>effs[k]? = some (i+j)∧(k=0∨∃x,effs[k-1]? = some x∧x∈p.anc))∧
  (∀d,o.dst=some d→(some d ∉ dsts.take (i+j))∧(lk e0 d=none∨∀k,k<n→k=i+j∨k∈p.anc))
 | [],_,_,_,j,o,p,hl,_=>by simp at hl
 | _::_,[],_,h,_,_,_,_,hp=>by simp at hp
 | o' :: l,p'::ps,i,h,0,o,p,hl,hp=>by
  simp at hl hp
  subst hl;subst hp
  simp only[waitOk,bD]at h
  obtain⟨⟨h1,h2,h3,h4,h5⟩,_⟩:=h
  refine⟨by simpa using h1,fun k hk=>?_,fun k hk=>?_,?_,fun d hd=>?_⟩
  ·
   have:=List.all_eq_true.1 h2 k hk
   simpa[gA]using this
  ·
   have:=List.all_eq_true.1 h3 k hk
   simp only[Bool.or_eq_true,List.contains_iff_mem,List.any_eq_true]at this
   exact this
  ·
   cases he:p'.eff with
   | none=>
    simp only[he,bD,Bool.or_eq_true]at h4 ⊢
    obtain⟨a1,a2,a3,a4,a5⟩:=h4
    refine⟨?_,?_,Nat.le_of_ble_eq_true a3,?_,by simpa using a5⟩
    ·
     rcases a1 with a1|a1
     ·
      exact .inl (tN.1 a1)
     ·
      cases hx:effs[p'.lo-1]? with
      | none=>simp[hx]at a1
      | some x=>exact .inr ⟨x,Z,by simpa[hx]using a1⟩
    ·
     rcases a2 with a2|a2
     ·
      exact .inl (tN.1 a2)
     ·
      cases hx:effs[p'.hi]? with
      | none=>simp[hx]at a2
      | some x=>exact .inr ⟨x,Z,by simpa[hx]using a2⟩
    ·
     cases hd:o'.dst with
     | none=>simp[hd]at a4
     | some d=>exact⟨d,Z,by simpa[hd]using a4⟩
   | some k=>
    simp only[he,bD,Bool.or_eq_true]at h4 ⊢
    obtain⟨a1,a2⟩:=h4
    refine⟨?_,?_⟩
    ·
     cases hx:effs[k]? with
     | none=>simp[hx]at a1
     | some x=>rw[hx]at a1;simpa using tN.1 a1
    ·
     rcases a2 with a2|a2
     ·
      exact .inl (tN.1 a2)
     ·
      cases hx:effs[k-1]? with
      | none=>simp[hx]at a2
      | some x=>exact .inr ⟨x,Z,by simpa[hx]using a2⟩
  ·
   simp only[hd,bD,Bool.or_eq_true]at h5
   refine⟨by simpa using h5.1,?_⟩
   rcases h5.2 with h6|h6
   ·
    exact .inl (by simpa using h6)
   ·
    refine .inr fun k hk=>?_
    have:=List.all_eq_true.1 h6 k (by simpa using hk)
    simp only[Bool.or_eq_true,List.contains_iff_mem]at this
    exact this.imp (fun h=>by simpa using tN.1 h) id
 | o'::l,p'::ps,i,h,j+1,o,p,hl,hp=>by
  simp only[waitOk,bD]at h
  have:=waitOk.get h.2 (j:=j) (by simpa using hl) (by simpa using hp)
  rw[show i+(j+1)=i+1+j by omega]
  exact this
end

theorem eT{X Y:Nat→Bool}(h: ∀j,X j=true→Y j=true): ∀{l:List Oper} {vs:List A} {i:Nat},(bg X i l vs).Sublist (bg Y i l vs)
 | [],_,_=>by simp[bg]
 | _::_,[],_=>by simp[bg]
 | o::l,v::vs,i=>by
  simp only[bg]
  refine List.Sublist.append (eT h) ?_
  cases hX:X i with
  | false=>simp
  | true=>rw[h i hX];exact List.Sublist.refl _
theorem cx{X:Nat→Bool}: ∀{l:List Oper} {vs:List A} {i:Nat},l.length=vs.length→(∀(a b:Nat),a<b→∀(oa ob:Oper),l[a]? = some oa→l[b]? = some ob→∀d,oa.dst=some d→ob.dst≠some d)→
  ∀{j:Nat} {o:Oper} {v:A} {d:Nat},l[j]? = some o→vs[j]? = some v→o.dst=some d→X (i+j)=true→lk (bg X i l vs) d=some v
 | [],_,_,_,_,j,o,v,d,hl,_,_,_=>by simp at hl
 | _::_,[],_,hn,_,_,_,_,_,_,_,_,_=>by simp at hn
 | o' :: l,v'::vs,i,hn,hd,0,o,v,d,hl,hv,ho,hX=>by
  simp at hl hv
  subst hl;subst hv
  have hnone:lk (bg X (i+1) l vs) d=none:=by
   have key: ∀{l:List Oper} {vs:List A} {i:Nat},(∀(b:Nat) (ob:Oper),l[b]? = some ob→ob.dst≠some d)→lk (bg X i l vs) d=none:=by
    intro l
    induction l with
    | nil=>intro vs i _;simp[bg,aU]
    | cons o2 l ih=>
     intro vs i hh
     cases vs with
     | nil=>simp[bg,aU]
     | cons v2 vs=>
      simp only[bg,aH,ih (fun b ob hb=>hh (b+1) ob (by simpa using hb)),Option.none_or]
      have:=hh 0 o2 (by simp)
      cases X i with
      | false=>rfl
      | true=>
       simp only[cond_true,aZ]
       cases ho2:o2.dst with
       | none=>rfl
       | some d2=>rw[aw,if_neg (fun e=>this (by rw[ho2,e]))];rfl
   exact key fun b ob hb=>hd 0 (b+1) (by omega) o' ob (by simp) (by simpa using hb) d ho
  simp only[bg,aH,hnone,Option.none_or]
  rw[Nat.add_zero]at hX
  simp[hX,aZ,ho,aw]
 | o'::l,v'::vs,i,hn,hd,j+1,o,v,d,hl,hv,ho,hX=>by
  have:=cx (X:=X) (l:=l) (vs:=vs) (i:=i+1) (by simpa using hn) (fun a b hab oa ob ha hb=>hd (a+1) (b+1) (by omega) oa ob (by simpa using ha) (by simpa using hb)) (j:=j) (by simpa using hl) (by simpa using hv) ho (by rw[show i+1+j=i+(j+1) by omega];exact hX)
  simp only[bg,aH,this,Option.some_or]
theorem dH{X:Nat→Bool}{d:Nat}: ∀{l:List Oper} {vs:List A} {i:Nat},(∀(b:Nat) (ob:Oper),l[b]? = some ob→X (i+b)=true→ob.dst≠some d)→lk (bg X i l vs) d=none
 | [],_,_,_=>by simp[bg,aU]
 | _::_,[],_,_=>by simp[bg,aU]
 | o2::l,v2::vs,i,hh=>by
  simp only[bg,aH,dH (fun b ob hb hX=>hh (b+1) ob (by simpa using hb) (by rw[show i+(b+1)=i+1+b by omega];exact hX)),Option.none_or]
  have:=hh 0 o2 (by simp)
  cases hX:X i with
  | false=>rfl
  | true=>
   have:=this (by simpa using hX)
   simp only[cond_true,aZ]
   cases ho2:o2.dst with
   | none=>rfl
   | some d2=>rw[aw,if_neg (fun e=>this (by rw[ho2,e]))];rfl
theorem xg{o:Oper}{j:Nat}:j∈aft o↔∃e∈o.after,Region.binds .any e=true∧e.on=j:=by
 unfold aft
 simp only[List.mem_map,List.mem_filter,Array.mem_toList_iff]
 constructor
 rintro⟨e,⟨h1,h2⟩,h3⟩;exact⟨e,h1,h2,h3⟩
 rintro⟨e,h1,h2,h3⟩;exact⟨e,⟨h1,h2⟩,h3⟩
structure Mid(l:List Oper)(effs:List Nat)(X:Nat→Bool)(k:Nat):Prop where
 down: ∀i o,l[i]? = some o→X i=true→∀j∈aft o,X j=true
 out: ∀i,l.length≤i→X i=false
 eff: ∀q x,effs[q]? = some x→(X x=true↔q<k)
 le:k≤effs.length

theorem Mid.anc{l:List Oper}{effs:List Nat}{X:Nat→Bool}{k:Nat}(h:Mid l effs X k){plan:List PO}(hlen:plan.length=l.length)(hw: ∀j o p,l[j]? = some o→plan[j]? = some p→(∀q∈aft o,q<j)∧(∀q∈p.anc,q∈aft o∨∃j'∈aft o,q∈cg plan j')) :
  ∀(i:Nat) (o:Oper),l[i]? = some o→(∀j∈aft o,X j=true)→∀q∈cg plan i,X q=true:=by
 intro i
 induction i using Nat.strongRecOn with
 | _ i ih=>
  intro o ho haft q hq
  have hi:i<plan.length:=by rw[hlen];exact(List.getElem?_eq_some_iff.1 ho).1
  have hp:plan[i]? = some plan[i]:=List.getElem?_eq_getElem hi
  simp only[cg,hp]at hq
  rcases(hw i o plan[i] ho hp).2 q hq with hq|⟨j',hj',hq⟩
  exact haft q hq
  have hlt:=(hw i o plan[i] ho hp).1 j' hj'
  have hXj:=haft j' hj'
  have hjl:j'<l.length:=by omega
  have hoj:l[j']? = some l[j']:=List.getElem?_eq_getElem hjl
  exact ih j' hlt _ hoj (h.down j' _ hoj hXj) q hq
end Go.Al
/- The abstract logic, vp 23: operations with an effect in a region whose order is left open. -/
namespace Go.Al

theorem cX{e E:List (Nat×A)}{H:List (Nat×B)}(h:LkSub e E){x:Operand}{v:A}(hx:ev ⟨E,H⟩ x=some v):ev ⟨e,H⟩ x=some v:=by
 cases x with
 | tmp t=>exact h t v hx
 | const c=>exact hx
 | global g=>exact hx
 | func f=>exact hx
theorem iF{e E:List (Nat×A)}{H:List (Nat×B)}(h:LkSub e E): ∀{xs:List Operand} {vs:List A},iv ⟨E,H⟩ xs=some vs→iv ⟨e,H⟩ xs=some vs
 | [],vs,hv=>hv
 | x::xs,vs,hv=>by
  unfold iv at hv ⊢
  split at hv
  rename_i v vs' h1 h2
  rw[cX h h1,iF h h2]
  exact hv
  cases hv
theorem dy{n:Nat}: ∀{e e':List (Nat×A)},e.Sublist e'→dY n e'=true→dY n e=true
 | _,_,.slnil,_=>rfl
 | _,_,.cons (k,v) h,hu=>by simp only[dY,bD]at hu;exact dy h hu.2
 | _,_,.cons_cons (k,v) h,hu=>by simp only[dY,bD]at hu ⊢;exact⟨hu.1,dy h hu.2⟩
theorem go{n:Nat}: ∀{e e':List (Nat×A)},e.Sublist e'→eE n e'=true→eE n e=true
 | _,_,.slnil,_=>rfl
 | _,_,.cons (k,v) h,hu=>by simp only[eE,bD]at hu;exact go h hu.2
 | _,_,.cons_cons (k,v) h,hu=>by simp only[eE,bD]at hu ⊢;exact⟨hu.1,go h hu.2⟩
theorem de{σ:Sg}{n:Nat}{e e':List (Nat×A)}{H:List (Nat×B)}(h:e.Sublist e')(hf:St.fresh ⟨e',H⟩ σ n=true):St.fresh ⟨e,H⟩ σ n=true:=by
 simp only[St.fresh,St.free,bD]at hf ⊢
 exact⟨⟨hf.1.1,go h hf.1.2.1,hf.1.2.2⟩,hf.2⟩
def Eff(σ:Sg)(E W:List (Nat×A))(H:List (Nat×B))(o:Oper)(v:A)(H':List (Nat×B)):Prop:= ∀e,e.Sublist W→LkSub e E→Stp σ ⟨e,H⟩ o ⟨aZ o v++e,H'⟩
section
variable{σ:Sg}{o:Oper}{E W:List (Nat×A)}{H:List (Nat×B)}{d:Nat}{c:Call}{fx:Operand}{f:Nat}{caps:List M}{as ds:List A}{R:A}{bs:List B}
theorem bM{B0:Nat}(hσ:SgOk σ)(hop:o.op= .call c)(hc:c.callee= .value fx)(hf:ev ⟨E,H⟩ fx=some (.c (.fn f caps)))(has:iv ⟨E,H⟩ c.args.toList=some as)(hM:MC σ.P σ.L f ds [] (Rows R bs))(hv:VAs H (as++caps.map .c) ds)(hcl:(du R&&eO (cM 0 bs))=true)
  (hs:Al.Oper.shorts o=true) (hd:o.dst=some d) (hn:Nat.blt d σ.nt=true) (hu:(St.under B0 ⟨W,H⟩&&bz B0 σ.ins)=true):Eff σ E W H o (R.ren B0) (H++fP B0 (cM 0 bs)):=fun e hW hE=>by
 have hu':(St.under B0 ⟨e,H⟩&&bz B0 σ.ins)=true:=by
  simp only[St.under,bD]at hu ⊢
  exact⟨⟨dy hW hu.1.1,hu.1.2⟩,hu.2⟩
 have:=nE hσ hop hc (cX hE hf) (iF hE has) hs hM hv hu' hcl hd hn
 simpa[aZ,hd]using this
theorem aG(hσ:SgOk σ){v:A}{B0:Nat}(hop:o.op= .call c)(hc:c.callee= .value fx)(hf:ev ⟨E,H⟩ fx=some (.c (.fn f caps)))(has:iv ⟨E,H⟩ c.args.toList=some as)(hM:MC σ.P σ.L f ds [] (Plain v))(hv:VAs H (as++caps.map .c) ds)(hl:v.lone=true)
  (hs:Al.Oper.shorts o=true) (hd:o.dst=some d) (hn:Nat.blt d σ.nt=true) (hu:(St.under B0 ⟨W,H⟩&&bz B0 σ.ins)=true):Eff σ E W H o v H:=fun e hW hE=>by
 have hu':(St.under B0 ⟨e,H⟩&&bz B0 σ.ins)=true:=by
  simp only[St.under,bD]at hu ⊢
  exact⟨⟨dy hW hu.1.1,hu.1.2⟩,hu.2⟩
 have:=nE (bs:=[]) hσ hop hc (cX hE hf) (iF hE has) hs hM hv hu' (by simp[(dh hl 0).2,eO]) hd hn
 rw[(dh hl B0).1]at this
 simpa[aZ,hd,fP]using this
theorem Eff.alloc(hσ:SgOk σ){t:Nat}{i:TI}(ho:o.op= .alloc t)(ht:lk σ.tt t=some i)(hd:o.dst=some d)(hf:St.fresh ⟨W,H⟩ σ d=true)(hn:Nat.blt d σ.nt=true){H':List (Nat×B)}(hH':H'=ins H d (.box (i.zero.map .d))) :
  Eff σ E W H o (.c (.pt d 0 0)) H':=fun e hW hE=>by
 subst hH'
 have:=Stp.heap (HS.alloc (e:=e) (H:=H) hσ ho ht hd (de hW hf) hn)
 simpa[aZ,hd]using this
theorem mH(hσ:SgOk σ){t l j:Nat}{x y:Operand}{v:A}{cs ms:List M}{i:TI}(ho:o.op= .store t x y)(hs1:Operand.short x=true)(hs2:Operand.short y=true)(hx:ev ⟨E,H⟩ x=some (.c (.pt l 0 j)))(hl:lk H l=some (.box cs))(hy:ev ⟨E,H⟩ y=some v)(hm:v.cells=some ms)
  (ht:lk σ.tt t=some i) (hz:Nat.beq ms.length i.size=true) (hle:Nat.ble (j+i.size) cs.length=true) (hd:o.dst=none) {v':A} {H':List (Nat×B)} (hv':v'= .un) (hH':H'=ins (dG H l) l (.box (splice cs j ms))):Eff σ E W H o v' H':=fun e hW hE=>by
 subst hH'
 have:=Stp.heap (jS hσ ho hs1 hs2 (cX hE hx) hl (cX hE hy) hm ht hz hle hd)
 simpa[aZ,hd]using this
end

theorem av{P:Program}{L f:Nat}{args:List A}{v:A}(h:MC P L f args [] (fun r _=>r=v))(hl:v.lone=true):MC P L f args [] (Plain v):=by
 have h':MC P L f args [] (pV v []):=h.mono fun r H hr=>by
  subst hr
  unfold A.lone at hl
  split at hl
  ·
   exact⟨[],List.nodup_nil,Z,Z,Z⟩
  ·
   cases hl
 exact bd h'
end Go.Al
/- The abstract logic, vp 24: nil read as the empty slice, in a row. -/
namespace Go.Al

inductive NLe:D→D→Prop
 | refl {d}:NLe d d
 | nil {sz}:NLe .nils (.slc sz [])
 | any {o}:NLe (.any o) (.any none)
inductive NLes:List D→List D→Prop
 | nil:NLes [] []
 | cons {x y xs ys}:NLe x y→NLes xs ys→NLes (x::xs) (y::ys)
inductive NLess:List (List D)→List (List D)→Prop
 | nil:NLess [] []
 | cons {x y xs ys}:NLes x y→NLess xs ys→NLess (x::xs) (y::ys)
theorem NLes.length: ∀{xs ys},NLes xs ys→xs.length=ys.length
 | _,_,.nil=>rfl
 | _,_,.cons _ h=>by simp[NLes.length h]
theorem NLes.append: ∀{xs ys},NLes xs ys→∀{us vs},NLes us vs→NLes (xs++us) (ys++vs)
 | _,_,.nil,_,_,h=>h
 | _,_,.cons a b,_,_,h=>.cons a (NLes.append b h)
theorem NLess.length: ∀{xs ys},NLess xs ys→xs.length=ys.length
 | _,_,.nil=>rfl
 | _,_,.cons _ h=>by simp[NLess.length h]
theorem NLess.flat: ∀{xs ys},NLess xs ys→NLes xs.flatten ys.flatten
 | _,_,.nil=>.nil
 | _,_,.cons a b=>by simp only[List.flatten_cons];exact a.append (NLess.flat b)
theorem NLess.sizes{sz:Nat}: ∀{xs ys},NLess xs ys→(∀e∈xs,e.length=sz)→∀e∈ys,e.length=sz
 | _,_,.nil,_,e,he=>by cases he
 | _,_,.cons a b,h,e,he=>by
  rcases List.mem_cons.1 he with rfl|he
  rw[←a.length];exact h _ (by simp)
  exact NLess.sizes b (fun x hx=>h x (by simp[hx])) e he
theorem NLess.replicate{x y:List D}(h:NLes x y): ∀{n:Nat},NLess (List.replicate n x) (List.replicate n y)
 | 0=>.nil
 | n+1=>.cons h (NLess.replicate h)
theorem RDs.nle{L w ok}: ∀{ds es b o F},RDs L w ok ds b o F→NLes ds es→RDs L w ok es b o F
 | _,_,_,_,_,.nil,.nil=>.nil
 | _,_,_,_,_,.cons h1 h2 h3,.cons .refl b=>.cons h1 h2 (RDs.nle h3 b)
 | _,_,_,_,_,.cons h1 h2 h3,.cons .nil b=>by
  cases h2
  exact .cons (F1:=[]) h1 .slc0 (RDs.nle h3 b)
 | _,_,_,_,_,.cons h1 h2 h3,.cons .any b=>by
  cases h2 with
  | any a1 a2=>exact .cons (F1:=[]) h1 (.any a1 fun u hu=>by cases hu) (RDs.nle h3 b)
def em(l:Nat)(ys:List (List D)):List (Nat×B)→List (Nat×B)
 | []=>[]
 | (k,.row own sz xs)::r=>bif Nat.beq k l then(k,.row own sz ys)::r else(k,.row own sz xs)::em l ys r
 | (k,.box ms)::r=>(k,.box ms)::em l ys r
 | (k,.map es)::r=>(k,.map es)::em l ys r
theorem gf{l:Nat}{ys:List (List D)}: ∀{H:List (Nat×B)} {k:Nat},(lk (em l ys H) k).isSome=(lk H k).isSome
 | [],_=>rfl
 | (j,.row own sz xs)::r,k=>by
  unfold em
  cases h:Nat.beq j l with
  | true=>simp only[cond_true,aw];split<;>rfl
  | false=>simp only[cond_false,aw];split;rfl;exact gf
 | (j,.box ms)::r,k=>by simp only[em,aw];split;rfl;exact gf
 | (j,.map es)::r,k=>by simp only[em,aw];split;rfl;exact gf
theorem RH.rowLe{L w ok m}{l:Nat}{own:Bool}{sz:Nat}{xs ys:List (List D)}(hn:NLess xs ys): ∀{H F},RH L w ok m H F→lk H l=some (.row own sz xs)→RH L w ok m (em l ys H) F
 | _,_,.nil,h=>by simp[aU]at h
 | _,_,.cons (l:=k) (blk:=.row own' sz' xs') h1 h2,h=>by
  unfold em
  rw[aw]at h
  by_cases hk:k=l
  rw[if_pos hk]at h
  simp only[el,B.row.injEq]at h
  obtain⟨rfl,rfl,rfl⟩:=h
  rw[tN.2 hk]
  refine .cons ?_ h2
  generalize m k=loc at h1
  cases h1 with
  | nil=>cases hn;exact .nil
  | row a1 a2 a3 a4 a5 a6 a7 a8=>exact .row (by rw[←hn.length];exact a1) (by rw[←hn.length];exact a2) (hn.sizes a3) a4 a5 a6 (a7.nle hn.flat) a8
  rw[if_neg hk]at h
  rw[qC.2 hk]
  exact .cons h1 (RH.rowLe hn h2 h)
 | _,_,.cons (l:=k) (blk:=.box ms) h1 h2,h=>by
  unfold em
  rw[aw]at h
  by_cases hk:k=l
  rw[if_pos hk]at h;cases h
  rw[if_neg hk]at h
  exact .cons h1 (RH.rowLe hn h2 h)
 | _,_,.cons (l:=k) (blk:=.map es) h1 h2,h=>by
  unfold em
  rw[aw]at h
  by_cases hk:k=l
  rw[if_pos hk]at h;cases h
  rw[if_neg hk]at h
  exact .cons h1 (RH.rowLe hn h2 h)
theorem Ent.rowLe{σ:Sg}{e:List (Nat×A)}{H:List (Nat×B)}(l:Nat){own:Bool}{sz:Nat}{xs ys:List (List D)}(hl:lk H l=some (.row own sz xs))(hn:NLess xs ys):Ent σ ⟨e,H⟩ ⟨e,em l ys H⟩:=fun Γ eq a w ⟨m,F,hR⟩=>
 ⟨m,F,hR.H.rowLe hn hl,hR.nodup,hR.own,hR.env,hR.size,hR.defers,hR.frame,fun k hk hs=>hR.keep k hk (by rw[←gf (l:=l) (ys:=ys)];exact hs),fun k b cap sz hk=>by
 show(lk (em l ys H) k).isSome=true
 rw[gf];exact hR.dom k b cap sz hk⟩
end Go.Al
/- The abstract logic, vp 25: data that goes into a row, told by rules. -/
namespace Go.Al

inductive Abs:St→List M→List D→St→Prop
 | nil {s}:Abs s [] [] s
 | d {s x r ds s'}:x.scalar=true→Abs s r ds s'→Abs s (.d x::r) (x::ds) s'
 | rs {s l len r ds s' sz xs}:lk s.H l=some (.row true sz xs)→len=xs.length→Abs (s.purge l) r ds s'→Abs s (.rs l 0 len::r) (.slc sz xs::ds) s'
theorem Abs.sound{Γ:Ctx}{m0:Nat→Loc}{a:Act}{w:World}{F:List Nat}: ∀{ms:List M} {vs:List Value} {s s':St} {ds:List D} {E:List Nat} {m:Nat→Loc},Rel1 Γ m F E s a w→Dom m s→
  (∀k,(lk s.H k).isSome=true→m k=m0 k)→RMs Γ.L w (Γ.ok F) m0 ms vs→
  Abs s ms ds s'→∃Fd G m',RDL Γ.L w (fun _=>False) ds vs Fd∧Rel1 Γ m' F (Fd++(G++E)) s' a w∧Dom m' s'∧(∀k,(lk s'.H k).isSome=true→m' k=m0 k)
 | [],vs,s,s',ds,E,m,hR,hD,hA,hm,h=>by
  cases hm
  cases h
  exact⟨[],[],m,.nil,hR,hD,hA⟩
 | x :: r,vs,s,s',ds,E,m,hR,hD,hA,hm,h=>by
  cases hm with
  | @cons _ _ v vs h1 h2=>
   cases h with
   | d hs h3=>
    obtain⟨Fd,G,m',h5,h6,h7⟩:=Abs.sound hR hD hA h2 h3
    cases h1 with
    | d h1=>exact⟨Fd,G,m',.cons (F1:=[]) (cr hs h1) h5,h6,h7⟩
   | @rs _ l len _ _ _ sz xs hl hlen h3=>
    subst hlen
    obtain⟨Fl,G,h5,h6⟩:=hR.takeAll0 hl
    have hA': ∀k,(lk (St.purge l s).H k).isSome=true→fM m l .nil k=m0 k:=fun k hk=>by
     simp only[St.purge,eH]at hk
     by_cases e:l=k
     ·
      rw[if_pos e]at hk;cases hk
     ·
      rw[if_neg e]at hk
      rw[bj (Ne.symm e)]
      exact hA k (by simpa using hk)
    obtain⟨Fd,G',m',h7,h8,h8'⟩:=Abs.sound h6 (hD.purge l) hA' h2 h3
    have hml:=hA l (by rw[hl];rfl)
    have key: ∃Fv G'',RD Γ.L w (fun _=>False) (.slc sz xs) v Fv∧Fl.Perm (Fv++G''):=by
     rcases h1.rs_inv with⟨b,cap,base,c,sz',hm,hle,hcap,hbase,rfl⟩|⟨hm,_,hlen,_,rfl⟩
     rw[hml,hm]at h5
     cases h5 with
     | @row _ _ _ _ _ bO T F2 g1 g2 g3 g4 g5 g6 g7 g8=>
      rcases hbase with hb|hb
      subst hb
      have hx:xs=[]:=List.eq_nil_of_length_eq_zero (by omega)
      subst hx
      exact⟨[],_,.slc0,.refl _⟩
      subst hb
      have hcs:c*sz≤bO.size:=Nat.le_trans (Nat.mul_le_mul_right sz (by omega)) g5
      refine⟨_,[],?_,by rw[List.append_nil]⟩
      rw[Nat.zero_mul]
      exact RD.own g1 hle g3 g4 hcs (by omega) (g7.mono (fun b _ hb=>absurd hb.1 (by simp)) (cm _) Z (fun _ _=>rfl))
     have hx:xs=[]:=List.eq_nil_of_length_eq_zero (by omega)
     subst hx
     exact⟨[],Fl,.slc0,.refl _⟩
    obtain⟨Fv,G'',h9,h10⟩:=key
    refine⟨Fv++Fd,G'++(G''++G),m',.cons h9 h7,h8.permE ?_,h8'⟩
    refine(List.Perm.append_left Fd (List.Perm.append_left G' (h10.append_right (G++E)))).trans ?_
    simp only[←dO]
    refine List.Perm.append_right E (List.Perm.append_right G (List.Perm.append_right G'' ?_))
    rw[dO Fd G' Fv]
    refine(List.Perm.append_left Fd List.perm_append_comm).trans ?_
    rw[←dO]
    exact List.perm_append_comm.append_right G'
section
variable{σ:Sg}{o:Oper}{s s1:St}{e:List (Nat×A)}{H:List (Nat×B)}
theorem gq(hσ:SgOk σ){t l i j:Nat}{x y:Operand}{v:A}{ms:List M}{ds ex:List D}{inf:TI}{sz:Nat}{own:Bool}{xs0 xs xs':List (List D)}(ho:o.op= .store t x y)(hs1:Operand.short x=true)(hs2:Operand.short y=true)(hx:ev ⟨e,H⟩ x=some (.c (.pt l i j)))(hl0:lk H l=some (.row own sz xs0))
  (hy:ev ⟨e,H⟩ y=some v) (hm:v.cells=some ms) (hp:Abs ⟨e,H⟩ ms ds s1) (hl:lk s1.H l=some (.row true sz xs)) (ht:lk σ.tt t=some inf) (hz:Nat.beq ds.length inf.size=true) (hj:Nat.ble (j+ds.length) sz=true)
  (hno:St.noRp l ⟨s1.env,dG s1.H l⟩=true) (hd:o.dst=none)
  (hxs:xs[i]? = some ex) (hxs':xs.set i (ex.take j++(ds++ex.drop (j+ds.length)))=xs'):HS σ ⟨e,H⟩ o ⟨s1.env,ins (dG s1.H l) l (.row true sz xs')⟩:=fun Γ eq m F a w hR=>by
 subst eq
 subst hxs'
 have h2:=RA.cells (hR.ev hσ.lo hs2 hy) hm
 obtain⟨b,cap,sz',hb,hpv⟩:=rz hR hl0 (hR.ev hσ.lo hs1 hx)
 obtain⟨Fd,G,m',h3,h4,h5,h6⟩:=Abs.sound hR.to1 hR.dom (fun _ _=>rfl) h2 hp
 have hb':m' l= .at b cap sz':=by rw[h6 l (by simp[hl])];exact hb
 have hds:=h3.mono (ok':=fun b=>true=false∧Γ.ok F b) (w':=w) (fun b _ hb=>hb.elim) (cm _) (fun _ _=>rfl)
 have hlen:=hds.length
 obtain⟨rfl,bO,T,g1,g2,g3⟩:=io h4 h5 hl hno hxs hds (fun h=>by cases h) (Nat.le_of_ble_eq_true hj) hb'
 have hxsz:(a.eval y).cells.size=inf.size:=by rw[←Array.length_toList,←hlen];exact tN.1 hz
 have hrun:=md (hσ.tt.get ht) (o:=i*sz'+j) g1 hxsz (by rw[←hxsz,←Array.length_toList];exact g2) h2.oneCell
 rw[←hxsz,←Array.length_toList]at hrun
 exact .inr ⟨_,by simp only[execOp,ho,hpv,Sem.run_bind,hrun,Result.andThen_ok,Sem.run_pure];rfl,by rw[hd];exact g3⟩
end
end Go.Al
/- The abstract logic, vp 26: a block of one's own is let go as data. -/
namespace Go.Al

mutual
inductive FM(l:Nat)(blk:B):M→M→Prop
 | keep {x}:M.free l x=true→FM l blk x x
 | row {own sz xs n}:blk= .row own sz xs→n=xs.length→FM l blk (.rs l 0 n) (.d (.slc sz xs))
 | box {ms cs j}:blk= .box ms→VMs [] ms (cs.map .d)→FM l blk (.pt l 0 j) (.d (.ptr cs j))
 | junk {x}:FM l blk x .junk
inductive FMs(l:Nat)(blk:B):List M→List M→Prop
 | nil:FMs l blk [] []
 | cons {x y xs ys}:FM l blk x y→FMs l blk xs ys→FMs l blk (x::xs) (y::ys)
end
theorem FMs.keep{l:Nat}{blk:B}: ∀{xs:List M},Ms.free l xs=true→FMs l blk xs xs
 | [],_=>.nil
 | x::r,h=>by simp only[Ms.free,bD]at h;exact .cons (.keep h.1) (FMs.keep h.2)
inductive FA(l:Nat)(blk:B):A→A→Prop
 | keep {x}:A.free l x=true→FA l blk x x
 | c {x y}:FM l blk x y→FA l blk (.c x) (.c y)
 | agg {x y}:FMs l blk x y→FA l blk (.agg x) (.agg y)
 | junk {x}:FA l blk x .junk
inductive FAs(l:Nat)(blk:B)(e:List (Nat×A)):List (Nat×A)→Prop
 | nil:FAs l blk e []
 | cons {t u v r}:lk e t=some u→FA l blk u v→FAs l blk e r→FAs l blk e ((t,v)::r)
inductive FB(l:Nat)(blk:B):B→B→Prop
 | row {own sz xs}:FB l blk (.row own sz xs) (.row own sz xs)
 | box {x y}:FMs l blk x y→FB l blk (.box x) (.box y)
 | map {es}:FB l blk (.map es) (.map es)
inductive FH(l:Nat)(blk:B):List (Nat×B)→List (Nat×B)→Prop
 | nil:FH l blk [] []
 | skip {b r r'}:FH l blk r r'→FH l blk ((l,b)::r) r'
 | cons {k b b' r r'}:Nat.beq k l=false→FB l blk b b'→FH l blk r r'→FH l blk ((k,b)::r) ((k,b')::r')

section
variable{L:Nat}{w:World}{okB ok:Nat→Prop}{m m':Nat→Loc}{l:Nat}{blk:B}{Fl:List Nat}
theorem FM.sound(hB:RB L w okB m blk (m l) Fl)(h1: ∀b,okB b→ok b)(h2: ∀b∈Fl,ok b)(hm: ∀k,k≠l→m' k=m k){x y v}(h:RM L w ok m x v)(hf:FM l blk x y):RM L w ok m' y v:=by
 cases hf with
 | keep hk=>exact h.keep (Keep.refl w ok) hm (fun _ _ _ _ _ _ _ _ _ _ _ h=>h) hk
 | junk=>exact .junk h.oneCell
 | @row own sz xs n hb hn=>
  subst hb
  obtain⟨b,cap,base,c,sz',a1,a2,a3,a4,rfl⟩|⟨a1,_,hz,_,rfl⟩:=h.rs_inv
  rw[a1]at hB
  rcases hB.row_inv with⟨e,_⟩|⟨b',cap',bO,T,G',e,b1,b2,b3,b4,b5,rfl⟩
  cases e
  cases e
  by_cases hx:xs=[]
  subst hx;subst hn;exact .d .slc0
  rcases a4 with a4|rfl
  have:xs.length=0:=by omega
  exact absurd (List.eq_nil_of_length_eq_zero this) hx
  subst hn
  have b6:=b5.freeze (ok':=ok) (fun x _ hx=>h1 x hx.2) (fun x hx=>h2 x (by simp[hx]))
  exact .d (.slc b1 a2 b3 (h2 b (by simp)) (Array.getElem?_eq_some_iff.1 b4).1 (by simpa using b6))
  have:xs.length=0:=by omega
  have:=List.eq_nil_of_length_eq_zero this
  subst this;subst hn;exact .d .slc0
 | @box ms cs j hb hv=>
  subst hb
  cases h with
  | pt a1=>rw[a1]at hB;cases hB
  | pb a1=>
   rw[a1]at hB
   cases hB with
   | box c1 c2=>
    rename_i b bO T
    have c3:=RMs.view (m':=m) (RH.nil (L:=L) (w:=w) (ok:=okB) (m:=m)) h1 (fun b hb=>by cases hb) c2 hv
    have:=mv (b:=b) (o:=0) c3 (fun j v hj=>by
     rw[Nat.zero_add]
     simp[World.cell?,c1]
     simpa using hj)
    have this:=RD.ptr (off:=j) (h2 b (by simp)) (Array.getElem?_eq_some_iff.1 c1).1 this
    rw[Nat.zero_add]at this
    exact .d this
theorem FMs.sound(hB:RB L w okB m blk (m l) Fl)(h1: ∀b,okB b→ok b)(h2: ∀b∈Fl,ok b)(hm: ∀k,k≠l→m' k=m k): ∀{xs ys vs},RMs L w ok m xs vs→FMs l blk xs ys→RMs L w ok m' ys vs
 | _,_,_,.nil,.nil=>.nil
 | _,_,_,.cons a b,.cons c d=>.cons (c.sound hB h1 h2 hm a) (FMs.sound hB h1 h2 hm b d)
theorem FA.sound(hB:RB L w okB m blk (m l) Fl)(h1: ∀b,okB b→ok b)(h2: ∀b∈Fl,ok b)(hm: ∀k,k≠l→m' k=m k){x y v}(h:RA L w ok m x v)(hf:FA l blk x y):RA L w ok m' y v:=by
 cases hf with
 | keep hk=>exact h.keep (Keep.refl w ok) hm (fun _ _ _ _ _ _ _ _ _ _ _ h=>h) hk
 | c hf=>cases h with|c h=>exact .c (hf.sound hB h1 h2 hm h)
 | agg hf=>cases h with|agg h=>exact .agg (hf.sound hB h1 h2 hm h)
 | junk=>exact .junk
theorem FAs.get{e e':List (Nat×A)}(h:FAs l blk e e'){t:Nat}{v:A}(hv:lk e' t=some v): ∃u,lk e t=some u∧FA l blk u v:=by
 induction h with
 | nil=>simp[aU]at hv
 | cons h1 h2 _ ih=>
  rw[aw]at hv
  split at hv
  rename_i e;subst e;simp at hv;subst hv;exact⟨_,h1,h2⟩
  exact ih hv
theorem FH.sound(hB:RB L w okB m blk (m l) Fl)(h1: ∀b,okB b→ok b)(h2: ∀b∈Fl,ok b)(hm: ∀k,k≠l→m' k=m k){H H':List (Nat×B)}(h:FH l blk H H'): ∀{F},RH L w ok m (dG H l) F→RH L w ok m' H' F:=by
 induction h with
 | nil=>intro F h;cases h;exact .nil
 | skip _ ih=>
  intro F h
  unfold dG at h
  rw[tN.2 Z]at h
  exact ih h
 | cons hk hb _ ih=>
  intro F h
  unfold dG at h
  rw[hk]at h
  cases h with
  | cons a b=>
   refine .cons ?_ (ih b)
   rw[hm _ (qC.1 hk)]
   cases hb with
   | row=>
    generalize m _=loc at a
    cases a with
    | nil=>exact .nil
    | row a1 a2 a3 a4 a5 a6 a7 a8=>exact .row a1 a2 a3 a4 a5 a6 a7 a8
   | box hb=>
    generalize m _=loc at a
    cases a with
    | box a1 a2=>exact .box a1 (hb.sound hB h1 h2 hm a2)
   | map=>
    generalize m _=loc at a
    cases a with
    | map a1 a2=>exact .map a1 a2
theorem FH.isSome{H H':List (Nat×B)}(h:FH l blk H H'){k:Nat}(hk:k≠l):(lk H' k).isSome=(lk H k).isSome:=by
 induction h with
 | nil=>rfl
 | skip _ ih=>rw[ih,aw,if_neg (Ne.symm hk)]
 | cons _ _ _ ih=>simp only[aw];split;rfl;exact ih
theorem FH.none{H H':List (Nat×B)}(h:FH l blk H H'):lk H' l=none:=by
 induction h with
 | nil=>rfl
 | skip _ ih=>exact ih
 | cons h1 _ _ ih=>rw[aw,if_neg (qC.1 h1)];exact ih
end

theorem Ent.freeze{σ:Sg}{e e':List (Nat×A)}{H H':List (Nat×B)}(l:Nat){blk:B}(hl:lk H l=some blk)(he:FAs l blk e e')(hH:FH l blk H H'):Ent σ ⟨e,H⟩ ⟨e',H'⟩:=fun Γ eq a w hR=>by
 subst eq
 obtain⟨m,F,hR⟩:=hR
 obtain⟨Fl,G,hB,hR1⟩:=hR.to1.take hl
 rw[List.append_nil,←List.append_nil (Fl++G)]at hR1
 obtain⟨F',hR2,hsub,hdis⟩:=hR1.drop
 have h1: ∀b,Γ.ok F b→Γ.ok F' b:=fun b hb=>⟨fun hh=>hb.1 (hsub b hh),hb.2⟩
 have hFl: ∀b∈Fl,b∈F:=by
  obtain⟨FH,_,g2⟩:=hR1.H
  exact fun b hb=>g2.mem_iff.2 (by simp[hb])
 have h2: ∀b∈Fl,Γ.ok F' b:=fun b hb=>⟨hdis b (by simp[hb]),.inr (hR.own b (hFl b hb))⟩
 have hm: ∀k,k≠l→fM m l .nil k=m k:=fun k hk=>bj hk
 refine Rel1.toRel (m:=fM m l .nil) (F:=F') (E:=[]) ⟨?_,hR2.nodup,hR2.lt,hR2.own,fun t v hv=>?_,hR2.size,hR2.defers,hR2.frame,fun k hk hs=>?_⟩ (fun k b cap sz hk=>?_)
 obtain⟨FH,g1,g2⟩:=hR2.H
 exact⟨FH,hH.sound hB h1 h2 hm g1,g2⟩
 obtain⟨u,hu,hf⟩:=he.get hv
 exact hf.sound hB h1 h2 hm (hR2.env t u hu)
 have hne:k≠l:=fun e=>by subst e;rw[hH.none]at hs;cases hs
 rw[hm k hne]
 exact hR.keep k hk (by rw[←hH.isSome hne];exact hs)
 have hne:k≠l:=fun e=>by subst e;rw[bV]at hk;cases hk
 show(lk H' k).isSome=true
 rw[hH.isSome hne]
 rw[hm k hne]at hk
 exact hR.dom k b cap sz hk
end Go.Al
/- The abstract logic, vp 27: calls that get blocks of one's own, and change them. -/
namespace Go.Al

def cY:List Nat→Nat→Bool
 | [],_=>false
 | x::r,k=>bif Nat.beq x k then true else cY r k
theorem wZ{ls:List Nat}{k:Nat}:cY ls k=true↔k∈ls:=by
 induction ls with
 | nil=>simp[cY]
 | cons x r ih=>
  unfold cY
  by_cases h:x=k
  subst h;simp
  rw[qC.2 h];simp[ih,Ne.symm h]
def sI:List Nat→Nat→Option Nat
 | [],_=>none
 | x::r,j=>bif Nat.beq x j then some 0 else(sI r j).map (· + 1)
theorem m8{ls:List Nat}{j:Nat}(h:j ∉ ls):sI ls j=none:=by
 induction ls with
 | nil=>rfl
 | cons x r ih=>
  unfold sI
  rw[qC.2 (fun e=>h (by simp[e]))]
  simp[ih (fun hh=>h (by simp[hh]))]
theorem gy{ls:List Nat}(hn:ls.Nodup){k l:Nat}(h:ls[k]? = some l):sI ls l=some k:=by
 induction ls generalizing k with
 | nil=>simp at h
 | cons x r ih=>
  unfold sI
  cases k with
  | zero=>simp at h;subst h;simp
  | succ k=>
   simp at h
   have hl:l∈r:=List.mem_of_getElem? h
   rw[qC.2 (show x≠l from fun e=>(List.nodup_cons.1 hn).1 (by rw[e];exact hl))]
   simp[ih (List.nodup_cons.1 hn).2 h]
def nV(ls:List Nat)(B0 k:Nat):Nat:=match ls[k]? with
 | some l=>l
 | none=>B0+k
def i8(ls:List Nat)(B0:Nat)(m m':Nat→Loc)(j:Nat):Loc:=match sI ls j with
 | some k=>m' k
 | none=>if j<B0 then m j else if j-B0<ls.length then .nil else m' (j-B0)
theorem r8{ls:List Nat}{B0:Nat}{m m':Nat→Loc}(hn:ls.Nodup)(hb: ∀l∈ls,l<B0)(k:Nat):i8 ls B0 m m' (nV ls B0 k)=m' k:=by
 unfold nV
 cases h:ls[k]? with
 | some l=>simp only[i8,gy hn h]
 | none=>
  simp only[i8]
  rw[m8 (fun hh=>by have:=hb _ hh;omega)]
  have hk:ls.length≤k:=by simpa using h
  simp only[if_neg (show¬B0+k<B0 by omega),if_neg (show¬B0+k-B0<ls.length by omega)]
  congr 1;omega
theorem kP{ls:List Nat}{B0:Nat}{m m':Nat→Loc}{j:Nat}(h:j ∉ ls)(hj:j<B0):i8 ls B0 m m' j=m j:=by
 simp only[i8,m8 h,if_pos hj]
mutual
def M.re(g:Nat→Nat):M→M
 | .rs l a b=>.rs (g l) a b
 | .rp l i j=>.rp (g l) i j
 | .pt l i j=>.pt (g l) i j
 | .mp l=>.mp (g l)
 | .fn f caps=>.fn f (Ms.re g caps)
 | .fb f caps=>.fb f (Ms.re g caps)
 | .d x=>.d x
 | .ez=>.ez
 | .junk=>.junk
def Ms.re(g:Nat→Nat):List M→List M
 | []=>[]
 | x::r=>M.re g x::Ms.re g r
end
mutual
def A.re(g:Nat→Nat):A→A
 | .c x=>.c (M.re g x)
 | .agg ms=>.agg (Ms.re g ms)
 | .tup vs=>.tup (As.re g vs)
 | .junk=>.junk
 | .un=>.un
def As.re(g:Nat→Nat):List A→List A
 | []=>[]
 | x::r=>A.re g x::As.re g r
end
def B.re(g:Nat→Nat):B→B
 | .row a b c=>.row a b c
 | .box ms=>.box (Ms.re g ms)
 | .map es=>.map es
def nZ(g:Nat→Nat):List (Nat×B)→List (Nat×B)
 | []=>[]
 | (k,v)::r=>(g k,B.re g v)::nZ g r
section
variable{L:Nat}{w:World}{ok:Nat→Prop}{m m':Nat→Loc}{g:Nat→Nat}
mutual
theorem RM.re(hm: ∀k,m' (g k)=m k): ∀{x v},RM L w ok m x v→RM L w ok m' (x.re g) v
 | _,_,.d h1=>.d h1
 | _,_,.rs h1 h2 h3 h4=>.rs ((hm _).trans h1) h2 h3 h4
 | _,_,.rsNil h1=>.rsNil ((hm _).trans h1)
 | _,_,.rp h1 h2=>.rp ((hm _).trans h1) h2
 | _,_,.pt h1=>.pt ((hm _).trans h1)
 | _,_,.pb h1=>.pb ((hm _).trans h1)
 | _,_,.mp h1=>.mp ((hm _).trans h1)
 | _,_,.fn h1=>.fn (RMs.re hm h1)
 | _,_,.fb h1=>.fb (RMs.re hm h1)
 | _,_,.ez=>.ez
 | _,_,.junk h1=>.junk h1
theorem RMs.re(hm: ∀k,m' (g k)=m k): ∀{xs vs},RMs L w ok m xs vs→RMs L w ok m' (Ms.re g xs) vs
 | _,_,.nil=>.nil
 | _,_,.cons h1 h2=>.cons (RM.re hm h1) (RMs.re hm h2)
end
mutual
theorem RA.re(hm: ∀k,m' (g k)=m k): ∀{x v},RA L w ok m x v→RA L w ok m' (x.re g) v
 | _,_,.c h1=>.c (h1.re hm)
 | _,_,.agg h1=>.agg (RMs.re hm h1)
 | _,_,.tup h1=>.tup (RAs.re hm h1)
 | _,_,.junk=>.junk
 | _,_,.un=>.un
theorem RAs.re(hm: ∀k,m' (g k)=m k): ∀{xs vs},RAs L w ok m xs vs→RAs L w ok m' (As.re g xs) vs
 | _,_,.nil=>.nil
 | _,_,.cons h1 h2=>.cons (RA.re hm h1) (RAs.re hm h2)
end
theorem RB.re(hm: ∀k,m' (g k)=m k){blk loc F}(h:RB L w ok m blk loc F):RB L w ok m' (blk.re g) loc F:=by
 cases h with
 | nil=>exact .nil
 | row h1 h2 h3 h4 h5 h6 h7 h8=>exact .row h1 h2 h3 h4 h5 h6 h7 h8
 | box h1 h2=>exact .box h1 (RMs.re hm h2)
 | map h1 h2=>exact .map h1 h2
theorem RH.re(hm: ∀k,m' (g k)=m k): ∀{H F},RH L w ok m H F→RH L w ok m' (nZ g H) F
 | _,_,.nil=>.nil
 | _,_,.cons h1 h2=>.cons (by rw[hm];exact h1.re hm) (RH.re hm h2)
theorem gN{H:List (Nat×B)}{k:Nat}(h:(lk H k).isSome=true):(lk (nZ g H) (g k)).isSome=true:=by
 induction H with
 | nil=>simp[aU]at h
 | cons x r ih=>
  obtain⟨j,v⟩:=x
  simp only[nZ,aw]at h ⊢
  by_cases e:j=k
  subst e;simp
  rw[if_neg e]at h
  split
  rfl
  exact ih h
theorem jK{H:List (Nat×B)}{j:Nat}(h: ∀k,g k=j→(lk H k).isSome=false):lk (nZ g H) j=none:=by
 induction H with
 | nil=>rfl
 | cons x r ih=>
  obtain⟨i,v⟩:=x
  simp only[nZ,aw]
  have h1: ¬g i=j:=fun e=>by have:=h i e;simp[aw]at this
  rw[if_neg h1]
  refine ih fun k hk=>?_
  have:=h k hk
  rw[aw]at this
  split at this
  simp at this
  exact this
end

mutual
def M.aft(ls gone:List Nat):M→M
 | .rs l a b=>bif cY gone l then .junk else .rs l a b
 | .rp l i j=>bif cY ls l then .junk else .rp l i j
 | .pt l i j=>bif cY gone l then .junk else .pt l i j
 | .mp l=>bif cY gone l then .junk else .mp l
 | .fn f caps=>.fn f (Ms.aft ls gone caps)
 | .fb f caps=>.fb f (Ms.aft ls gone caps)
 | .d x=>.d x
 | .ez=>.ez
 | .junk=>.junk
def Ms.aft(ls gone:List Nat):List M→List M
 | []=>[]
 | x::r=>M.aft ls gone x::Ms.aft ls gone r
end
mutual
def A.aft(ls gone:List Nat):A→A
 | .c x=>.c (M.aft ls gone x)
 | .agg ms=>.agg (Ms.aft ls gone ms)
 | .tup vs=>.tup (As.aft ls gone vs)
 | .junk=>.junk
 | .un=>.un
def As.aft(ls gone:List Nat):List A→List A
 | []=>[]
 | x::r=>A.aft ls gone x::As.aft ls gone r
end
def B.aft(ls gone:List Nat):B→B
 | .row a b c=>.row a b c
 | .box ms=>.box (Ms.aft ls gone ms)
 | .map es=>.map es
def jh(ls gone:List Nat):List (Nat×A)→List (Nat×A)
 | []=>[]
 | (k,v)::r=>(k,A.aft ls gone v)::jh ls gone r
def kl(ls gone:List Nat):List (Nat×B)→List (Nat×B)
 | []=>[]
 | (k,v)::r=>(k,B.aft ls gone v)::kl ls gone r
theorem qn{ls gone:List Nat}(e:List (Nat×A))(t:Nat):lk (jh ls gone e) t=(lk e t).map (A.aft ls gone):=by
 induction e with
 | nil=>simp[jh,aU]
 | cons x r ih=>obtain⟨k,v⟩:=x;simp only[jh,aw,ih];split<;>simp
theorem mf{ls gone:List Nat}(e:List (Nat×B))(t:Nat):lk (kl ls gone e) t=(lk e t).map (B.aft ls gone):=by
 induction e with
 | nil=>simp[kl,aU]
 | cons x r ih=>obtain⟨k,v⟩:=x;simp only[kl,aw,ih];split<;>simp
section
variable{L:Nat}{w w':World}{ok ok':Nat→Prop}{m m':Nat→Loc}{B0:Nat}{ls gone:List Nat}
theorem ie{ls:List Nat}{k:Nat}(h:cY ls k=false):k ∉ ls:=fun hh=>by rw[wZ.2 hh]at h;cases h
mutual
theorem RM.aft(h:Keep w w' ok ok')(hm: ∀k,k<B0→cY gone k=false→m' k=m k)(hg: ∀k∈gone,k∈ls)
  (hp: ∀k b cap sz i j x n c,k ∉ ls→m k= .at b cap sz→w.cell? ⟨b,i*sz+j,none⟩=some (.slice x n c)→w'.cell? ⟨b,i*sz+j,none⟩=some (.slice x n c)) :
  ∀{x v},RM L w ok m x v→M.under B0 x=true→RM L w' ok' m' (x.aft ls gone) v
 | _,_,.d h1,_=>.d (h1.mono h.imm h.size (by simp))
 | _,_,.rs (l:=k) h1 h2 h3 h4,hf=>by
  unfold M.aft
  cases e:cY gone k with
  | true=>exact .junk Z
  | false=>exact .rs ((hm _ (by simpa[M.under]using hf) e).trans h1) h2 h3 h4
 | _,_,.rsNil (l:=k) h1,hf=>by
  unfold M.aft
  cases e:cY gone k with
  | true=>exact .junk Z
  | false=>exact .rsNil ((hm _ (by simpa[M.under]using hf) e).trans h1)
 | _, _,.rp (l:=k) h1 h2,hf=>by
  unfold M.aft
  cases e:cY ls k with
  | true=>exact .junk Z
  | false=>
   have hk:=ie e
   have hg':cY gone k=false:=by
    cases e':cY gone k with
    | false=>rfl
    | true=>exact absurd (hg k (wZ.1 e')) hk
   exact .rp ((hm _ (by simpa[M.under]using hf) hg').trans h1) (hp _ _ _ _ _ _ _ _ _ hk h1 h2)
 | _,_,.pt (l:=k) h1,hf=>by
  unfold M.aft
  cases e:cY gone k with
  | true=>exact .junk Z
  | false=>exact .pt ((hm _ (by simpa[M.under]using hf) e).trans h1)
 | _,_,.pb (l:=k) h1,hf=>by
  unfold M.aft
  cases e:cY gone k with
  | true=>exact .junk Z
  | false=>exact .pb ((hm _ (by simpa[M.under]using hf) e).trans h1)
 | _,_,.mp (l:=k) h1,hf=>by
  unfold M.aft
  cases e:cY gone k with
  | true=>exact .junk Z
  | false=>exact .mp ((hm _ (by simpa[M.under]using hf) e).trans h1)
 | _,_,.fn h1,hf=>.fn (RMs.aft h hm hg hp h1 (by simpa[M.under]using hf))
 | _,_,.fb h1,hf=>.fb (RMs.aft h hm hg hp h1 (by simpa[M.under]using hf))
 | _,_,.ez,_=>.ez
 | _,_,.junk h1,_=>.junk h1
theorem RMs.aft(h:Keep w w' ok ok')(hm: ∀k,k<B0→cY gone k=false→m' k=m k)(hg: ∀k∈gone,k∈ls)
  (hp: ∀k b cap sz i j x n c,k ∉ ls→m k= .at b cap sz→w.cell? ⟨b,i*sz+j,none⟩=some (.slice x n c)→w'.cell? ⟨b,i*sz+j,none⟩=some (.slice x n c)) :
  ∀{xs vs},RMs L w ok m xs vs→Ms.under B0 xs=true→RMs L w' ok' m' (Ms.aft ls gone xs) vs
 | _,_,.nil,_=>.nil
 | _,_,.cons h1 h2,hf=>.cons (RM.aft h hm hg hp h1 (by simp[Ms.under]at hf;exact hf.1)) (RMs.aft h hm hg hp h2 (by simp[Ms.under]at hf;exact hf.2))
end
mutual
theorem RA.aft(h:Keep w w' ok ok')(hm: ∀k,k<B0→cY gone k=false→m' k=m k)(hg: ∀k∈gone,k∈ls)
  (hp: ∀k b cap sz i j x n c,k ∉ ls→m k= .at b cap sz→w.cell? ⟨b,i*sz+j,none⟩=some (.slice x n c)→w'.cell? ⟨b,i*sz+j,none⟩=some (.slice x n c)) :
  ∀{x v},RA L w ok m x v→A.under B0 x=true→RA L w' ok' m' (x.aft ls gone) v
 | _,_,.c h1,hf=>.c (h1.aft h hm hg hp (by simpa[A.under]using hf))
 | _,_,.agg h1,hf=>.agg (RMs.aft h hm hg hp h1 (by simpa[A.under]using hf))
 | _,_,.tup h1,hf=>.tup (RAs.aft h hm hg hp h1 (by simpa[A.under]using hf))
 | _,_,.junk,_=>.junk
 | _,_,.un,_=>.un
theorem RAs.aft(h:Keep w w' ok ok')(hm: ∀k,k<B0→cY gone k=false→m' k=m k)(hg: ∀k∈gone,k∈ls)
  (hp: ∀k b cap sz i j x n c,k ∉ ls→m k= .at b cap sz→w.cell? ⟨b,i*sz+j,none⟩=some (.slice x n c)→w'.cell? ⟨b,i*sz+j,none⟩=some (.slice x n c)) :
  ∀{xs vs},RAs L w ok m xs vs→As.under B0 xs=true→RAs L w' ok' m' (As.aft ls gone xs) vs
 | _,_,.nil,_=>.nil
 | _,_,.cons h1 h2,hf=>.cons (RA.aft h hm hg hp h1 (by simp[As.under]at hf;exact hf.1)) (RAs.aft h hm hg hp h2 (by simp[As.under]at hf;exact hf.2))
end
theorem RB.aft(h:Keep w w' ok ok')(hm: ∀k,k<B0→cY gone k=false→m' k=m k)(hg: ∀k∈gone,k∈ls)
  (hp: ∀k b cap sz i j x n c,k ∉ ls→m k= .at b cap sz→w.cell? ⟨b,i*sz+j,none⟩=some (.slice x n c)→w'.cell? ⟨b,i*sz+j,none⟩=some (.slice x n c))
  {blk loc F} (hb:RB L w ok m blk loc F) (hf:B.under B0 blk=true) (hF: ∀b∈F,Same w w' b):RB L w' ok' m' (blk.aft ls gone) loc F:=by
 cases hb with
 | nil=>exact .nil
 | row h1 h2 h3 h4 h5 h6 h7 h8=>
  exact .row h1 h2 h3 ((hF _ (by simp)).trans h4) h5 h6 (h7.mono (fun b hb hok=>⟨⟨hok.1,(h.imm b hb hok.2).1⟩,(h.imm b hb hok.2).2⟩) h.size (hF _ (by simp)) (fun b hb=>hF b (by simp[hb]))) h8
 | box h1 h2=>exact .box ((hF _ (by simp)).trans h1) (RMs.aft h hm hg hp h2 (by simpa[B.under]using hf))
 | map h1 h2=>exact .map ((hF _ (by simp)).trans h1) (h2.mono h.imm h.size)
theorem RH.aft(h:Keep w w' ok ok')(hm: ∀k,k<B0→cY gone k=false→m' k=m k)(hg: ∀k∈gone,k∈ls)
  (hp: ∀k b cap sz i j x n c,k ∉ ls→m k= .at b cap sz→w.cell? ⟨b,i*sz+j,none⟩=some (.slice x n c)→w'.cell? ⟨b,i*sz+j,none⟩=some (.slice x n c)) :
  ∀{H F},RH L w ok m H F→dq B0 H=true→(∀x∈H,cY gone x.1=false)→(∀b∈F,Same w w' b)→RH L w' ok' m' (kl ls gone H) F
 | _,_,.nil,_,_,_=>.nil
 | _,_,.cons (l:=k) (blk:=blk) h1 h2,hf,hx,hF=>by
  simp only[dq,bD,gA]at hf
  have hk:=hx (k,blk) (by simp)
  exact .cons (by rw[hm k hf.1 hk];exact h1.aft h hm hg hp hf.2.1 (fun b hb=>hF b (by simp[hb]))) (RH.aft h hm hg hp h2 hf.2.2 (fun x hx'=>hx x (by simp[hx'])) (fun b hb=>hF b (by simp[hb])))
end
end Go.Al
/- The abstract logic, vp 28: the rule for calls that get blocks of one's own. -/
namespace Go.Al

def ck(H:List (Nat×B)):List Nat→Option (List B)
 | []=>some []
 | l::r=>match lk H l,ck H r with
  | some b,some bs=>some (b::bs)
  | _,_=>none
def B.lab(ls:List Nat):B→B
 | .row a b c=>.row a b c
 | .box ms=>.box (Ms.lab ls ms)
 | .map es=>.map es
def Bs.lab(ls:List Nat):List B→List B
 | []=>[]
 | b::r=>B.lab ls b::Bs.lab ls r
def Bs.under(n:Nat):List B→Bool
 | []=>true
 | b::r=>B.under n b&&Bs.under n r
def gU(H:List (Nat×B)):List Nat→List (Nat×B)
 | []=>H
 | l::r=>gU (dG H l) r
def fR:List Nat→Bool
 | []=>true
 | x::r=>!cY r x&&fR r
theorem dg: ∀{ls:List Nat},fR ls=true→ls.Nodup
 | [],_=>List.nodup_nil
 | x::r,h=>by
  simp only[fR,bD,Bool.not_eq_true']at h
  exact List.nodup_cons.2 ⟨ie h.1,dg h.2⟩
def dm(Hout:List (Nat×B)):Nat→List Nat→List Nat
 | _,[]=>[]
 | k,l::r=>bif (lk Hout k).isSome then dm Hout (k+1) r else l::dm Hout (k+1) r
theorem jt{Hout:List (Nat×B)}: ∀{ls:List Nat} {k l:Nat},l∈dm Hout k ls→l∈ls
 | [],k,l,h=>by cases h
 | x :: r,k,l,h=>by
  unfold dm at h
  cases e:(lk Hout k).isSome with
  | true=>rw[e]at h;exact List.mem_cons_of_mem _ (jt h)
  | false=>
   rw[e]at h
   rcases List.mem_cons.1 h with rfl|h
   simp
   exact List.mem_cons_of_mem _ (jt h)
theorem kV{Hout:List (Nat×B)}: ∀{ls:List Nat} {k j l:Nat},ls[j]? = some l→l ∉ dm Hout k ls→(lk Hout (k+j)).isSome=true
 | [],k,j,l,h,_=>by simp at h
 | x::r,k,0,l,h,hn=>by
  simp at h;subst h
  unfold dm at hn
  cases e:(lk Hout k).isSome with
  | true=>rfl
  | false=>rw[e]at hn;exact absurd (by simp) hn
 | x :: r,k,j+1,l,h,hn=>by
  have:=kV (ls:=r) (k:=k+1) (j:=j) (l:=l) (by simpa using h) (fun hh=>hn (by
   unfold dm
   cases(lk Hout k).isSome with
   | true=>exact hh
   | false=>exact List.mem_cons_of_mem _ hh))
  rwa[show k+(j+1)=k+1+j by omega]
theorem m7: ∀{ls:List Nat} {j k:Nat},sI ls j=some k→ls[k]? = some j
 | [],j,k,h=>by cases h
 | x :: r,j,k,h=>by
  unfold sI at h
  cases e:Nat.beq x j with
  | true=>rw[e]at h;simp at h;subst h;rw[tN.1 e];rfl
  | false=>
   rw[e]at h
   simp only[cond_false,Option.map_eq_some_iff]at h
   obtain⟨i,h1,rfl⟩:=h
   simpa using m7 h1
theorem dQ{H:List (Nat×B)}: ∀{ls:List Nat} {bs:List B},ck H ls=some bs→ls.length=bs.length
 | [],bs,h=>by simp[ck]at h;subst h;rfl
 | l::r,bs,h=>by
  unfold ck at h
  split at h
  rename_i h1 h2
  simp at h;subst h
  simp[dQ h2]
  cases h
theorem gR{ls:List Nat}: ∀{bs:List B},(Bs.lab ls bs).length=bs.length
 | []=>rfl
 | b::r=>by simp[Bs.lab,gR]
theorem ig{H:List (Nat×B)}{l:Nat}: ∀{ls:List Nat} {bs:List B},l ∉ ls→ck H ls=some bs→ck (dG H l) ls=some bs
 | [],bs,_,h=>h
 | k::r,bs,hl,h=>by
  unfold ck at h ⊢
  have hne:l≠k:=fun e=>hl (by simp[e])
  split at h
  rename_i h1 h2
  simp at h;subst h
  rw[cW,if_neg hne,h1,ig (fun hh=>hl (by simp[hh])) h2]
  cases h
theorem gm{H:List (Nat×B)}: ∀{ls:List Nat} {bs:List B},ck H ls=some bs→∀l∈ls,(lk H l).isSome=true
 | [],bs,h,l,hl=>by cases hl
 | k::r,bs,h,l,hl=>by
  unfold ck at h
  split at h
  rename_i h1 h2
  rcases List.mem_cons.1 hl with rfl|hl
  rw[h1];rfl
  exact gm h2 l hl
  cases h
theorem gz: ∀{ls:List Nat} {H:List (Nat×B)} {k:Nat},lk (gU H ls) k=if k∈ls then none else lk H k
 | [],H,k=>by simp[gU]
 | l::r,H,k=>by
  unfold gU
  rw[gz,cW]
  by_cases h:k∈r
  simp[h]
  by_cases h2:l=k
  subst h2;simp
  simp[h,h2,Ne.symm h2]
theorem ip{n:Nat}: ∀{H:List (Nat×B)} {l:Nat},dq n H=true→dq n (dG H l)=true
 | [],l,h=>h
 | (k,v)::r,l,h=>by
  simp only[dq,bD]at h
  unfold dG
  cases Nat.beq k l with
  | true=>exact ip h.2.2
  | false=>simp only[cond_false,dq,bD];exact⟨h.1,h.2.1,ip h.2.2⟩
theorem jR{n:Nat}: ∀{ls:List Nat} {H:List (Nat×B)},dq n H=true→dq n (gU H ls)=true
 | [],H,h=>h
 | l::r,H,h=>jR (ls:=r) (ip h)
theorem lI: ∀{H:List (Nat×B)} {x:Nat×B},x∈H→(lk H x.1).isSome=true
 | [],x,h=>by cases h
 | (k,v)::r,x,h=>by
  rw[aw]
  split
  rfl
  rename_i hne
  rcases List.mem_cons.1 h with rfl|h
  exact absurd Z hne
  exact lI h
theorem kM: ∀{bs:List B} {k j:Nat},j<bs.length→k+j∈(cM k bs).map (·.1)
 | [],k,j,h=>by simp at h
 | b::r,k,0,h=>by simp[cM]
 | b::r,k,j+1,h=>by
  simp only[cM,List.map_cons,List.mem_cons]
  right
  have:=kM (bs:=r) (k:=k+1) (j:=j) (by simpa using h)
  rwa[show k+(j+1)=k+1+j by omega]
section
variable{L:Nat}{w:World}{ok:Nat→Prop}{m m':Nat→Loc}
theorem RB.unlab{ls:List Nat}{n:Nat}(hm: ∀k,k<n→m' k=m (ls.getD k 0)){blk:B}{loc F}(h:RB L w ok m (blk.lab ls) loc F)(hu:B.under n blk=true):RB L w ok m' blk loc F:=by
 cases blk with
 | row own sz xs=>
  cases h with
  | nil=>exact .nil
  | row a1 a2 a3 a4 a5 a6 a7 a8=>exact .row a1 a2 a3 a4 a5 a6 a7 a8
 | box ms=>
  cases h with
  | box a1 a2=>exact .box a1 (RMs.unlab hm a2 (by simpa[B.under]using hu))
 | map es=>
  cases h with
  | map a1 a2=>exact .map a1 a2
end
theorem kX{Γ:Ctx}{m:Nat→Loc}{F:List Nat}{a:Act}{w:World}{LS:List Nat}{n:Nat}{mc:Nat→Loc}(hm: ∀k,k<n→mc k=m (LS.getD k 0)) :
  ∀ {ls:List Nat} {bin:List B} {k:Nat} {s:St} {E:List Nat},Rel1 Γ m F E s a w→ls.Nodup→ck s.H ls=some (Bs.lab LS bin)→Bs.under n bin=true→(∀j,j<ls.length→mc (k+j)=m (ls.getD j 0))→
   ∃Fc G,RH Γ.L w (Γ.ok F) mc (cM k bin) Fc∧Rel1 Γ m F (Fc++(G++E)) ⟨s.env,gU s.H ls⟩ a w
 | [],bin,k,s,E,h,_,hl,_,_=>by
  cases bin with
  | nil=>exact⟨[],[],.nil,h⟩
  | cons b r=>simp[ck,Bs.lab]at hl
 | l :: r,bin,k,s,E,h,hn,hl,hu,hj=>by
  unfold ck at hl
  split at hl
  rename_i b1 bs1 e1 e2
  cases bin with
  | nil=>simp[Bs.lab]at hl
  | cons b bin=>
   simp only[Bs.lab,el,List.cons.injEq]at hl
   obtain⟨rfl,rfl⟩:=hl
   simp only[Bs.under,bD]at hu
   obtain⟨Fl,G1,hB,h1⟩:=h.take e1
   have hn':=List.nodup_cons.1 hn
   obtain⟨Fc,G,h2,h3⟩:=kX hm (ls:=r) (bin:=bin) (k:=k+1) h1 hn'.2 (ig hn'.1 e2) hu.2 (fun j hj'=>by
    have:=hj (j+1) (by simpa using hj')
    rw[show k+1+j=k+(j+1) by omega,this];simp)
   refine⟨Fl++Fc,G++G1,.cons ?_ h2,h3.permE ?_⟩
   have:=hj 0 (by simp)
   rw[Nat.add_zero]at this
   rw[this]
   simp only[List.getD_cons_zero]
   exact hB.unlab hm hu.1
   refine List.perm_iff_count.2 fun x=>?_
   simp only[List.count_append];omega
  cases hl
def fA(R:A)(Hout:List (Nat×B)):A→List (Nat×B)→Prop:=fun r H=>r=R∧H=Hout

theorem Rel0.inner{Γ:Ctx}{m F s a w}(hR:Rel0 Γ m F s a w){f:Nat}{ds:List A}{vs:List Value}{bin:List B}{R:A}{Hout:List (Nat×B)}(hM:MC Γ.P Γ.L f ds (cM 0 bin) (fA R Hout)){ls:List Nat}(hn:fR ls=true)
  (hls:ck s.H ls=some (Bs.lab ls bin)) (hbu:Bs.under ls.length bin=true) (hdu:As.under ls.length ds=true) (hA:RAs Γ.L w (Γ.ok F) m (As.lab ls ds) vs) {B0:Nat} (hu:s.under B0=true) (hi:bz B0 Γ.ins=true) :
  Calls Γ.P f vs.toArray w (mL fun v w'=> ∃m' F',Rel0 Γ m' F' ⟨jh ls (dm Hout 0 ls) s.env,kl ls (dm Hout 0 ls) (gU s.H ls)++nZ (nV ls B0) Hout⟩ a w'∧RA Γ.L w' (Γ.ok F') m' (R.re (nV ls B0)) v):=by
 simp only[St.under,bD]at hu
 have hnd:=dg hn
 have hlen:ls.length=bin.length:=(dQ hls).trans gR
 have hlsS:=gm hls
 have hlsB: ∀l∈ls,l<B0:=fun l hl=>qG hu.2 (hlsS l hl)
 obtain⟨mc,hmc⟩: ∃mc:Nat→Loc,mc=fun k=>if k<ls.length then m (ls.getD k 0)else .nil:=⟨_,rfl⟩
 have hmc1: ∀k,k<ls.length→mc k=m (ls.getD k 0):=fun k hk=>by rw[hmc];exact if_pos hk
 obtain⟨Fc,G,hC,hR1⟩:=kX hmc1 (k:=0) hR.to1 hnd hls hbu (fun j hj=>by rw[Nat.zero_add];exact hmc1 j hj)
 rw[List.append_nil]at hR1
 obtain⟨F1,hR2,hsub,hdis⟩:=(hR1.permE List.perm_append_comm).drop
 obtain⟨FH,hH,hP⟩:=hR2.H
 have hnd1:(FH++Fc).Nodup:=hP.nodup_iff.1 hR2.nodup
 have hnd2:=List.nodup_append.1 hnd1
 have hk1:Keep w w (Γ.ok F) (Γ.ok F1):=⟨cm _,fun b _ hb=>⟨⟨fun hh=>hb.1 (hsub b hh),hb.2⟩,rfl⟩⟩
 have hidh: ∀k b cap sz i j x n c,m k=Loc.at b cap sz→w.cell? ⟨b,i*sz+j,none⟩=some (.slice x n c)→w.cell? ⟨b,i*sz+j,none⟩=some (.slice x n c):=fun _ _ _ _ _ _ _ _ _ _ h=>h
 have hFcF1: ∀b∈Fc,b∈F1:=fun b hb=>hP.mem_iff.2 (by simp[hb])
 refine Calls.mono (hM.2 w mc Fc (Γ.ok F1) vs (hR.good hsub) (hC.over hk1 (fun _ _ _ _ _ _ _ _ _ _ h=>h) (fun _ _=>rfl)) hnd2.2.1 (fun b hb hok=>hok.1 (hFcF1 b hb)) (fun l b cap sz hl=>?_) ((hA.over hk1 hidh).unlab hmc1 hdu)) fun e w' he=>?_
 by_cases hlt:l<ls.length
 exact eY (co _) (by omega)
 rw[hmc]at hl;simp only[if_neg hlt]at hl;cases hl
 cases e with
 | returned v=>
  obtain⟨r,H',m',F',⟨hr,hH'⟩,p1,p2,p3,p4,p5,p6,p7⟩:=he
  rw[hr]at p4
  rw[hH']at p1 p6 p7
  clear hr hH' r H'
  have hrho: ∀k,i8 ls B0 m m' (nV ls B0 k)=m' k:=fun k=>r8 hnd hlsB k
  have hkept: ∀j l,ls[j]? = some l→(lk Hout j).isSome=true→m' j=m l:=fun j l hj hs=>by
   have hlt:j<ls.length:=(List.getElem?_eq_some_iff.1 hj).1
   have:=p6 j (by have:=kM (bs:=bin) (k:=0) (j:=j) (by omega);rwa[Nat.zero_add]at this) hs
   rw[this,hmc1 j hlt,List.getD_eq_getElem?_getD,hj];rfl
  have hother: ∀k,k<B0→cY (dm Hout 0 ls) k=false→i8 ls B0 m m' k=m k:=fun k hk hg=>by
   by_cases hkl:k∈ls
   ·
    obtain⟨j,hj⟩:=List.getElem?_of_mem hkl
    have h1:i8 ls B0 m m' k=m' j:=by simp only[i8,gy hnd hj]
    have h2:=kV (k:=0) hj (ie hg)
    rw[Nat.zero_add]at h2
    rw[h1,hkept j k hj h2]
   ·
    exact kP hkl hk
  have same: ∀b,b<w.heap.size→b ∉ Fc→Same w w' b:=p5.block
  have hFH: ∀b∈FH,b<w.heap.size∧b ∉ Fc:=fun b hb=>⟨hR2.lt b (hP.mem_iff.2 (by simp[hb])),fun hh=>hnd2.2.2 b hb b hh Z⟩
  have hKeep:Keep w w' (Γ.ok F1) (Γ.ok (FH++F')):=⟨p5.size,fun b hb hok=>by
   have h1:b ∉ FH:=fun hh=>hok.1 (hP.mem_iff.2 (by simp[hh]))
   have h2:b ∉ Fc:=fun hh=>hok.1 (hFcF1 b hh)
   refine⟨⟨fun hh=>?_,hok.2⟩,same b hb h2⟩
   rcases List.mem_append.1 hh with hh|hh
   ·
    exact h1 hh
   ·
    rcases p3 b hh with h|h
    ·
     omega
    ·
     exact h2 h⟩
  have hKeep':Keep w' w' (fun b=>b ∉ F'∧(Γ.ok F1 b∨w.heap.size≤b∨b∈Fc)) (Γ.ok (FH++F')):=⟨cm _,fun b hb hok=>by
   refine⟨⟨fun hh=>?_,?_⟩,Z⟩
   ·
    rcases List.mem_append.1 hh with hh|hh
    ·
     rcases hok.2 with h|h|h
     ·
      exact h.1 (hP.mem_iff.2 (by simp[hh]))
     ·
      have:=(hFH b hh).1;omega
     ·
      exact(hFH b hh).2 h
    ·
     exact hok.1 hh
   ·
    rcases hok.2 with h|h|h
    ·
     exact h.2
    ·
     exact .inr (.inl (Nat.le_trans hR.frame.size h))
    ·
     exact .inr (hR2.own b (hFcF1 b h))⟩
  have hgs: ∀k∈dm Hout 0 ls,k∈ls:=fun k hk=>jt hk
  have hp: ∀k b cap sz i j x n c,k ∉ ls→m k=Loc.at b cap sz→w.cell? ⟨b,i*sz+j,none⟩=some (.slice x n c)→w'.cell? ⟨b,i*sz+j,none⟩=some (.slice x n c):=fun k b cap sz i j x n c hkl hmk hc=>by
   have h1:(lk (gU s.H ls) k).isSome=true:=by rw[gz,if_neg hkl];exact hR.dom k b cap sz hmk
   have h2:b ∉ Fc:=hR2.notE (s:=⟨s.env,gU s.H ls⟩) h1 hmk
   exact(same b (block_lt_of_cell hc) h2).cell.trans hc
  have hng: ∀x∈gU s.H ls,cY (dm Hout 0 ls) x.1=false:=fun x hx=>by
   cases e:cY (dm Hout 0 ls) x.1 with
   | false=>rfl
   | true=>
    have h1:=hgs _ (wZ.1 e)
    have h2:=lI hx
    rw[gz,if_pos h1]at h2;cases h2
  have hrl: ∀k l,l<B0→nV ls B0 k=l→ls[k]? = some l:=fun k l hl hk=>by
   unfold nV at hk
   cases h:ls[k]? with
   | some x=>rw[h]at hk;exact congrArg some hk
   | none=>rw[h]at hk;simp only at hk;omega
  refine⟨i8 ls B0 m m',FH++F',⟨(RH.aft hKeep hother hgs hp hH (jR hu.2) hng (fun b hb=>same b (hFH b hb).1 (hFH b hb).2)).append ((p1.over hKeep' (fun _ _ _ _ _ _ _ _ _ _ h=>h) (fun _ _=>rfl)).re hrho),?_,?_,fun t v hv=>?_,hR.size,hR.defers,
   ⟨p5.os.trans hR.frame.os,p5.tape.trans hR.frame.tape,p5.output.trans hR.frame.output,Nat.le_trans hR.frame.size p5.size,fun b hb hnb=>?_⟩,fun l hl hs=>?_,fun l b cap sz hl=>?_⟩,?_⟩
  refine List.nodup_append.2 ⟨hnd2.1,p2,fun b hb c hc e=>?_⟩
  subst e
  rcases p3 b hc with h|h
  have:=(hFH b hb).1;omega
  exact(hFH b hb).2 h
  intro b hb
  rcases List.mem_append.1 hb with hb|hb
  exact hR2.own b (hP.mem_iff.2 (by simp[hb]))
  rcases p3 b hb with h|h
  exact .inl (Nat.le_trans hR.frame.size h)
  exact hR2.own b (hFcF1 b h)
  simp only[qn,Option.map_eq_some_iff]at hv
  obtain⟨u,hu',rfl⟩:=hv
  exact(hR2.env t u hu').aft hKeep hother hgs hp (jM hu.1 hu')
  refine(same b (Nat.lt_of_lt_of_le hb hR.frame.size) (fun hh=>?_)).trans (hR.frame.block b hb hnb)
  rcases hR2.own b (hFcF1 b hh)with h|h
  omega
  exact hnb h
  have hlB:=fv hi l hl
  rw[aH]at hs
  by_cases hll:l∈ls
  obtain⟨j,hj⟩:=List.getElem?_of_mem hll
  have h1:i8 ls B0 m m' l=m' j:=by simp only[i8,gy hnd hj]
  have h2:(lk Hout j).isSome=true:=by
   cases e:(lk Hout j).isSome with
   | true=>rfl
   | false=>
    rw[mf,gz,if_pos hll,jK (fun k hk=>?_)]at hs
    cases hs
    have h3:=hrl k l hlB hk
    have h4:=gy hnd h3
    rw[gy hnd hj]at h4
    cases h4;exact e
  rw[h1,hkept j l hj h2]
  exact hR.keep l hl (hlsS l hll)
  rw[kP hll hlB]
  rw[mf,gz,if_neg hll,jK (fun k hk=>absurd (List.mem_of_getElem? (hrl k l hlB hk)) hll),Option.or_none]at hs
  exact hR.keep l hl (by simpa using hs)
  show(lk (kl ls (dm Hout 0 ls) (gU s.H ls)++nZ (nV ls B0) Hout) l).isSome=true
  rw[aH]
  unfold i8 at hl
  cases hpl:sI ls l with
  | some k=>
   simp only[hpl]at hl
   have h1:(lk Hout k).isSome=true:=p7 k b cap sz hl
   have h2:=gN (g:=nV ls B0) h1
   have h3:nV ls B0 k=l:=by simp only[nV,m7 hpl]
   rw[h3]at h2
   cases lk (kl ls (dm Hout 0 ls) (gU s.H ls)) l<;>simp[h2]
  | none=>
   simp only[hpl]at hl
   by_cases hlt:l<B0
   rw[if_pos hlt]at hl
   have hll:l ∉ ls:=fun hh=>by
    obtain⟨j,hj⟩:=List.getElem?_of_mem hh
    rw[gy hnd hj]at hpl;cases hpl
   have h1:(lk (kl ls (dm Hout 0 ls) (gU s.H ls)) l).isSome=true:=by
    rw[mf,gz,if_neg hll];simpa using hR.dom l b cap sz hl
   obtain⟨x,hx⟩:=Option.isSome_iff_exists.1 h1
   rw[hx];rfl
   rw[if_neg hlt]at hl
   by_cases h2:l-B0<ls.length
   rw[if_pos h2]at hl;cases hl
   rw[if_neg h2]at hl
   have h1:(lk Hout (l-B0)).isSome=true:=p7 _ b cap sz hl
   have h3:=gN (g:=nV ls B0) h1
   have h4:nV ls B0 (l-B0)=l:=by
    unfold nV
    rw[List.getElem?_eq_none (by omega)]
    simp only;omega
   rw[h4]at h3
   cases lk (kl ls (dm Hout 0 ls) (gU s.H ls)) l<;>simp[h3]
  exact(p4.over hKeep' (fun _ _ _ _ _ _ _ _ _ _ h=>h)).re hrho
 | _=>exact he.elim
section
variable{σ:Sg}{Q:b0}{all:Array Oper}{o:Oper}{rest:List Oper}{c:Call}{fx:Operand}{f:Nat}{caps:List M}{as ds:List A}{e:List (Nat×A)}{H:List (Nat×B)}{d:Nat}{R:A}{bin:List B}{Hout:List (Nat×B)}
theorem bH(hσ:SgOk σ)(ls:List Nat)(hop:o.op= .call c)(hc:c.callee= .value fx)(hf:ev ⟨e,H⟩ fx=some (.c (.fn f caps)))(has:iv ⟨e,H⟩ c.args.toList=some as)(hM:MC σ.P σ.L f ds (cM 0 bin) (fA R Hout))(hn:fR ls=true)
  (hls:ck H ls=some (Bs.lab ls bin)) (hds:as++caps.map .c=As.lab ls ds) (hbu:(Bs.under ls.length bin&&As.under ls.length ds)=true)
  (hs:Al.Oper.shorts o=true) (hg:o.guard=none) {B0:Nat} (hu:(St.under B0 ⟨e,H⟩&&bz B0 σ.ins)=true) {s':St} (hp:put σ.nt ⟨jh ls (dm Hout 0 ls) e,kl ls (dm Hout 0 ls) (gU H ls)++nZ (nV ls B0) Hout⟩ o.dst (R.re (nV ls B0))=some s')
  (K:AOps σ all Q rest s'):AOps σ all Q (o::rest) ⟨e,H⟩:=fun Γ eq a w hR=>by
 subst eq
 obtain⟨m,F,hR0⟩:=hR
 simp only[bD]at hu hbu
 obtain⟨cs,h1,h2⟩:=dL hσ hR0 hσ.lo hop hc hf has hs
 refine wpList_plain hg fun K' hK=>?_
 simp only[Oper.wp,eP hM.1 hop hc h1,Oper.upon]
 rw[hds]at h2
 refine Calls.mono (hR0.inner hM hn hls hbu.1 hbu.2 h2 hu.1 hu.2) fun e w' he=>?_
 cases e with
 | returned v=>
  obtain⟨m',F',h3,h4⟩:=he
  exact hK _ _ (K Γ Z _ _ ⟨m',F',h3.put h4 hp⟩)
 | _=>exact he.elim
end
end Go.Al
