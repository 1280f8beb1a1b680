/- The abstract logic, third vp: regions of open order, maps, contracts told of longer data, what a premise reads, strings. -/
import Derived.Test.YtkendpichnklaaaGreatDoorB
import Derived.ProofKit
import Derived.OpenShut
import Derived.JoinedCond
import Derived.ReadAgain
import Derived.MapKept
import Derived.Laws.BytesString
set_option linter.unusedVariables false
set_option linter.unusedSimpArgs false
/- The abstract logic, vp 29: states brought into their plain form. -/
namespace Go.Al

def dT:List Oper→List A→List (Nat×A)→List (Nat×A)
 | o::l,v::vs,acc=>dT l vs (match o.dst with|some d=>(d,v)::acc|none=>acc)
 | _,_,acc=>acc
theorem iV: ∀{l:List Oper} {vs:List A} {i:Nat} {acc:List (Nat×A)},bg (fun _=>true) i l vs++acc=dT l vs acc
 | [],_,_,_=>by simp[bg,dT]
 | _::_,[],_,_=>by simp[bg,dT]
 | o::l,v::vs,i,acc=>by
  have ih:=iV (l:=l) (vs:=vs) (i:=i+1) (acc:=match o.dst with|some d=>(d,v)::acc|none=>acc)
  simp only[bg,dT,cond_true,dO]
  rw[←ih]
  unfold aZ
  cases o.dst<;>rfl
def ja:List Nat→Nat→Bool
 | [],_=>false
 | x::r,k=>bif Nat.beq x k then true else ja r k
theorem iD{ls:List Nat}{k:Nat}:ja ls k=ls.contains k:=by
 induction ls with
 | nil=>rfl
 | cons x r ih=>
  unfold ja
  by_cases h:x=k
  subst h;simp
  rw[qC.2 h,cond_false,ih]
  simp;exact fun e=>absurd e.symm h
def lv(X:Nat→Bool):Nat→List Oper→List A→List (Nat×A)→List (Nat×A)
 | i,o::l,v::vs,acc=>lv X (i+1) l vs (bif X i then(match o.dst with|some d=>(d,v)::acc|none=>acc)else acc)
 | _,_,_,acc=>acc
theorem nr{X:Nat→Bool}: ∀{l:List Oper} {vs:List A} {i:Nat} {acc:List (Nat×A)},bg X i l vs++acc=lv X i l vs acc
 | [],_,_,_=>by simp[bg,lv]
 | _::_,[],_,_=>by simp[bg,lv]
 | o::l,v::vs,i,acc=>by
  have ih:=nr (X:=X) (l:=l) (vs:=vs) (i:=i+1) (acc:=bif X i then(match o.dst with|some d=>(d,v)::acc|none=>acc)else acc)
  simp only[bg,lv,dO]
  rw[←ih]
  unfold aZ
  cases X i<;>cases o.dst<;>rfl
def cb(l:List Oper)(vs:List A)(e0:List (Nat×A))(plan:List PO)(i:Nat):List (Nat×A):=lv (fun j=>bif Nat.beq j i then false else bif ja (cg plan j) i then false else true) 0 l vs e0
theorem dN{l vs e0 plan i}:cb l vs e0 plan i=ot l vs e0 plan i:=by
 unfold cb ot
 rw[nr]
 congr 1
 funext j
 rw[iD]
 cases Nat.beq j i<;>cases(cg plan j).contains i<;>rfl
def qY(σ:Sg)(l:List Oper)(vs:List A)(e0:List (Nat×A))(plan:List PO)(Hs:List (List (Nat×B)))(i:Nat)(o:Oper)(p:PO)(v:A):Prop:=
 match p.eff with
 | none=>valK σ (cC l vs e0 o) Hs o v p.lo (p.hi-p.lo)
 | some k=> ∀e,e.Sublist (cb l vs e0 plan i)→LkSub e (cC l vs e0 o)→Stp σ ⟨e,Hs.getD k []⟩ o ⟨aZ o v++e,Hs.getD (k+1) []⟩
def oX(σ:Sg)(l:List Oper)(vs:List A)(e0:List (Nat×A))(plan:List PO)(Hs:List (List (Nat×B))):Nat→List Oper→List PO→List A→Prop
 | i,o::os,p::ps,v::us=>qY σ l vs e0 plan Hs i o p v∧oX σ l vs e0 plan Hs (i+1) os ps us
 | _,[],[],[]=>True
 | _,_,_,_=>False
structure HN(H H':List (Nat×B)):Prop where
 eq:H=H'
structure BN(b b':B):Prop where
 eq:b=b'
structure MN(ms ms':List M):Prop where
 eq:ms=ms'
structure XN(x x':M):Prop where
 eq:x=x'
structure KN(k k':Nat):Prop where
 eq:k=k'
theorem HN.nil{H:List (Nat×B)}(h:H=[]):HN H []:=⟨h⟩
theorem HN.cons{H r r':List (Nat×B)}{k:Nat}{b b':B}(h:H=(k,b)::r)(hb:BN b b')(hr:HN r r'):HN H ((k,b')::r'):=⟨by rw[h,hb.eq,hr.eq]⟩
theorem BN.row{b:B}{own:Bool}{sz:Nat}{xs:List (List D)}(h:b= .row own sz xs):BN b (.row own sz xs):=⟨h⟩
theorem BN.box{b:B}{ms ms':List M}(h:b= .box ms)(hm:MN ms ms'):BN b (.box ms'):=⟨by rw[h,hm.eq]⟩
theorem MN.nil{ms:List M}(h:ms=[]):MN ms []:=⟨h⟩
theorem MN.cons{ms r r':List M}{x x':M}(h:ms=x::r)(hx:XN x x')(hr:MN r r'):MN ms (x'::r'):=⟨by rw[h,hx.eq,hr.eq]⟩
theorem XN.d{x:M}{v:D}(h:x= .d v):XN x (.d v):=⟨h⟩
theorem XN.rs{x:M}{l a b:Nat}(h:x= .rs l a b):XN x (.rs l a b):=⟨h⟩
theorem mu{x:M}:XN x x:=⟨rfl⟩
section
variable{σ:Sg}{Q:b0}{all:Array Oper}{l:List Oper}{c:Code}{e:List (Nat×A)}{H H':List (Nat×B)}
theorem qN(h:HN H H')(K:AOps σ all Q l ⟨e,H'⟩):AOps σ all Q l ⟨e,H⟩:=by rw[h.eq];exact K
theorem cy(e':List (Nat×A))(H':List (Nat×B))(he:envSub e e')(hH:H=H')(K:AOps σ all Q l ⟨e',H'⟩):AOps σ all Q l ⟨e,H⟩:=kL (Ent.to he hH) K
theorem sF(h:HN H H')(K:AWP σ c Q ⟨e,H'⟩):AWP σ c Q ⟨e,H⟩:=by rw[h.eq];exact K
end
end Go.Al
/- The abstract logic, vp 30: bodies that get blocks, and calls that get an inner slice of a row. -/
namespace Go.Al

theorem mF{P:Program}{tt:List (Nat×TI)}{L nt:Nat}{is js:List Nat}(h:SgOk ⟨P,tt,L,nt,is⟩):SgOk ⟨P,tt,L,nt,js⟩:=⟨h.tt,h.plain,h.lo,h.hi,h.mix⟩
theorem sE{L nt:Nat}{P:Program}{tt:List (Nat×TI)}{is:List Nat}(hσ:SgOk ⟨P,tt,L,nt,is⟩){f:Nat}{fn:Func}{c:Code}{args:List A}{Hin:List (Nat×B)}{Q:A→List (Nat×B)→Prop}(hf:P.funcs[f]? = some fn)(hn:(fn.name== "runtime.NumGoroutine")=false)(hb:fn.body=some c)
  (hnt:fn.ntmps=nt) (hi:is=Hin.map (·.1)) (ha:args.length≤nt)
  (h:As.fact L args→AWP ⟨P,tt,L,nt,is⟩ c (fun e s=>(e= .ret∨e= .normal)∧∃s2,Ent ⟨P,tt,L,nt,is⟩ s s2∧∃res,dw tt s2 fn.results.toList=some res∧Q res s2.H) ⟨bN 0 args,Hin⟩):MC P L f args Hin Q:=
 MC.facts ⟨fn,c,hf,hn,hb⟩ fun hF=>MC.intro (σ:=⟨P,tt,L,nt,is⟩) hσ hf hn hb hnt hi ha (h hF)

theorem nQ{Γ:Ctx}{m F E1 E2 s a w w'}(h:Rel1 Γ m F (E1++E2) s a w)(hf:Frame w w' E1){F1:List Nat}(hF1: ∀b∈F1,w.heap.size≤b∨b∈E1)(hn:F1.Nodup)(hlt: ∀b∈F1,b<w'.heap.size)(hE: ∀k b cap sz,m k= .at b cap sz→b ∉ E1) :
  ∃F2,Rel1 Γ m F2 (F1++E2) s a w'∧(∀b,b<w.heap.size→Γ.ok F b→Γ.ok F2 b∧Same w w' b)∧(∀b,b ∉ F1→(Γ.ok F b∨w.heap.size≤b∨b∈E1)→Γ.ok F2 b):=by
 obtain⟨FH,h1,h2⟩:=h.H
 have hnd:=h2.nodup_iff.1 h.nodup
 have hnd1:=List.nodup_append.1 hnd
 have hnd2:=List.nodup_append.1 hnd1.2.1
 have inF: ∀b,b∈FH∨b∈E1∨b∈E2→b∈F:=fun b hb=>h2.mem_iff.2 (by simpa using hb)
 have same: ∀b,b<w.heap.size→b ∉ E1→Same w w' b:=hf.block
 have hFHE: ∀b∈FH,b ∉ E1:=fun b hb hh=>hnd1.2.2 b hb b (by simp[hh]) Z
 have hFHE2: ∀b∈FH,b ∉ E2:=fun b hb hh=>hnd1.2.2 b hb b (by simp[hh]) Z
 have hE2E: ∀b∈E2,b ∉ E1:=fun b hb hh=>hnd2.2.2 b hh b hb Z
 have new: ∀b∈F1,b ∉ FH∧b ∉ E2:=fun b hb=>by
  rcases hF1 b hb with h3|h3
  ·
   exact⟨fun hh=>by have:=h.lt b (inF b (.inl hh));omega,fun hh=>by have:=h.lt b (inF b (.inr (.inr hh)));omega⟩
  ·
   exact⟨fun hh=>hFHE b hh h3,fun hh=>hE2E b hh h3⟩
 have hk: ∀b,b<w.heap.size→Γ.ok F b→Γ.ok (FH++(F1++E2)) b∧Same w w' b:=fun b hb hok=>by
  have h3:b ∉ E1:=fun hh=>hok.1 (inF b (.inr (.inl hh)))
  refine⟨⟨fun hh=>?_,hok.2⟩,same b hb h3⟩
  rcases List.mem_append.1 hh with hh|hh
  ·
   exact hok.1 (inF b (.inl hh))
  ·
   rcases List.mem_append.1 hh with hh|hh
   ·
    rcases hF1 b hh with h4|h4
    ·
     omega
    ·
     exact h3 h4
   ·
    exact hok.1 (inF b (.inr (.inr hh)))
 have hKeep:Keep w w' (Γ.ok F) (Γ.ok (FH++(F1++E2))):=⟨hf.size,hk⟩
 have hp: ∀k b cap sz i j x n c,m k=Loc.at b cap sz→w.cell? ⟨b,i*sz+j,none⟩=some (.slice x n c)→w'.cell? ⟨b,i*sz+j,none⟩=some (.slice x n c):=fun k b cap sz i j x n c hm hc=>
  (same b (block_lt_of_cell hc) (hE k b cap sz hm)).cell.trans hc
 refine⟨FH++(F1++E2),⟨⟨FH,h1.over hKeep hp (fun b hb=>same b (h.lt b (inF b (.inl hb))) (hFHE b hb)),.refl _⟩,?_,fun b hb=>?_,fun b hb=>?_,fun t v hv=>(h.env t v hv).over hKeep hp,h.size,h.defers,
  ⟨hf.os.trans h.frame.os,hf.tape.trans h.frame.tape,hf.output.trans h.frame.output,Nat.le_trans h.frame.size hf.size,fun b hb hnb=>?_⟩,h.keep⟩,hk,fun b hb hor=>⟨fun hh=>?_,?_⟩⟩
 refine List.nodup_append.2 ⟨hnd1.1,List.nodup_append.2 ⟨hn,hnd2.2.1,fun b hb c hc e=>?_⟩,fun b hb c hc e=>?_⟩
 subst e;exact(new b hb).2 hc
 subst e
 rcases List.mem_append.1 hc with hc|hc
 exact(new b hc).1 hb
 exact hFHE2 b hb hc
 rcases List.mem_append.1 hb with hb|hb
 exact Nat.lt_of_lt_of_le (h.lt b (inF b (.inl hb))) hf.size
 rcases List.mem_append.1 hb with hb|hb
 exact hlt b hb
 exact Nat.lt_of_lt_of_le (h.lt b (inF b (.inr (.inr hb)))) hf.size
 rcases List.mem_append.1 hb with hb|hb
 exact h.own b (inF b (.inl hb))
 rcases List.mem_append.1 hb with hb|hb
 rcases hF1 b hb with h3|h3
 exact .inl (Nat.le_trans h.frame.size h3)
 exact h.own b (inF b (.inr (.inl h3)))
 exact h.own b (inF b (.inr (.inr hb)))
 refine(same b (Nat.lt_of_lt_of_le hb h.frame.size) (fun hh=>?_)).trans (h.frame.block b hb hnb)
 rcases h.own b (inF b (.inr (.inl hh)))with h3|h3
 omega
 exact hnb h3
 rcases List.mem_append.1 hh with hh|hh
 rcases hor with h3|h3|h3
 exact h3.1 (inF b (.inl hh))
 have:=h.lt b (inF b (.inl hh));omega
 exact hFHE b hh h3
 rcases List.mem_append.1 hh with hh|hh
 exact hb hh
 rcases hor with h3|h3|h3
 exact h3.1 (inF b (.inr (.inr hh)))
 have:=h.lt b (inF b (.inr (.inr hh)));omega
 exact hE2E b hh h3
 rcases hor with h3|h3|h3
 exact h3.2
 exact .inr (.inl (Nat.le_trans h.frame.size h3))
 exact .inr (h.own b (inF b (.inr (.inl h3))))
inductive RpAs(l i j:Nat)(y:A):List A→List A→Prop
 | nil:RpAs l i j y [] []
 | rp {r r'}:RpAs l i j y r r'→RpAs l i j y (.c (.rp l i j)::r) (y::r')
 | d {x r r'}:A.isD x=true→RpAs l i j y r r'→RpAs l i j y (x::r) (x::r')
theorem RMs.isD{L w ok ok' m m'}(h1: ∀b,ok b→ok' b): ∀{xs vs},RMs L w ok m xs vs→xs.all isD=true→RMs L w ok' m' xs vs
 | _,_,.nil,_=>.nil
 | x::_,_,.cons a b,h=>by
  simp only[List.all_cons,bD]at h
  refine .cons ?_ (RMs.isD h1 b h.2)
  cases a with
  | d a=>exact .d (a.mono (fun b _ hb=>⟨h1 b hb,Z⟩) (cm _) (fun _ _=>rfl))
  | _=>simp[Al.isD]at h
theorem RA.isD{L w ok ok' m m' x v}(h1: ∀b,ok b→ok' b)(h:RA L w ok m x v)(hd:A.isD x=true):RA L w ok' m' x v:=by
 cases h with
 | c h=>
  cases h with
  | d a=>exact .c (.d (a.mono (fun b _ hb=>⟨h1 b hb,Z⟩) (cm _) (fun _ _=>rfl)))
  | _=>simp[A.isD,Al.isD]at hd
 | agg h=>exact .agg (RMs.isD h1 h (by simpa[A.isD]using hd))
 | _=>simp[A.isD]at hd
theorem RpAs.sound{L w ok ok' m m'}{l i j:Nat}{y:A}(h1: ∀b,ok b→ok' b)(hy: ∀v,RM L w ok m (.rp l i j) v→RA L w ok' m' y v): ∀{as ds vs},RpAs l i j y as ds→RAs L w ok m as vs→RAs L w ok' m' ds vs
 | _,_,_,.nil,.nil=>.nil
 | _,_,_,.rp h,.cons (.c a) b=>.cons (hy _ a) (RpAs.sound h1 hy h b)
 | _,_,_,.d hd h,.cons a b=>.cons (a.isD h1 hd) (RpAs.sound h1 hy h b)
theorem Rel1.inF{Γ m F E s a w}(h:Rel1 Γ m F E s a w): ∀b∈E,b∈F:=fun b hb=>by
 obtain⟨FH,_,g⟩:=h.H
 exact g.mem_iff.2 (by simp[hb])
theorem Rel1.nodupE{Γ m F E s a w}(h:Rel1 Γ m F E s a w):E.Nodup:=by
 obtain⟨FH,_,g⟩:=h.H
 exact(List.nodup_append.1 (g.nodup_iff.1 h.nodup)).2.1
theorem jk{α:Type}{l:List α}{i:Nat}{a:α}(h:l[i]? = some a):l.set i a=l:=by
 obtain⟨h1,rfl⟩:=List.getElem?_eq_some_iff.1 h
 exact List.set_getElem_self h1
theorem sk{xs:List (List D)}{i j:Nat}{e:List D}{d:D}(hi:xs[i]? = some e):(xs.set i (e.set j d)).flatten=(xs.take i).flatten++((e.set j d)++(xs.drop (i+1)).flatten):=by
 have hlt:=(List.getElem?_eq_some_iff.1 hi).1
 have h2:(xs.set i (e.set j d))[i]? = some (e.set j d):=by simp[hlt]
 rw[db h2]
 congr 2
 rw[List.take_set_of_le (cm _)]
 rw[List.drop_set_of_lt (by omega)]
theorem lD{e:List D}{j:Nat}{d d':D}(h:e[j]? = some d):e.set j d'=e.take j++d'::e.drop (j+1):=by
 have hlt:=(List.getElem?_eq_some_iff.1 h).1
 rw[List.set_eq_take_append_cons_drop,if_pos hlt]
theorem Rel0.innerRp{Γ:Ctx}{m F s a w}(hR:Rel0 Γ m F s a w){f:Nat}{as ds ds0:List A}{vs:List Value}{r:D}{l i j sz z:Nat}{xs:List (List D)}{ex:List D}{ys ys':List (List D)}(hl:lk s.H l=some (.row true sz xs))(hxs:xs[i]? = some ex)(hj:ex[j]? = some (.slc z ys))
  (hM:ys≠[]→MC Γ.P Γ.L f ds [(0,.row true z ys)] (fA (.c (.d r)) [(0,.row true z ys')])) (hM0:ys=[]→MC Γ.P Γ.L f ds0 [] (Plain (.c (.d r)))) (hr:D.scalar r=true) (hyl:ys'.length=ys.length)
  (hds:RpAs l i j (.c (.rs 0 0 ys.length)) as ds) (hds0:RpAs l i j (.c (.d (.slc z []))) as ds0) (hA:RAs Γ.L w (Γ.ok F) m as vs) (hi:l ∉ Γ.ins∨True) :
  Calls Γ.P f vs.toArray w (mL fun v w'=> ∃m' F',Rel0 Γ m' F' ⟨s.env,ins (dG s.H l) l (.row true sz (xs.set i (ex.set j (.slc z ys'))))⟩ a w'∧RA Γ.L w' (Γ.ok F') m' (.c (.d r)) v):=by
 obtain⟨Fl,G,hB,hR1⟩:=hR.to1.take hl
 rw[List.append_nil]at hR1
 have hln:lk (dG s.H l) l=none:=by rw[cW,if_pos Z]
 have hdom: ∀k b cap sz,m k= .at b cap sz→k=l∨(lk (dG s.H l) k).isSome=true:=fun k b cap sz hk=>by
  by_cases e:k=l
  ·
   exact .inl e
  ·
   right;rw[cW,if_neg (Ne.symm e)];exact hR.dom k b cap sz hk
 -- the cell's value, if it is there at all
 rcases hB.row_inv with⟨hml,hx⟩|⟨b,cap,bO,T,G',hml,b1,b2,b3,b4,b5,rfl⟩
 subst hx;simp at hxs
 have hexl:ex.length=sz:=b3 ex (List.mem_of_getElem? hxs)
 have hjlt:j<ex.length:=(List.getElem?_eq_some_iff.1 hj).1
 have hsplit:xs.flatten=((xs.take i).flatten++ex.take j)++((.slc z ys)::(ex.drop (j+1)++(xs.drop (i+1)).flatten)):=by
  rw[db hxs]
  conv=>lhs;rw[show ex=ex.set j (.slc z ys)from(jk hj).symm]
  rw[lD hj];simp
 have hilt:i<xs.length:=(List.getElem?_eq_some_iff.1 hxs).1
 have hlA:((xs.take i).flatten++ex.take j).length=i*sz+j:=by
  rw[cG,br (fun e he=>b3 e (List.mem_of_mem_take he)),List.length_take,List.length_take,Nat.min_eq_left (by omega),Nat.min_eq_left (by omega)]
 rw[hsplit]at b5
 obtain⟨FA,FB,rfl,d1,d2⟩:=b5.split
 rw[hlA,Nat.zero_add]at d2
 cases d2 with
 | @cons _ _ _ _ v FM FC e1 e2 e3=>
 have hval: ∀u,RM Γ.L w (Γ.ok F) m (.rp l i j) u→u=v:=fun u hu=>by
  cases hu with
  | rp g1 g2=>
   rw[hml]at g1
   cases g1
   rw[e1]at g2
   cases g2;rfl
 have hFl:=hR1.inF
 -- the blocks beside the inner one
 have hperm:(b::(FA++(FM++FC))++G).Perm (FM++(b::(FA++FC)++G)):=by
  refine List.perm_iff_count.2 fun x=>?_
  simp only[List.count_append,List.cons_append,List.count_cons];omega
 have hR2:=hR1.permE hperm
 have hndE:=hR2.nodupE
 have hE: ∀k b' cap' sz',m k= .at b' cap' sz'→b' ∉ FM:=fun k b' cap' sz' hk hm=>by
  rcases hdom k b' cap' sz' hk with e|e
  ·
   subst e
   rw[hml]at hk;cases hk
   exact(List.nodup_append.1 hndE).2.2 b hm b (by simp) Z
  ·
   exact hR2.notE e hk (by simp[hm])
 -- how the row is put together again
 have build: ∀(w':World) (F1:List Nat) (u:List (List D)),Frame w w' FM→(∀b∈F1,w.heap.size≤b∨b∈FM)→F1.Nodup→u.length=ys.length→RD Γ.L w' (fun b=>true=false∧True) (.slc z u) v F1→
   ∃F',Rel0 Γ m F' ⟨s.env,ins (dG s.H l) l (.row true sz (xs.set i (ex.set j (.slc z u))))⟩ a w':=fun w' F1 u hf hF1 hn1 hu hD=>by
  obtain⟨F2,hR3,k1,k2⟩:=nQ hR2 hf hF1 hn1 hD.lt hE
  have hsame: ∀b',b'∈b::(FA++FC)++G→Same w w' b':=fun b' hb'=>
   hf.block b' (hR2.lt b' (hR2.inF b' (by simp only[List.mem_append]at hb' ⊢;exact .inr hb'))) (fun hm=>(List.nodup_append.1 hndE).2.2 b' hm b' hb' Z)
  have hbs:Same w w' b:=hsame b (by simp)
  have q1:=d1.mono (w':=w') (ok':=fun b=>true=false∧Γ.ok F2 b) (fun b _ hb=>by cases hb.1) hf.size hbs (fun x hx=>hsame x (by simp[hx]))
  have q3:=e3.mono (w':=w') (ok':=fun b=>true=false∧Γ.ok F2 b) (fun b _ hb=>by cases hb.1) hf.size hbs (fun x hx=>hsame x (by simp[hx]))
  have q2:=hD.mono (w':=w') (ok':=fun b=>true=false∧Γ.ok F2 b) (fun b _ hb=>by cases hb.1) (cm _) (fun _ _=>rfl)
  have q4:=q1.append (.cons (o:=0+((xs.take i).flatten++ex.take j).length) (by rw[hlA,Nat.zero_add];exact(hbs.cell).trans e1) q2 (by rw[hlA,Nat.zero_add];exact q3))
  have hflat:((xs.take i).flatten++ex.take j)++((.slc z u)::(ex.drop (j+1)++(xs.drop (i+1)).flatten))=(xs.set i (ex.set j (.slc z u))).flatten:=by
   rw[sk hxs,lD hj];simp
  rw[hflat]at q4
  have hBn:RB Γ.L w' (Γ.ok F2) m (.row true sz (xs.set i (ex.set j (.slc z u)))) (m l) (b::(FA++(F1++FC))):=by
   rw[hml]
   have hB':=hB
   rw[hml]at hB'
   cases hB' with
   | row a1 a2 a3 a4 a5 a6 a7 a8=>
    refine .row (by simpa using b1) (by simpa using b2) (fun e he=>?_) (hbs.trans a4) a5 a6 q4 (fun h=>by cases h)
    rcases List.mem_or_eq_of_mem_set he with h|h
    ·
     exact b3 e h
    ·
     rw[h];simpa using hexl
  have hperm2:(F1++(b::(FA++FC)++G)).Perm (b::(FA++(F1++FC))++G):=by
   refine List.perm_iff_count.2 fun x=>?_
   simp only[List.count_append,List.cons_append,List.count_cons];omega
  have hR4:=(hR3.permE hperm2).back (l:=l) hln hBn (fun hk=>hR.keep l hk (by rw[hl];rfl))
  have hR5:Rel1 Γ m F2 (G++[]) ⟨s.env,ins (dG s.H l) l (.row true sz (xs.set i (ex.set j (.slc z u))))⟩ a w':=by rw[List.append_nil];exact hR4
  obtain⟨F3,hR6,_⟩:=hR5.drop
  obtain⟨F4,hR7,_⟩:=hR6.to0 (fun k b' cap' sz' hk=>by
   show(lk (ins (dG s.H l) l _) k).isSome=true
   rw[dn]
   split
   ·
    rfl
   ·
    rename_i hne
    rcases hdom k b' cap' sz' hk with e|e
    ·
     exact absurd e.symm hne
    ·
     exact e)
  exact⟨F4,hR7⟩
 by_cases hys:ys=[]
 have hys':ys'=[]:=by
  subst hys;exact List.eq_nil_of_length_eq_zero hyl
 have hA':=RpAs.sound (ok':=Γ.ok F) (m':=fun _=>.nil) (fun b h=>h) (fun u hu=>by
  rw[hval u hu]
  subst hys
  cases e2 with
  | slc0=>exact .c (.d .slc0)
  | slc=>exact .c (.d .slc0)
  | own=>exact .c (.d .slc0)) hds0 hA
 refine Calls.mono ((hM0 hys).2 w (fun _=>.nil) [] (Γ.ok F) vs (hR.good fun _ h=>h) .nil List.nodup_nil (fun b hb=>by cases hb) (fun _ _ _ _ h=>by cases h) hA') fun e w' he=>?_
 cases e with
 | returned x=>
  obtain⟨res,H',m',F',⟨rfl,rfl⟩,p1,p2,p3,p4,p5,p6,p7⟩:=he
  have hf:Frame w w' FM:=⟨p5.os,p5.tape,p5.output,p5.size,fun b' hb' _=>p5.block b' hb' (by simp)⟩
  obtain⟨F4,hR7⟩:=build w' FM ys' hf (fun b hb=>.inr hb) ((List.nodup_append.1 hndE).1) (by rw[hyl]) (by
   subst hys;subst hys'
   have hFM: ∀b'∈FM,Same w w' b':=fun b' hb'=>p5.block b' (hR2.lt b' (hR2.inF b' (by simp[hb']))) (by simp)
   exact e2.mono (fun b _ hb=>by cases hb.1) p5.size hFM)
  refine⟨m,F4,hR7,?_⟩
  cases p4 with
  | c p4=>cases p4 with
   | d p4=>exact .c (.d (cr hr p4))
 | _=>exact he.elim
 -- an owned block
 cases e2 with
 | slc0=>exact absurd Z hys
 | slc g1 g2 g3 g4=>cases g4.1
 | @own _ _ b' cap' arr' T' F2 g1 g2 g3 g4 g5 g6 g7=>
  have hA':=RpAs.sound (ok':=Γ.ok F) (m':=fun k=>if k=0 then .at b' cap' z else .nil) (fun b h=>h) (fun u hu=>by
   rw[hval u hu]
   exact .c (.rs (l:=0) (off:=0) (len:=ys.length) (cap:=cap') (sz:=z) (b:=b') (if_pos Z) g2 (by omega) (.inr (by simp)))) hds hA
  have hBi:RB Γ.L w (Γ.ok F) (fun k=>if k=0 then .at b' cap' z else .nil) (.row true z ys) (.at b' cap' z) (b'::F2):=
   .row g1 g2 g3 g4 g5 g6 (g7.mono (fun b _ hb=>by cases hb.1) (cm _) rfl (fun _ _=>rfl)) (fun h=>by cases h)
  have hin:RH Γ.L w (Γ.ok F) (fun k=>if k=0 then Loc.at b' cap' z else .nil) [(0,.row true z ys)] ((b'::F2)++[]):=.cons (by rw[if_pos Z];exact hBi) .nil
  rw[List.append_nil]at hin
  refine Calls.mono ((hM hys).2 w _ (b'::F2) (Γ.ok F) vs (hR.good fun _ h=>h) hin ((List.nodup_append.1 hndE).1) (fun x hx hok=>hok.1 (hR2.inF x (by simp only[List.mem_append];exact .inl hx))) (fun k _ _ _ hk=>by
   by_cases e:k=0
   ·
    subst e;rfl
   ·
    simp only[if_neg e]at hk;cases hk) hA') fun e w' he=>?_
  cases e with
  | returned x=>
   obtain⟨res,H',m',F',⟨rfl,rfl⟩,p1,p2,p3,p4,p5,p6,p7⟩:=he
   have hm0:=p6 0 (by simp) Z
   simp only[if_pos]at hm0
   cases p1 with
   | @cons _ _ _ FX _ q1 q2=>
    cases q2
    rw[List.append_nil]at p2 p3
    rw[hm0]at q1
    have hD:RD Γ.L w' (fun b=>true=false∧True) (.slc z ys') (.slice (some ⟨b',0,none⟩) ys.length cap') FX:=by
     cases q1 with
     | row a1 a2 a3 a4 a5 a6 a7 a8=>
      rw[←hyl]
      exact .own a1 a2 a3 a4 a5 a6 (a7.mono (fun b _ hb=>by cases hb.1) (cm _) rfl (fun _ _=>rfl))
    obtain⟨F4,hR7⟩:=build w' FX ys' p5 p3 p2 hyl hD
    refine⟨m,F4,hR7,?_⟩
    cases p4 with
    | c p4=>cases p4 with
     | d p4=>exact .c (.d (cr hr p4))
  | _=>exact he.elim
section
variable{σ:Sg}{Q:b0}{all:Array Oper}{o:Oper}{rest:List Oper}{c:Call}{fx:Operand}{f:Nat}{caps:List M}{as ds ds0:List A}{e:List (Nat×A)}{H:List (Nat×B)}{d:Nat}
theorem k6(hσ:SgOk σ){r:D}{l i j sz z:Nat}{xs xs':List (List D)}{ex:List D}{ys ys':List (List D)}(hop:o.op= .call c)(hc:c.callee= .value fx)(hf:ev ⟨e,H⟩ fx=some (.c (.fn f caps)))(has:iv ⟨e,H⟩ c.args.toList=some as)
  (hds:RpAs l i j (.c (.rs 0 0 ys.length)) (as++caps.map .c) ds) (hds0:RpAs l i j (.c (.d (.slc z []))) (as++caps.map .c) ds0) (hl:lk H l=some (.row true sz xs)) (hxs:xs[i]? = some ex) (hj:ex[j]? = some (.slc z ys))
  (hcl:fJ σ.P f) (hM:ys≠[]→MC σ.P σ.L f ds [(0,.row true z ys)] (fA (.c (.d r)) [(0,.row true z ys')])) (hM0:ys=[]→MC σ.P σ.L f ds0 [] (Plain (.c (.d r)))) (hr:D.scalar r=true) (hyl:ys'.length=ys.length)
  (hs:Al.Oper.shorts o=true) (hg:o.guard=none) (hd:o.dst=some d) (hn:Nat.blt d σ.nt=true) (hxs':xs.set i (ex.set j (.slc z ys'))=xs')
  (K:AOps σ all Q rest ⟨(d,.c (.d r))::e,ins (dG H l) l (.row true sz xs')⟩):AOps σ all Q (o::rest) ⟨e,H⟩:=fun Γ eq a w hR=>by
 subst eq
 subst hxs'
 obtain⟨m,F,hR0⟩:=hR
 obtain⟨cs,h1,h2⟩:=dL hσ hR0 hσ.lo hop hc hf has hs
 refine wpList_plain hg fun K' hK=>?_
 simp only[Oper.wp,eP hcl hop hc h1,Oper.upon]
 refine Calls.mono (hR0.innerRp hl hxs hj hM hM0 hr hyl hds hds0 h2 (.inr trivial)) fun e w' he=>?_
 cases e with
 | returned v=>
  obtain⟨m',F',h3,h4⟩:=he
  exact hK _ _ (K Γ Z _ _ ⟨m',F',h3.put h4 (by rw[hd];simp only[Al.put,hn,cond_true])⟩)
 | _=>exact he.elim
end
end Go.Al
/- The abstract logic, vp 31: some blocks of a state are vr, in an order. -/
namespace Go.Al

mutual
def M.within(ks:List Nat):M→Bool
 | .rs k _ _=>cY ks k
 | .rp k _ _=>cY ks k
 | .pt k _ _=>cY ks k
 | .mp k=>cY ks k
 | .fn _ caps=>Ms.within ks caps
 | .fb _ caps=>Ms.within ks caps
 | _=>true
def Ms.within(ks:List Nat):List M→Bool
 | []=>true
 | x::r=>M.within ks x&&Ms.within ks r
end
mutual
def A.within(ks:List Nat):A→Bool
 | .c x=>M.within ks x
 | .agg ms=>Ms.within ks ms
 | .tup vs=>As.within ks vs
 | _=>true
def As.within(ks:List Nat):List A→Bool
 | []=>true
 | x::r=>A.within ks x&&As.within ks r
end
def B.within(ks:List Nat):B→Bool
 | .row _ _ _=>true
 | .box ms=>Ms.within ks ms
 | .map _=>true
def Bs.within(ks:List Nat):List B→Bool
 | []=>true
 | b::r=>B.within ks b&&Bs.within ks r
def gI(ks:List Nat):List (Nat×A)→Bool
 | []=>true
 | (_,v)::r=>A.within ks v&&gI ks r
theorem mz{ks:List Nat}{e:List (Nat×A)}(h:gI ks e=true){t:Nat}{v:A}(hv:lk e t=some v):A.within ks v=true:=by
 induction e with
 | nil=>simp[aU]at hv
 | cons x r ih=>
  obtain⟨k,u⟩:=x
  simp only[gI,bD]at h
  rw[aw]at hv
  split at hv
  simp at hv;subst hv;exact h.1
  exact ih h.2 hv
section
variable{L:Nat}{w:World}{ok:Nat→Prop}{m m':Nat→Loc}{ks:List Nat}
mutual
theorem RM.within(hm: ∀k,k∈ks→m' k=m k): ∀{x v},RM L w ok m x v→M.within ks x=true→RM L w ok m' x v
 | _,_,.d h1,_=>.d h1
 | _,_,.rs h1 h2 h3 h4,hf=>.rs ((hm _ (wZ.1 (by simpa[M.within]using hf))).trans h1) h2 h3 h4
 | _,_,.rsNil h1,hf=>.rsNil ((hm _ (wZ.1 (by simpa[M.within]using hf))).trans h1)
 | _,_,.rp h1 h2,hf=>.rp ((hm _ (wZ.1 (by simpa[M.within]using hf))).trans h1) h2
 | _,_,.pt h1,hf=>.pt ((hm _ (wZ.1 (by simpa[M.within]using hf))).trans h1)
 | _,_,.pb h1,hf=>.pb ((hm _ (wZ.1 (by simpa[M.within]using hf))).trans h1)
 | _,_,.mp h1,hf=>.mp ((hm _ (wZ.1 (by simpa[M.within]using hf))).trans h1)
 | _,_,.fn h1,hf=>.fn (RMs.within hm h1 (by simpa[M.within]using hf))
 | _,_,.fb h1,hf=>.fb (RMs.within hm h1 (by simpa[M.within]using hf))
 | _,_,.ez,_=>.ez
 | _,_,.junk h1,_=>.junk h1
theorem RMs.within(hm: ∀k,k∈ks→m' k=m k): ∀{xs vs},RMs L w ok m xs vs→Ms.within ks xs=true→RMs L w ok m' xs vs
 | _,_,.nil,_=>.nil
 | _,_,.cons h1 h2,hf=>.cons (RM.within hm h1 (by simp[Ms.within]at hf;exact hf.1)) (RMs.within hm h2 (by simp[Ms.within]at hf;exact hf.2))
end
mutual
theorem RA.within(hm: ∀k,k∈ks→m' k=m k): ∀{x v},RA L w ok m x v→A.within ks x=true→RA L w ok m' x v
 | _,_,.c h1,hf=>.c (h1.within hm (by simpa[A.within]using hf))
 | _,_,.agg h1,hf=>.agg (RMs.within hm h1 (by simpa[A.within]using hf))
 | _,_,.tup h1,hf=>.tup (RAs.within hm h1 (by simpa[A.within]using hf))
 | _,_,.junk,_=>.junk
 | _,_,.un,_=>.un
theorem RAs.within(hm: ∀k,k∈ks→m' k=m k): ∀{xs vs},RAs L w ok m xs vs→As.within ks xs=true→RAs L w ok m' xs vs
 | _,_,.nil,_=>.nil
 | _,_,.cons h1 h2,hf=>.cons (RA.within hm h1 (by simp[As.within]at hf;exact hf.1)) (RAs.within hm h2 (by simp[As.within]at hf;exact hf.2))
end
theorem RB.within(hm: ∀k,k∈ks→m' k=m k){blk loc F}(h:RB L w ok m blk loc F)(hf:B.within ks blk=true):RB L w ok m' blk loc F:=by
 cases h with
 | nil=>exact .nil
 | row a1 a2 a3 a4 a5 a6 a7 a8=>exact .row a1 a2 a3 a4 a5 a6 a7 a8
 | box a1 a2=>exact .box a1 (a2.within hm (by simpa[B.within]using hf))
 | map a1 a2=>exact .map a1 a2
theorem ox(hm: ∀k,k∈ks→m' k=m k): ∀{ls:List Nat} {bs:List B} {H F},RH L w ok m H F→ls.Nodup→(∀l∈ls,l∈ks)→ck H ls=some bs→Bs.within ks bs=true→∃F' G,RH L w ok m' (ls.zip bs) F'∧F.Perm (F'++G)
 | [],bs,H,F,hH,_,_,h,_=>by simp[ck]at h;subst h;exact⟨[],F,.nil,.refl _⟩
 | l::r,bs,H,F,hH,hn,hs,h,hw=>by
  unfold ck at h
  split at h
  rename_i b bs' h1 h2
  simp at h;subst h
  simp only[Bs.within,bD]at hw
  obtain⟨Fl,Fr,G,h3,h4,h5⟩:=hH.taken h1
  have hn':=List.nodup_cons.1 hn
  obtain⟨F',G',h6,h7⟩:=ox hm (ls:=r) h4 hn'.2 (fun l hl=>hs l (by simp[hl])) (ig hn'.1 h2) hw.2
  refine⟨Fl++F',G'++G,.cons ?_ h6,?_⟩
  rw[hm l (hs l (by simp))]
  exact h3.within hm hw.1
  refine h5.trans ?_
  refine(List.perm_iff_count.2 fun x=>?_)
  have:=(List.perm_iff_count.1 h7) x
  simp only[List.count_append]at this ⊢;omega
  cases h
end
theorem kp: ∀{ls:List Nat} {bs:List B},ls.length=bs.length→∀{k:Nat},(lk (ls.zip bs) k).isSome=true↔k∈ls
 | [],[],_,k=>by simp[aU]
 | l::r,b::bs,h,k=>by
  simp only[List.zip_cons_cons,aw]
  by_cases e:l=k
  subst e;simp
  rw[if_neg e,kp (by simpa using h)];simp[Ne.symm e]
theorem aq{σ:Sg}{e e':List (Nat×A)}{H:List (Nat×B)}(ks:List Nat){bs:List B}(h:ck H ks=some bs)(hn:fR ks=true)(he:envSub e e')(hw:(gI ks e'&&Bs.within ks bs)=true):Ent σ ⟨e,H⟩ ⟨e',ks.zip bs⟩:=fun Γ eq a w hR=>by
 subst eq
 obtain⟨m,F,hR⟩:=hR
 simp only[bD]at hw
 have hm: ∀k,k∈ks→(fun k=>if k∈ks then m k else Loc.nil) k=m k:=fun k hk=>if_pos hk
 obtain⟨F',G,h1,h2⟩:=ox hm hR.H (dg hn) (fun l hl=>hl) h hw.2
 have hlen:=dQ h
 have hdrop:Rel1 Γ m F (G++[]) ⟨e',[]⟩ a w→True:=fun _=>trivial
 refine Rel1.toRel (m:=fun k=>if k∈ks then m k else .nil) (F:=F) (E:=G) ⟨⟨F',h1,h2⟩,hR.nodup,hR.H.lt,hR.own,fun t v hv=>(hR.env t v (he.get hv)).within hm (mz hw.1 hv),hR.size,hR.defers,hR.frame,fun l hl hs=>?_⟩ (fun k b cap sz hk=>?_)
 have hk:l∈ks:=(kp hlen).1 hs
 show(if l∈ks then m l else .nil)=_
 rw[if_pos hk]
 exact hR.keep l hl (gm h l hk)
 show(lk (ks.zip bs) k).isSome=true
 by_cases hkk:k∈ks
 exact(kp hlen).2 hkk
 simp only[if_neg hkk]at hk;cases hk
end Go.Al
/- The abstract logic, vp 32: a contract told with other labels. -/
namespace Go.Al

section
variable{L:Nat}{w:World}{ok:Nat→Prop}{m m':Nat→Loc}{g:Nat→Nat}
mutual
theorem RM.unre(hm: ∀k,m' k=m (g k)): ∀{x:M} {v},RM L w ok m (x.re g) v→RM L w ok m' x v
 | .d _,_,.d h1=>.d h1
 | .rs _ _ _,_,.rs h1 h2 h3 h4=>.rs ((hm _).trans h1) h2 h3 h4
 | .rs _ _ _,_,.rsNil h1=>.rsNil ((hm _).trans h1)
 | .rp _ _ _,_,.rp h1 h2=>.rp ((hm _).trans h1) h2
 | .pt _ _ _,_,.pt h1=>.pt ((hm _).trans h1)
 | .pt _ _ _,_,.pb h1=>.pb ((hm _).trans h1)
 | .mp _,_,.mp h1=>.mp ((hm _).trans h1)
 | .fn _ _,_,.fn h1=>.fn (RMs.unre hm h1)
 | .fb _ _,_,.fb h1=>.fb (RMs.unre hm h1)
 | .ez,_,.ez=>.ez
 | .junk,_,.junk h1=>.junk h1
theorem RMs.unre(hm: ∀k,m' k=m (g k)): ∀{xs:List M} {vs},RMs L w ok m (Ms.re g xs) vs→RMs L w ok m' xs vs
 | [],_,.nil=>.nil
 | _::_,_,.cons h1 h2=>.cons (RM.unre hm h1) (RMs.unre hm h2)
end
mutual
theorem RA.unre(hm: ∀k,m' k=m (g k)): ∀{x:A} {v},RA L w ok m (x.re g) v→RA L w ok m' x v
 | .c _,_,.c h1=>.c (h1.unre hm)
 | .agg _,_,.agg h1=>.agg (RMs.unre hm h1)
 | .tup _,_,.tup h1=>.tup (RAs.unre hm h1)
 | .junk,_,.junk=>.junk
 | .un,_,.un=>.un
theorem RAs.unre(hm: ∀k,m' k=m (g k)): ∀{xs:List A} {vs},RAs L w ok m (As.re g xs) vs→RAs L w ok m' xs vs
 | [],_,.nil=>.nil
 | _::_,_,.cons h1 h2=>.cons (RA.unre hm h1) (RAs.unre hm h2)
end
theorem RB.unre(hm: ∀k,m' k=m (g k)){blk:B}{loc F}(h:RB L w ok m (blk.re g) loc F):RB L w ok m' blk loc F:=by
 cases blk with
 | row own sz xs=>
  cases h with
  | nil=>exact .nil
  | row a1 a2 a3 a4 a5 a6 a7 a8=>exact .row a1 a2 a3 a4 a5 a6 a7 a8
 | box ms=>
  cases h with
  | box a1 a2=>exact .box a1 (RMs.unre hm a2)
 | map es=>
  cases h with
  | map a1 a2=>exact .map a1 a2
theorem RH.unre(hm: ∀k,m' k=m (g k)): ∀{H:List (Nat×B)} {F},RH L w ok m (nZ g H) F→RH L w ok m' H F
 | [],_,.nil=>.nil
 | (k,b)::r,_,.cons h1 h2=>.cons (by rw[hm];exact h1.unre hm) (RH.unre hm h2)
end
def up(N k:Nat):Nat:=N+k
theorem jp{H:List (Nat×B)}{N k:Nat}:(lk (nZ (up N) H) (N+k)).isSome=(lk H k).isSome:=by
 induction H with
 | nil=>rfl
 | cons x r ih=>
  obtain⟨j,v⟩:=x
  simp only[nZ,aw,up]
  by_cases h:j=k
  subst h;simp
  rw[if_neg (by omega),if_neg h];exact ih
theorem d9(N:Nat){P:Program}{L f:Nat}{ds ds':List A}{Hin Hin':List (Nat×B)}{R R':A}{Hout Hout':List (Nat×B)}(he:(As.re (up N) ds,nZ (up N) Hin,R.re (up N),nZ (up N) Hout)=(ds',Hin',R',Hout'))(h:MC P L f ds' Hin' (fA R' Hout')):MC P L f ds Hin (fA R Hout):=by
 simp only[Prod.mk.injEq]at he
 obtain⟨rfl,rfl,rfl,rfl⟩:=he
 refine⟨h.1,fun w m F ok vs h0 h1 h2 h3 h4 h5=>?_⟩
 have hm: ∀k,(fun k=>if N≤k then m (k-N)else Loc.nil) (up N k)=m k:=fun k=>by
  show(if N≤N+k then m (N+k-N)else Loc.nil)=m k
  rw[if_pos (by omega),Nat.add_sub_cancel_left]
 refine Calls.mono (h.2 w (fun k=>if N≤k then m (k-N)else .nil) F ok vs h0 (h1.re hm) h2 h3 (fun l b cap sz hl=>?_) (h5.re hm)) fun e w' he=>?_
 by_cases e:N≤l
 simp only[if_pos e]at hl
 obtain⟨k,rfl⟩: ∃k,l=N+k:=⟨l-N,by omega⟩
 show(lk (nZ (up N) Hin) (N+k)).isSome=true
 rw[jp]
 exact h4 k b cap sz (by simpa using hl)
 simp only[if_neg e]at hl;cases hl
 cases e with
 | returned v=>
  obtain⟨r,H',m',F',⟨hr,hH⟩,p1,p2,p3,p4,p5,p6,p7⟩:=he
  rw[hr]at p4
  rw[hH]at p1 p6 p7
  refine⟨R,Hout,fun k=>m' (N+k),F',⟨Z,Z⟩,p1.unre (g:=up N) (fun k=>rfl),p2,p3,p4.unre (g:=up N) (fun k=>rfl),p5,fun l hl hs=>?_,fun l b cap sz hl=>?_⟩
  have h6:=p6 (N+l) (by
   simp only[List.mem_map]at hl ⊢
   obtain⟨x,hx,rfl⟩:=hl
   clear h h1 h4 p6 p7 hs
   induction Hin with
   | nil=>cases hx
   | cons y r ih=>
    obtain⟨j,v⟩:=y
    rcases List.mem_cons.1 hx with rfl|hx
    ·
     exact⟨_,List.mem_cons_self ..,Z⟩
    ·
     obtain⟨z,hz,e⟩:=ih hx
     exact⟨z,List.mem_cons_of_mem _ hz,e⟩) (by rw[jp];exact hs)
  show m' (N+l)=m l
  rw[h6]
  show(if N≤N+l then m (N+l-N)else Loc.nil)=m l
  rw[if_pos (by omega),Nat.add_sub_cancel_left]
  have h7:(lk (nZ (up N) Hout) (N+l)).isSome=true:=p7 (N+l) b cap sz hl
  rw[jp]at h7;exact h7
 | _=>exact he.elim
end Go.Al
/- The abstract logic, vp 33: a nil slice in a box gets a label; calls that get data and answer data. -/
namespace Go.Al

def boxAt(l:Nat)(ms':List M):List (Nat×B)→List (Nat×B)
 | []=>[]
 | (k,.row own sz xs)::r=>(k,.row own sz xs)::boxAt l ms' r
 | (k,.map es)::r=>(k,.map es)::boxAt l ms' r
 | (k,.box ms)::r=>bif Nat.beq k l then(k,.box ms')::r else(k,.box ms)::boxAt l ms' r
theorem gg{l:Nat}{ms':List M}: ∀{H:List (Nat×B)} {k:Nat},(lk (boxAt l ms' H) k).isSome=(lk H k).isSome
 | [],_=>rfl
 | (j,.box ms)::r,k=>by
  unfold boxAt
  cases h:Nat.beq j l with
  | true=>simp only[cond_true,aw];split<;>rfl
  | false=>simp only[cond_false,aw];split;rfl;exact gg
 | (j,.row own sz xs)::r,k=>by simp only[boxAt,aw];split;rfl;exact gg
 | (j,.map es)::r,k=>by simp only[boxAt,aw];split;rfl;exact gg
theorem RH.boxAt{L w ok m}{l:Nat}{ms ms':List M}(hn: ∀vs,RMs L w ok m ms vs→RMs L w ok m ms' vs): ∀{H F},RH L w ok m H F→lk H l=some (.box ms)→RH L w ok m (boxAt l ms' H) F
 | _,_,.nil,h=>by simp[aU]at h
 | _,_,.cons (l:=k) (blk:=.box ms0) h1 h2,h=>by
  unfold Al.boxAt
  rw[aw]at h
  by_cases hk:k=l
  rw[if_pos hk]at h
  simp only[el,B.box.injEq]at h
  subst h
  rw[tN.2 hk]
  refine .cons ?_ h2
  generalize m k=loc at h1
  cases h1 with
  | box a1 a2=>exact .box a1 (hn _ a2)
  rw[if_neg hk]at h
  rw[qC.2 hk]
  exact .cons h1 (RH.boxAt hn h2 h)
 | _,_,.cons (l:=k) (blk:=.row own sz xs) h1 h2,h=>by
  unfold Al.boxAt
  rw[aw]at h
  by_cases hk:k=l
  rw[if_pos hk]at h;cases h
  rw[if_neg hk]at h
  exact .cons h1 (RH.boxAt hn h2 h)
 | _,_,.cons (l:=k) (blk:=.map es) h1 h2,h=>by
  unfold Al.boxAt
  rw[aw]at h
  by_cases hk:k=l
  rw[if_pos hk]at h;cases h
  rw[if_neg hk]at h
  exact .cons h1 (RH.boxAt hn h2 h)
theorem RMs.named{L w ok m}{l:Nat}(hm:m l= .nil): ∀{ms:List M} {vs:List Value} {j:Nat},RMs L w ok m ms vs→ms[j]? = some (.d .nils)→RMs L w ok m (ms.set j (.rs l 0 0)) vs
 | _,_,_,.nil,h=>by simp at h
 | _,_,0,.cons h1 h2,h=>by
  simp at h;subst h
  cases h1 with
  | d h1=>cases h1;exact .cons (.rsNil hm) h2
 | _,_,j+1,.cons h1 h2,h=>.cons h1 (RMs.named hm h2 (by simpa using h))
theorem ea{σ:Sg}{e:List (Nat×A)}{H:List (Nat×B)}(b l sz:Nat)(own:Bool)(j:Nat){ms:List M}(hb:lk H b=some (.box ms))(hj:ms[j]? = some (.d .nils))(hf:St.fresh ⟨e,H⟩ σ l=true) :
  Ent σ ⟨e,H⟩ ⟨e,boxAt b (ms.set j (.rs l 0 0)) (ins H l (.row own sz []))⟩:=fun Γ eq a w hR=>by
 subst eq
 obtain⟨m,F,hR0⟩:=hR
 obtain⟨h1,h2⟩:=bo hf
 have h3:=Rel1.give (E1:=[]) (E2:=[]) (loc:=.nil) (blk:=.row own sz []) hR0.to1 h1 h2 .nil
 have hd:=Dom.ins (s:=⟨e,H⟩) hR0.dom l .nil (.row own sz []) e
 have hb':lk (ins H l (.row own sz [])) b=some (.box ms):=by
  rw[dn,if_neg]
  exact hb
  intro e1
  subst e1
  simp only[St.free,bD,Option.isNone_iff_eq_none]at h1
  rw[hb]at h1
  cases h1.1
 refine Rel1.toRel (m:=fM m l .nil) (F:=F) (E:=[]) ⟨?_,h3.nodup,h3.lt,h3.own,h3.env,h3.size,h3.defers,h3.frame,fun k hk hs=>h3.keep k hk ?_⟩ (fun k b' cap sz' hk=>?_)
 obtain⟨FH,g1,g2⟩:=h3.H
 exact⟨FH,g1.boxAt (fun vs hv=>hv.named (bV _ _ _) hj) hb',g2⟩
 rwa[gg]at hs
 show(lk (boxAt b _ (ins H l (.row own sz []))) k).isSome=true
 rw[gg]
 exact hd k b' cap sz' hk
section
variable{σ:Sg}{Q:b0}{all:Array Oper}{o:Oper}{rest:List Oper}{c:Call}{fx:Operand}{f:Nat}{caps:List M}{as ds:List A}{e:List (Nat×A)}{H:List (Nat×B)}{d:Nat}{v:A}
theorem cj(hσ:SgOk σ)(hop:o.op= .call c)(hc:c.callee= .value fx)(hf:ev ⟨e,H⟩ fx=some (.c (.fn f caps)))(has:iv ⟨e,H⟩ c.args.toList=some as)(hM:MC σ.P σ.L f ds [] (Plain v))(hv:VAs [] (as++caps.map .c) ds)
  (hs:Al.Oper.shorts o=true) (hg:o.guard=none) (hd:o.dst=some d) (hn:Nat.blt d σ.nt=true) {B0:Nat} (hu:(St.under B0 ⟨e,H⟩&&bz B0 σ.ins)=true) (hr:v.ren B0=v) (K:AOps σ all Q rest ⟨(d,v)::e,H⟩):AOps σ all Q (o::rest) ⟨e,H⟩:=by
 refine qM hσ hop hc hf has hs hg hv hM hu fun res H' hQ=>?_
 obtain⟨rfl,rfl⟩:=hQ
 refine⟨_,by rw[hd,hr];simp only[Al.put,hn,cond_true];rfl,?_⟩
 rw[fP,List.append_nil]
 exact K
end
end Go.Al
/- The abstract logic, vp 34: operations under a condition that is known. -/
namespace Go.Al

section
variable{σ:Sg}{Q:b0}{all:Array Oper}{o:Oper}{rest:List Oper}{s:St}{e:List (Nat×A)}{H:List (Nat×B)}{d j t:Nat}{want x:Bool}
theorem qO(hg:o.guard=some (j,want))(hd:((all[j]?).bind (·.dst))=some t)(hl:lk s.env t=some (.c (.d (.bool x))))(hx:(x==want)=true){o':Oper}(ho:o'={o with guard:=none})(K:AOps σ all Q (o'::rest) s):AOps σ all Q (o::rest) s:=fun Γ eq a w hR=>by
 subst ho
 have hK:=K Γ eq a w hR
 obtain⟨m,F,hR0⟩:=hR
 have hw:Region.wanted o (yielded all a.tmps)=true:=by
  simp only[Region.wanted,hg,dM hR0 hd hl]
  cases x<;>cases want<;>simp_all
 unfold wpList at hK ⊢
 rw[if_pos hw]
 rw[if_pos (by simp[Region.wanted])]at hK
 exact hK
theorem AOps.skip(hg:o.guard=some (j,want))(hd:((all[j]?).bind (·.dst))=some t)(hl:lk e t=some (.c (.d (.bool x))))(hx:(x==want)=false)(hdst:o.dst=some d)(hn:Nat.blt d σ.nt=true)(K:AOps σ all Q rest ⟨(d,.un)::e,H⟩):AOps σ all Q (o::rest) ⟨e,H⟩:=fun Γ eq a w hR=>by
 subst eq
 obtain⟨m,F,hR0⟩:=hR
 have hw:Region.wanted o (yielded all a.tmps)=false:=by
  simp only[Region.wanted,hg,dM hR0 hd hl]
  cases x<;>cases want<;>simp_all
 unfold wpList
 rw[hw]
 simp only[Bool.false_eq_true,if_false]
 exact K Γ Z _ _ ⟨m,F,hR0.put .un (by simp[Al.put,hdst,hn])⟩
end

section
variable{σ:Sg}{o:Oper}{s:St}{v:A}{b:Bool}{c x y:Operand}
theorem aB(hσ:SgOk σ)(ho:o.op= .pick c x y)(hs:Al.Oper.shorts o=true)(hc:ev s c=some (.c (.d (.bool b))))(hb:b=true)(hx:ev s x=some v):Val σ s o v:=by
 subst hb
 exact Val.pick (u1:=v) (u2:=v) hσ ho hs hc (fun _=>⟨v,hx,rfl⟩) (fun h=>by cases h)
theorem ap(hσ:SgOk σ)(ho:o.op= .pick c x y)(hs:Al.Oper.shorts o=true)(hc:ev s c=some (.c (.d (.bool b))))(hb:b=false)(hy:ev s y=some v):Val σ s o v:=by
 subst hb
 exact Val.pick (u1:=v) (u2:=v) hσ ho hs hc (fun h=>by cases h) (fun _=>⟨v,hy,rfl⟩)
end
theorem am{σ:Sg}{e:List (Nat×A)}{H:List (Nat×B)}(l l':Nat)(hf:St.fresh ⟨e,H⟩ σ l'=true)(hne:Nat.beq l l'=false):Ent σ ⟨e,H⟩ ⟨iG l l' e,kn l l' H⟩:=fun Γ eq a w hR=>by
 subst eq
 obtain⟨m,F,hR0⟩:=hR
 obtain⟨h1,h2⟩:=bo hf
 simp only[St.free,bD,Option.isNone_iff_eq_none]at h1
 have hne':=qC.1 hne
 refine⟨qP m l l',F,hR0.H.sub h1.2.2 h1.1,hR0.nodup,hR0.own,fun t v hv=>?_,hR0.size,hR0.defers,hR0.frame,fun k hk hs=>?_,fun k b cap sz hk=>?_⟩
 simp only[oC,Option.map_eq_some_iff]at hv
 obtain⟨u,hu,rfl⟩:=hv
 exact(hR0.env t u hu).sub (eV h1.2.1 hu)
 have hk1:k≠l':=fun e=>h2 (e ▸ hk)
 rcases f7 (l:=l) h1.1 k with h|h
 rw[h,if_neg hk1]at hs
 by_cases hk2:k=l
 rw[if_pos hk2]at hs;cases hs
 rw[if_neg hk2]at hs
 rw[show qP m l l' k=m k by simp[qP,hk1,hk2]]
 exact hR0.keep k hk hs
 exact absurd h hne'
 rcases f7 (l:=l) h1.1 k with h|h
 show(lk (kn l l' H) k).isSome=true
 rw[h]
 unfold qP at hk
 by_cases hk1:k=l'
 subst hk1
 rw[if_pos Z]at hk ⊢
 exact hR0.dom l b cap sz hk
 rw[if_neg hk1]at hk ⊢
 by_cases hk2:k=l
 rw[if_pos hk2]at hk;cases hk
 rw[if_neg hk2]at hk ⊢
 exact hR0.dom k b cap sz hk
 exact absurd h hne'
theorem bw{σ:Sg}{Q:b0}{all:Array Oper}{l:List Oper}{s s':St}(h:Ent σ s s')(K:AOps σ all Q l s'):AOps σ all Q l s:=kL h K
end Go.Al
/- The abstract logic, vp 35: regions of open order in which labels are let go. -/
namespace Go.Al

theorem gn{n:Nat}: ∀{e e':List (Nat×A)},e.Sublist e'→fm n e'=true→fm n e=true
 | _,_,.slnil,_=>rfl
 | _,_,.cons (k,v) h,hu=>by simp only[fm,bD]at hu;exact gn h hu.2
 | _,_,.cons_cons (k,v) h,hu=>by simp only[fm,bD]at hu ⊢;exact⟨hu.1,gn h hu.2⟩
section
variable{σ:Sg}{o:Oper}{E W:List (Nat×A)}{H:List (Nat×B)}{d:Nat}
theorem f4(hσ:SgOk σ){t l i j:Nat}{x y:Operand}{v:A}{ms:List M}{ds ex:List D}{inf:TI}{own:Bool}{sz:Nat}{xs xs':List (List D)}(ho:o.op= .store t x y)(hs1:Operand.short x=true)(hs2:Operand.short y=true)(hx:ev ⟨E,H⟩ x=some (.c (.pt l i j)))(hl:lk H l=some (.row own sz xs))
  (hy:ev ⟨E,H⟩ y=some v) (hm:v.cells=some ms) (hp:cV ms=some ds) (hsc:(!own||ds.all D.scalar)=true) (ht:lk σ.tt t=some inf) (hz:Nat.beq ds.length inf.size=true) (hj:Nat.ble (j+ds.length) sz=true) (hno:St.noRp l ⟨W,dG H l⟩=true) (hd:o.dst=none)
  {v':A} {H':List (Nat×B)} (hv':v'= .un) (hxs:xs[i]? = some ex) (hxs':xs.set i (ex.take j++(ds++ex.drop (j+ds.length)))=xs') (hH':H'=ins (dG H l) l (.row own sz xs')):Eff σ E W H o v' H':=fun e hW hE=>by
 subst hH'
 have hno':St.noRp l ⟨e,dG H l⟩=true:=by
  simp only[St.noRp,bD]at hno ⊢
  exact⟨gn hW hno.1,hno.2⟩
 have:=Stp.heap (bl hσ ho hs1 hs2 (cX hE hx) hl (cX hE hy) hm hp hsc ht hz hj hno' hd hxs hxs')
 simpa[aZ,hd]using this
end

def A.ps:List Nat→A→A
 | [],x=>x
 | l::r,x=>A.ps r (A.purge l x)
def aJ:List Nat→List (Nat×A)→List (Nat×A)
 | [],e=>e
 | l::r,e=>aJ r (bR l e)
theorem dX: ∀{ls:List Nat} {e:List (Nat×A)} {t:Nat},lk (aJ ls e) t=(lk e t).map (A.ps ls)
 | [],e,t=>by simp only[aJ,A.ps];cases lk e t<;>rfl
 | l::r,e,t=>by
  simp only[aJ]
  rw[dX,gl]
  cases lk e t<;>rfl
theorem cz{l:Nat}: ∀{e e':List (Nat×A)},e.Sublist e'→(bR l e).Sublist (bR l e')
 | _,_,.slnil=>.slnil
 | _,_,.cons (k,v) h=>.cons _ (cz h)
 | _,_,.cons_cons (k,v) h=>.cons_cons _ (cz h)
theorem eJ: ∀{ls:List Nat} {e e':List (Nat×A)},e.Sublist e'→(aJ ls e).Sublist (aJ ls e')
 | [],_,_,h=>h
 | l::r,_,_,h=>eJ (ls:=r) (cz h)
theorem ju: ∀{ls ks:List Nat} {e:List (Nat×A)},aJ (ls++ks) e=aJ ks (aJ ls e)
 | [],ks,e=>rfl
 | l::r,ks,e=>by simp only[List.cons_append,aJ];exact ju
theorem LkSub.ps{ls:List Nat}{e e':List (Nat×A)}(h:LkSub e e'):LkSub (aJ ls e) (aJ ls e'):=fun t v hv=>by
 rw[dX]at hv ⊢
 simp only[Option.map_eq_some_iff]at hv ⊢
 obtain⟨u,hu,rfl⟩:=hv
 exact⟨u,h t u hu,Z⟩
def bk(nws:List (List Nat)):Nat→List Nat
 | 0=>[]
 | k+1=>bk nws k++nws.getD k []
def valKP(σ:Sg)(E:List (Nat×A))(Hs:List (List (Nat×B)))(nws:List (List Nat))(o:Oper)(v:A):Nat→Nat→Prop
 | lo,0=>Val σ ⟨aJ (bk nws lo) E,Hs.getD lo []⟩ o v∧A.ps (bk nws lo) v=v
 | lo,r+1=>(Val σ ⟨aJ (bk nws lo) E,Hs.getD lo []⟩ o v∧A.ps (bk nws lo) v=v)∧valKP σ E Hs nws o v (lo+1) r
def gV(σ:Sg)(E W:List (Nat×A))(H:List (Nat×B))(nw:List Nat)(o:Oper)(v:A)(H':List (Nat×B)):Prop:= ∀e,e.Sublist W→LkSub e E→Stp σ ⟨e,H⟩ o ⟨aZ o v++aJ nw e,H'⟩
theorem bF{σ E W H o v H'}(h:Eff σ E W H o v H'):gV σ E W H [] o v H':=h
def ul(σ:Sg)(l:List Oper)(vs:List A)(e0:List (Nat×A))(plan:List PO)(Hs:List (List (Nat×B)))(nws:List (List Nat))(i:Nat)(o:Oper)(p:PO)(v:A):Prop:=
 match p.eff with
 | none=>valKP σ (cC l vs e0 o) Hs nws o v p.lo (p.hi-p.lo)
 | some k=>gV σ (aJ (bk nws k) (cC l vs e0 o)) (aJ (bk nws k) (cb l vs e0 plan i)) (Hs.getD k []) (nws.getD k []) o v (Hs.getD (k+1) [])∧A.ps (bk nws (k+1)) v=v
def oblsP(σ:Sg)(l:List Oper)(vs:List A)(e0:List (Nat×A))(plan:List PO)(Hs:List (List (Nat×B)))(nws:List (List Nat)):Nat→List Oper→List PO→List A→Prop
 | i,o::os,p::ps,v::us=>ul σ l vs e0 plan Hs nws i o p v∧oblsP σ l vs e0 plan Hs nws (i+1) os ps us
 | _,[],[],[]=>True
 | _,_,_,_=>False
end Go.Al
/- The abstract logic, vp 36: a literal and an append in a region of open order. -/
namespace Go.Al
section
variable{σ:Sg}{o:Oper}{E W:List (Nat×A)}{H:List (Nat×B)}{d:Nat}
theorem gt(hσ:SgOk σ){c:Call}{x y:Operand}{t tx:Nat}{i it ti:TI}{l l2 len2 n:Nat}{u:A}{xs ys zs:List (List D)}(ho:o.op= .call c)(hb:c.callee= .builtin .append)(ha:c.args.toList=[x,y])(hat:c.argTypes.toList=[t,tx])(hs1:Operand.short x=true)(hs2:Operand.short y=true)(hx:ev ⟨E,H⟩ x=some u)(hy:ev ⟨E,H⟩ y=some (.c (.rs l2 0 len2)))
  (ht:lk σ.tt t=some i) (hk:Nat.beq i.kind 1=true) (htx:lk σ.tt tx=some it) (hkx:Nat.beq it.kind 1=true) (he:lk σ.tt i.elem=some ti) (hze:Nat.beq ti.zero.length ti.size=true) (hd:o.dst=some d) (hn:Nat.blt d σ.nt=true)
  (hT:Tgt H true ti.size u xs (some l)) (hl2:lk H l2=some (.row true ti.size ys)) (hlen2:len2=ys.length) (hne:(some l:Option Nat)≠some l2) (hf:St.fresh (St.purge l2 (St.let ⟨W,H⟩ (some l))) σ d=true) (hL:xs.length+ys.length≤σ.L) (hbb:(xs.length+ys.length)*ti.bytes≤140737488355328) (hzs:xs++ys=zs) (hnn:zs.length=n)
  {H':List (Nat×B)} (hH':H'=ins (b9 l2 (b9 l H)) d (.row true ti.size zs)):gV σ E W H [l,l2] o (.c (.rs d 0 n)) H':=fun e hW hE=>by
 subst hH'
 have hfe:St.fresh (St.purge l2 (St.let ⟨e,H⟩ (some l))) σ d=true:=
  de (e:=bR l2 (bR l e)) (e':=bR l2 (bR l W)) (H:=b9 l2 (b9 l H)) (cz (cz hW)) hf
 have:=Stp.heap (bE hσ ho hb ha hat hs1 hs2 (cX hE hx) (cX hE hy) ht hk htx hkx he hze hd hn hT hl2 hlen2 hne hfe hL hbb hzs hnn)
 simpa[aZ,hd,aJ,St.purge,St.let]using this
end
end Go.Al
/- The abstract logic, vp 37: calls that get data and answer blocks. -/
namespace Go.Al
section
variable{σ:Sg}{Q:b0}{all:Array Oper}{o:Oper}{rest:List Oper}{c:Call}{fx:Operand}{f:Nat}{caps:List M}{as ds:List A}{e:List (Nat×A)}{H:List (Nat×B)}{d:Nat}{R:A}{Hout:List (Nat×B)}
end
end Go.Al
/- The abstract logic, vp 38: a row is known in its first elements only. -/
namespace Go.Al

theorem mw{α:Type}{l l':List α}(h:l.Sublist l'): ∃G,l'.Perm (l++G):=by
 induction h with
 | slnil=>exact⟨[],.refl _⟩
 | cons a _ ih=>obtain⟨G,hG⟩:=ih;exact⟨a::G,(hG.cons a).trans List.perm_middle.symm⟩
 | cons_cons a _ ih=>obtain⟨G,hG⟩:=ih;exact⟨G,hG.cons a⟩
theorem RB.cut{L w ok m}{own:Bool}{sz:Nat}{xs:List (List D)}{loc F}(h:RB L w ok m (.row own sz xs) loc F)(k:Nat): ∃F',RB L w ok m (.row own sz (xs.take k)) loc F'∧F'.Sublist F:=by
 cases h with
 | nil=>exact⟨[],by rw[List.take_nil];exact .nil,List.Sublist.refl _⟩
 | row a1 a2 a3 a4 a5 a6 a7 a8=>
  have e:xs.flatten=(xs.take k).flatten++(xs.drop k).flatten:=by rw[←List.flatten_append,List.take_append_drop]
  rw[e]at a7
  obtain⟨F1,F2,rfl,c1,c2⟩:=a7.split
  refine⟨_::F1,.row (Nat.le_trans (by simp;omega) a1) (Nat.le_trans (by simp;omega) a2) (fun e he=>a3 e (List.mem_of_mem_take he)) a4 a5 a6 c1 (fun h=>(List.append_eq_nil_iff.1 (a8 h)).1),?_⟩
  exact List.Sublist.cons_cons _ (List.sublist_append_left _ _)
theorem Ent.cut{σ:Sg}{e:List (Nat×A)}{H:List (Nat×B)}(l k:Nat){own:Bool}{sz:Nat}{xs:List (List D)}(hl:lk H l=some (.row own sz xs)):Ent σ ⟨e,H⟩ ⟨e,ins (dG H l) l (.row own sz (xs.take k))⟩:=fun Γ eq a w hR=>by
 subst eq
 obtain⟨m,F,hR⟩:=hR
 obtain⟨Fl,G,hB,hR1⟩:=hR.to1.take hl
 rw[List.append_nil]at hR1
 obtain⟨F',hB',hs⟩:=hB.cut k
 obtain⟨G',hG⟩:=mw hs
 have hp:(Fl++G).Perm (F'++(G'++G)):=by
  refine(hG.append_right G).trans ?_
  rw[dO]
 have h1:=(hR1.permE hp).back (l:=l) (by rw[cW,if_pos Z]) hB' (fun hk=>hR.keep l hk (by rw[hl];rfl))
 refine Rel1.toRel h1 (fun k' b cap sz' hk=>?_)
 show(lk (ins (dG H l) l _) k').isSome=true
 rw[dn]
 split
 rfl
 rename_i hne
 rw[cW,if_neg hne]
 exact hR.dom k' b cap sz' hk
end Go.Al
/- The abstract logic, vp 39: a row's slice from the beginning. -/
namespace Go.Al
section
variable{σ:Sg}{o:Oper}{s:St}
theorem i6(hσ:SgOk σ){t l len sz:Nat}{x hi:Operand}{n:Int}{m:Nat}{k:IntKind}{own:Bool}{xs:List (List D)}{i ti:TI}(ho:o.op= .slice t x none (some hi) none)(hs:Al.Oper.shorts o=true)(hx:ev s x=some (.c (.rs l 0 len)))(hh:ev s hi=some (.c (.d (.int k n))))(hl:lk s.H l=some (.row own sz xs))
  (hi':lk σ.tt t=some i) (hk:Nat.beq i.kind 1=true) (ht:lk σ.tt i.elem=some ti) (hz:Nat.beq sz ti.size=true) (hm:n=m) (hle:m≤len):Val σ s o (.c (.rs l 0 m)):=by
 refine Val.of hσ ?_ hs
 subst hm
 simp[fd,ho,opt,hx,hh,g9,hi',hk,ht,hz,nat?,hl,hle]
end
end Go.Al
/- The abstract logic, vp 40: regions of open order in which a new variable may be made at any time. -/
namespace Go.Al

def HB(Hs0 Hs1:List (List (Nat×B)))(b:Bool)(k:Nat):List (Nat×B):=bif b then Hs1.getD k []else Hs0.getD k []
def valKF(σ:Sg)(E:List (Nat×A))(Hs0 Hs1:List (List (Nat×B)))(nws:List (List Nat))(o:Oper)(v:A)(tr:Bool):Nat→Nat→Prop
 | lo,0=>(Val σ ⟨aJ (bk nws lo) E,Hs1.getD lo []⟩ o v∧(bif tr then True else Val σ ⟨aJ (bk nws lo) E,Hs0.getD lo []⟩ o v))∧A.ps (bk nws lo) v=v
 | lo,r+1=>((Val σ ⟨aJ (bk nws lo) E,Hs1.getD lo []⟩ o v∧(bif tr then True else Val σ ⟨aJ (bk nws lo) E,Hs0.getD lo []⟩ o v))∧A.ps (bk nws lo) v=v)∧valKF σ E Hs0 Hs1 nws o v tr (lo+1) r
theorem valKF.get{σ E Hs0 Hs1 nws o v tr}: ∀{r lo k:Nat},valKF σ E Hs0 Hs1 nws o v tr lo r→lo≤k→k≤lo+r→∀b,(tr=true→b=true)→Val σ ⟨aJ (bk nws k) E,HB Hs0 Hs1 b k⟩ o v∧A.ps (bk nws k) v=v
 | 0,lo,k,h,h1,h2,b,hb=>by
  obtain rfl:k=lo:=(by omega)
  refine⟨?_,h.2⟩
  cases b with
  | true=>exact h.1.1
  | false=>
   cases tr with
   | true=>cases hb rfl
   | false=>exact h.1.2
 | r + 1,lo,k,h,h1,h2,b,hb=>by
  by_cases e:k=lo
  subst e
  refine⟨?_,h.1.2⟩
  cases b with
  | true=>exact h.1.1.1
  | false=>
   cases tr with
   | true=>cases hb rfl
   | false=>exact h.1.1.2
  exact valKF.get h.2 (by omega) (by omega) b hb
def newK(σ:Sg)(N W:List (Nat×A))(Hs0 Hs1:List (List (Nat×B)))(nws:List (List Nat))(o:Oper)(v:A):Nat→Nat→Prop
 | lo,0=>gV σ (aJ (bk nws lo) N) (aJ (bk nws lo) W) (Hs0.getD lo []) [] o v (Hs1.getD lo [])∧A.ps (bk nws lo) v=v
 | lo,r+1=>(gV σ (aJ (bk nws lo) N) (aJ (bk nws lo) W) (Hs0.getD lo []) [] o v (Hs1.getD lo [])∧A.ps (bk nws lo) v=v)∧newK σ N W Hs0 Hs1 nws o v (lo+1) r
theorem newK.get{σ N W Hs0 Hs1 nws o v}: ∀{r lo k:Nat},newK σ N W Hs0 Hs1 nws o v lo r→lo≤k→k≤lo+r→gV σ (aJ (bk nws k) N) (aJ (bk nws k) W) (Hs0.getD k []) [] o v (Hs1.getD k [])∧A.ps (bk nws k) v=v
 | 0,lo,k,h,h1,h2=>by obtain rfl:k=lo:=(by omega);exact h
 | r+1,lo,k,h,h1,h2=>by
  by_cases e:k=lo
  subst e;exact h.1
  exact newK.get h.2 (by omega) (by omega)
def q5(σ:Sg)(l:List Oper)(vs:List A)(e0:List (Nat×A))(plan:List PO)(fa:Nat)(Hs0 Hs1:List (List (Nat×B)))(nws:List (List Nat))(i:Nat)(o:Oper)(p:PO)(v:A):Prop:=
 match p.eff with
 | none=>bif Nat.beq i fa then newK σ (cC l vs e0 o) (cb l vs e0 plan i) Hs0 Hs1 nws o v p.lo (p.hi-p.lo)else valKF σ (cC l vs e0 o) Hs0 Hs1 nws o v (ja p.anc fa) p.lo (p.hi-p.lo)
 | some k=>(gV σ (aJ (bk nws k) (cC l vs e0 o)) (aJ (bk nws k) (cb l vs e0 plan i)) (Hs1.getD k []) (nws.getD k []) o v (Hs1.getD (k+1) [])∧
   (bif ja p.anc fa then True else gV σ (aJ (bk nws k) (cC l vs e0 o)) (aJ (bk nws k) (cb l vs e0 plan i)) (Hs0.getD k []) (nws.getD k []) o v (Hs0.getD (k+1) [])))∧A.ps (bk nws (k+1)) v=v
def oblsF(σ:Sg)(l:List Oper)(vs:List A)(e0:List (Nat×A))(plan:List PO)(fa:Nat)(Hs0 Hs1:List (List (Nat×B)))(nws:List (List Nat)):Nat→List Oper→List PO→List A→Prop
 | i,o::os,p::ps,v::us=>q5 σ l vs e0 plan fa Hs0 Hs1 nws i o p v∧oblsF σ l vs e0 plan fa Hs0 Hs1 nws (i+1) os ps us
 | _,[],[],[]=>True
 | _,_,_,_=>False
theorem oblsF.get{σ l vs e0 plan fa Hs0 Hs1 nws}: ∀{os ps us i},oblsF σ l vs e0 plan fa Hs0 Hs1 nws i os ps us→∀{j:Nat} {o:Oper},os[j]? = some o→∃p v,ps[j]? = some p∧us[j]? = some v∧q5 σ l vs e0 plan fa Hs0 Hs1 nws (i+j) o p v
 | _::_,_::_,_::_,i,h,0,o,ho=>by simp at ho;subst ho;exact⟨_,_,rfl,rfl,h.1⟩
 | _::_,_::_,_::_,i,h,j+1,o,ho=>by
  obtain⟨p,v,h1,h2,h3⟩:=oblsF.get h.2 (j:=j) (by simpa using ho)
  exact⟨p,v,by simpa using h1,by simpa using h2,by rwa[show i+(j+1)=i+1+j by omega]⟩
 | [],_,_,_,_,j,o,ho=>by simp at ho
 | _::_,[],_,_,h,_,_,_=>h.elim
 | _::_,_::_,[],_,h,_,_,_=>h.elim
theorem k5{σ:Sg}{Q:b0}{id:Nat}{l:List Oper}(hσ:SgOk σ)(e0:List (Nat×A))(vs:List A)(plan:List PO)(effs:List Nat)(fa:Nat)(Hs0 Hs1:List (List (Nat×B)))(nws:List (List Nat))(hl1:vs.length=l.length)(hl2:plan.length=l.length)(hnd:effs.Nodup)(hin: ∀x∈effs,x<l.length)
  (hfa:fa<l.length∨Hs0=Hs1) (hfp:(plan[fa]?).map (·.eff)=some none∨l.length≤fa) (hok:waitOk plan effs effs.length (l.map (·.dst)) l.length e0 σ.nt 0 l plan=true) (hob:oblsF σ l vs e0 plan fa Hs0 Hs1 nws 0 l plan vs)
  (K:Q .normal ⟨aJ (bk nws effs.length) (dT l vs e0),Hs1.getD effs.length []⟩):AWP σ (.region id l.toArray true) Q ⟨e0,Hs0.getD 0 []⟩:=by
 have hget: ∀{j:Nat} {o:Oper},l[j]? = some o→∃p v,plan[j]? = some p∧vs[j]? = some v∧q5 σ l vs e0 plan fa Hs0 Hs1 nws j o p v:=fun h=>by simpa using hob.get h
 have hwt: ∀{j:Nat} {o:Oper} {p:PO},l[j]? = some o→plan[j]? = some p→_:=fun{j o p} h1 h2=>waitOk.get hok (j:=j) (o:=o) (p:=p) h1 h2
 have hdist: ∀(a b:Nat),a<b→∀(oa ob:Oper),l[a]? = some oa→l[b]? = some ob→∀d,oa.dst=some d→ob.dst≠some d:=by
  intro a b hab oa ob ha hb d hda hdb
  obtain⟨p,v,hp,_,_⟩:=hget hb
  have h5:=((hwt hb hp).2.2.2.2 d hdb).1
  refine h5 ?_
  rw[Nat.zero_add,List.mem_take_iff_getElem]
  have hal:=(List.getElem?_eq_some_iff.1 ha).1
  exact⟨a,by simp;omega,by simp[(List.getElem?_eq_some_iff.1 ha).2,hda]⟩
 have hw2: ∀(j:Nat) (o:Oper) (p:PO),l[j]? = some o→plan[j]? = some p→(∀q∈aft o,q<j)∧(∀q∈p.anc,q∈aft o∨∃j'∈aft o,q∈cg plan j'):=fun j o p h1 h2=>by
  have:=hwt h1 h2
  exact⟨fun q hq=>by have:=this.2.1 q hq;omega,this.2.2.1⟩
 intro Γ hΓ a w hR
 subst hΓ
 -- one step
 have step: ∀(X:Nat→Bool) (k i:Nat) (o:Oper),Mid l effs X k→X i=false→l[i]? = some o→(∀j∈aft o,X j=true)→∃k',Mid l effs (fun j=>X j||Nat.beq j i) k'∧Stp Γ.toSg ⟨aJ (bk nws k) (bg X 0 l vs++e0),HB Hs0 Hs1 (X fa) k⟩ o ⟨aJ (bk nws k') (bg (fun j=>X j||Nat.beq j i) 0 l vs++e0),HB Hs0 Hs1 (X fa||Nat.beq fa i) k'⟩:=by
  intro X k i o hm hXi ho haft
  obtain⟨p,v,hp,hv,hobl⟩:=hget ho
  have hw:=hwt ho hp
  rw[Nat.zero_add]at hw
  have hanc:=hm.anc hl2 hw2
  have hp':cg plan i=p.anc:=by simp[cg,hp]
  have hpanc: ∀q∈p.anc,X q=true:=by rw[←hp'];exact hanc i o ho haft
  have hilt:i<l.length:=(List.getElem?_eq_some_iff.1 ho).1
  have hlisted: ∀x,X x=true→i ∉ cg plan x:=by
   intro x hx hix
   have hxl:x<l.length:=Nat.lt_of_not_le fun hle=>by rw[hm.out x hle]at hx;cases hx
   have hox:l[x]? = some l[x]:=List.getElem?_eq_getElem hxl
   have:=hanc x _ hox (hm.down x _ hox hx) i hix
   rw[hXi]at this;cases this
  -- what the operation cC is there
  have hsub:LkSub (bg X 0 l vs++e0) (cC l vs e0 o):=by
   intro t u hu
   rw[show cC l vs e0 o=(aft o).flatMap (fun j=>match l[j]?,vs[j]? with|some o',some v'=>aZ o' v'|_,_=>[])++e0 from rfl]at hu
   rw[aH]at hu
   rw[aH]
   cases hq:lk ((aft o).flatMap (fun j=>match l[j]?,vs[j]? with|some o',some v'=>aZ o' v'|_,_=>[])) t with
   | some u'=>
    rw[hq]at hu
    simp only[Option.some_or,el]at hu
    subst hu
    have hmem: ∃j∈aft o,∃o' v',l[j]? = some o'∧vs[j]? = some v'∧o'.dst=some t∧v'=u':=by
     clear haft hw hpanc
     revert hq
     generalize aft o=as
     intro hq
     induction as with
     | nil=>simp[aU]at hq
     | cons j as ih=>
      simp only[List.flatMap_cons,aH]at hq
      cases h1:lk (match l[j]?,vs[j]? with|some o',some v'=>aZ o' v'|_,_=>[]) t with
      | none=>
       rw[h1]at hq
       obtain⟨j',hj',r⟩:=ih (by simpa using hq)
       exact⟨j',by simp[hj'],r⟩
      | some u2=>
       rw[h1]at hq
       simp only[Option.some_or,el]at hq
       subst hq
       split at h1
       rename_i o' v' e1 e2
       unfold aZ at h1
       cases hd:o'.dst with
       | none=>simp[hd,aU]at h1
       | some d=>
        simp only[hd,aw,aU]at h1
        split at h1
        rename_i e3
        subst e3
        simp only[el]at h1
        exact⟨j,by simp,o',v',e1,e2,hd,h1⟩
        cases h1
       simp[aU]at h1
    obtain⟨j,hj,o',v',e1,e2,e3,rfl⟩:=hmem
    rw[cx (X:=X) hl1.symm hdist e1 e2 e3 (by rw[Nat.zero_add];exact haft j hj)]
    rfl
   | none=>
    rw[hq]at hu
    simp only[Option.none_or]at hu
    rw[dH (X:=X) (d:=t) (fun b ob hb hXb hd=>?_)]
    exact hu
    rw[Nat.zero_add]at hXb
    obtain⟨pb,vb,hpb,_,_⟩:=hget hb
    rcases((hwt hb hpb).2.2.2.2 t hd).2 with h6|h6
    rw[h6]at hu;cases hu
    rcases h6 i hilt with h7|h7
    rw[Nat.zero_add]at h7;subst h7;rw[hXi]at hXb;cases hXb
    exact hlisted b hXb (by simp only[cg,hpb];exact h7)
  -- the slots behind the step
  have hback: ∀(e':List (Nat×A)),e'=aZ o v++(bg X 0 l vs++e0)→LkSub e' (bg (fun j=>X j||Nat.beq j i) 0 l vs++e0):=by
   rintro _ rfl t u hu
   rw[aH]at hu
   rw[aH]
   cases hd:o.dst with
   | none=>
    simp only[aZ,hd,aU,Option.none_or]
    rw[dP (X':=X) (fun j=>?_)]at hu
    rw[aH];exact hu
    by_cases e:j=i
    subst e
    exact .inr fun o' ho' _=>by rw[Nat.sub_zero,ho]at ho';cases ho';rw[hd];simp
    exact .inl (by simp[qC.2 e])
   | some d=>
    by_cases htd:d=t
    subst htd
    rw[cx (X:=fun j=>X j||Nat.beq j i) hl1.symm hdist ho hv hd (by simp)]at hu
    simp only[Option.some_or,el]at hu
    subst hu
    simp[aZ,hd,aw]
    simp only[aZ,hd,aw,if_neg htd,aU,Option.none_or]
    rw[dP (X':=X) (fun j=>?_)]at hu
    rw[aH];exact hu
    by_cases e:j=i
    subst e
    exact .inr fun o' ho' _=>by rw[Nat.sub_zero,ho]at ho';cases ho';rw[hd];simp[htd]
    exact .inl (by simp[qC.2 e])
  have hbackP: ∀(ls:List Nat) (e':List (Nat×A)),A.ps ls v=v→e'=aZ o v++aJ ls (bg X 0 l vs++e0)→LkSub e' (aJ ls (bg (fun j=>X j||Nat.beq j i) 0 l vs++e0)):=by
   rintro ls _ hpv rfl t u hu
   rw[dX,Option.map_eq_some_iff]at hu
   obtain⟨u0,hu0,rfl⟩:=hu
   have h5:=hback _ Z t u0 hu0
   rw[aH]at h5 ⊢
   cases h6:lk (aZ o v) t with
   | some y=>
    rw[h6]at h5
    simp only[Option.some_or,el]at h5 ⊢
    subst h5
    unfold aZ at h6
    cases hd:o.dst with
    | none=>rw[hd]at h6;simp[aU]at h6
    | some d=>
     simp only[hd,aw,aU]at h6
     split at h6
     simp only[el]at h6;rw[←h6];exact hpv.symm
     cases h6
   | none=>
    rw[h6]at h5
    simp only[Option.none_or]at h5 ⊢
    rw[dX,h5];rfl
  have hmid: ∀k',(∀q x,effs[q]? = some x→((X x||Nat.beq x i)=true↔q<k'))→k'≤effs.length→Mid l effs (fun j=>X j||Nat.beq j i) k':=fun k' h1 h2=>⟨fun j oj hj hX q hq=>by
   simp only[Bool.or_eq_true]at hX ⊢
   rcases hX with hX|hX
   ·
    exact .inl (hm.down j oj hj hX q hq)
   ·
    have:=tN.1 hX;subst this
    rw[ho]at hj;cases hj
    exact .inl (haft q hq),fun j hj=>by
   simp only[Bool.or_eq_false_iff]
   exact⟨hm.out j hj,qC.2 (by omega)⟩,h1,h2⟩
  have hre: ∀{ls:List Nat} {H:List (Nat×B)} {e':List (Nat×A)},A.ps ls v=v→e'=aZ o v++aJ ls (bg X 0 l vs++e0)→Stp Γ.toSg ⟨aJ (bk nws k) (bg X 0 l vs++e0),HB Hs0 Hs1 (X fa) k⟩ o ⟨e',H⟩→Stp Γ.toSg ⟨aJ (bk nws k) (bg X 0 l vs++e0),HB Hs0 Hs1 (X fa) k⟩ o ⟨aJ ls (bg (fun j=>X j||Nat.beq j i) 0 l vs++e0),H⟩:=by
   intro ls H e' hpv he hs Γ' hΓ' a w hR K' Q' hK'
   refine hs Γ' hΓ' a w hR K' Q' fun a' w' ⟨m,F,h⟩=>hK' a' w' ⟨m,F,h.H,h.nodup,h.own,fun t u hu=>h.env t u (hbackP ls e' hpv he t u hu),h.size,h.defers,h.frame,h.keep,h.dom⟩
  unfold q5 at hobl
  cases he:p.eff with
  | none=>
   rw[he]at hobl
   have h4:=hw.2.2.2.1
   rw[he]at h4
   obtain⟨a1,a2,a3,⟨d,hd,hdn⟩,a5⟩:=h4
   have hk1:p.lo≤k:=by
    rcases a1 with a1|⟨x,hx,hxa⟩
    omega
    have:=(hm.eff _ x hx).1 (hpanc x hxa);omega
   have hk2:k≤p.hi:=by
    rcases a2 with a2|⟨x,hx,hxa⟩
    rw[a2];exact hm.le
    refine Nat.le_of_not_lt fun hlt=>?_
    exact hlisted x ((hm.eff _ x hx).2 hlt) hxa
   refine⟨k,hmid k (fun q x hx=>?_) hm.le,?_⟩
   have hne:x≠i:=fun e=>a5 (e ▸ List.mem_of_getElem? hx)
   simp only[qC.2 hne,Bool.or_false]
   exact hm.eff q x hx
   by_cases hif:i=fa
   subst hif
   simp only[tN.2 Z,cond_true]at hobl
   obtain⟨hnew,hpv⟩:=newK.get hobl hk1 (by omega)
   rw[tN.2 Z,Bool.or_true,hXi]
   rw[hXi]at hre
   refine hre hpv Z ?_
   have h7:=hnew _ (eJ (ls:=bk nws k) (show(bg X 0 l vs++e0).Sublist (cb l vs e0 plan i)from by
    rw[dN]
    refine List.Sublist.append (eT (fun j hj=>?_)) (List.Sublist.refl _)
    simp only[bD,Bool.not_eq_true']
    refine⟨qC.2 (fun e=>by subst e;rw[hXi]at hj;cases hj),?_⟩
    have:=hlisted j hj
    simpa using this)) hsub.ps
   exact h7
   rw[qC.2 hif]at hobl
   simp only[cond_false]at hobl
   obtain⟨hval,hpv⟩:=valKF.get hobl hk1 (by omega) (X fa) (fun ht=>hpanc fa (by rw[iD]at ht;simpa using ht))
   rw[qC.2 (Ne.symm hif),Bool.or_false]
   have hval':Val Γ.toSg ⟨aJ (bk nws k) (bg X 0 l vs++e0),HB Hs0 Hs1 (X fa) k⟩ o v:=fun Γ' hΓ' m F a w hR0=>hval Γ' hΓ' m F a w ⟨hR0.H,hR0.nodup,hR0.own,fun t u hu=>hR0.env t u (hsub.ps t u hu),hR0.size,hR0.defers,hR0.frame,hR0.keep,hR0.dom⟩
   refine hre (e':=(d,v)::aJ (bk nws k) (bg X 0 l vs++e0)) hpv (by simp[aZ,hd]) (Stp.val hval' hd hdn)
  | some q0=>
   rw[he]at hobl
   have h4:=hw.2.2.2.1
   rw[he]at h4
   obtain⟨a1,a2⟩:=h4
   have hkq:k=q0:=by
    have h6: ¬q0<k:=fun hlt=>by have:=(hm.eff q0 i a1).2 hlt;rw[hXi]at this;cases this
    rcases a2 with a2|⟨x,hx,hxa⟩
    omega
    have:=(hm.eff _ x hx).1 (hpanc x hxa);omega
   subst hkq
   have hql:k<effs.length:=(List.getElem?_eq_some_iff.1 a1).1
   refine⟨k+1,hmid (k+1) (fun q x hx=>?_) (by omega),?_⟩
   by_cases hxi:x=i
   subst hxi
   simp only[tN.2 Z,Bool.or_true,true_iff]
   refine Nat.lt_succ_of_le (Nat.le_of_not_lt fun hlt=>?_)
   have hq2:q=k:=(List.getElem?_inj (List.getElem?_eq_some_iff.1 hx).1 hnd).1 (hx.trans a1.symm)
   omega
   simp only[qC.2 hxi,Bool.or_false,hm.eff q x hx]
   constructor
   intro h;omega
   intro h
   rcases Nat.lt_or_ge q k with h8|h8
   exact h8
   have:q=k:=by omega
   subst this
   rw[a1]at hx;cases hx
   exact absurd Z hxi
   have hif:fa≠i:=fun e=>by
    subst e
    replace hfp:=hfp.resolve_right (Nat.not_le_of_lt hilt)
    rw[hp]at hfp
    simp only[Option.map_some,el]at hfp
    rw[he]at hfp;cases hfp
   rw[qC.2 hif,Bool.or_false]
   obtain⟨⟨hobl1,hobl0⟩,hpv⟩:=hobl
   have hobl:gV Γ.toSg (aJ (bk nws k) (cC l vs e0 o)) (aJ (bk nws k) (cb l vs e0 plan i)) (HB Hs0 Hs1 (X fa) k) (nws.getD k []) o v (HB Hs0 Hs1 (X fa) (k+1)):=by
    cases hxf:X fa with
    | true=>exact hobl1
    | false=>
     have:ja p.anc fa=false:=by
      cases hmm:ja p.anc fa with
      | false=>rfl
      | true=>
       rw[iD]at hmm
       have:=hpanc fa (by simpa using hmm)
       rw[hxf]at this;cases this
     rw[this]at hobl0
     exact hobl0
   refine hre hpv Z ?_
   have h7:=hobl _ (eJ (ls:=bk nws k) (show(bg X 0 l vs++e0).Sublist (cb l vs e0 plan i)from by
    rw[dN]
    refine List.Sublist.append (eT (fun j hj=>?_)) (List.Sublist.refl _)
    simp only[bD,Bool.not_eq_true']
    refine⟨qC.2 (fun e=>by subst e;rw[hXi]at hj;cases hj),?_⟩
    have:=hlisted j hj
    simpa using this)) hsub.ps
   rw[←ju]at h7
   exact h7
 have hsz:l.toArray.size=l.length:=by simp
 have main: ∀(fuel:Nat) (listed:Array Bool) (a:Act) (w:World) (k:Nat) (U:List Nat),listed.size=l.length→Mid l effs (fun j=>listed.getD j false) k→(∀j,j<l.length→listed.getD j false=false→j∈U)→U.length≤fuel→
   fz Γ ⟨aJ (bk nws k) (bg (fun j=>listed.getD j false) 0 l vs++e0),HB Hs0 Hs1 (listed.getD fa false) k⟩ a w→wpAny Γ.P .any l.toArray (lh Γ Q) fuel listed a w:=by
  have fin: ∀(listed:Array Bool) (a:Act) (w:World) (k:Nat),Mid l effs (fun j=>listed.getD j false) k→(∀j,j<l.length→listed.getD j false=true)→fz Γ ⟨aJ (bk nws k) (bg (fun j=>listed.getD j false) 0 l vs++e0),HB Hs0 Hs1 (listed.getD fa false) k⟩ a w→lh Γ Q .normal a w:=by
   intro listed a w k hm hall hR
   have hk:k=effs.length:=by
    refine Nat.le_antisymm hm.le (Nat.le_of_not_lt fun hlt=>?_)
    have hx:effs[k]? = some effs[k]:=List.getElem?_eq_getElem hlt
    have:=(hm.eff k _ hx).1 (hall _ (hin _ (List.getElem_mem _)))
    omega
   subst hk
   have hHB:HB Hs0 Hs1 (listed.getD fa false) effs.length=Hs1.getD effs.length []:=by
    rcases hfa with hfa|hfa
    ·
     rw[hall fa hfa];rfl
    ·
     rw[hfa];unfold HB;cases listed.getD fa false<;>rfl
   rw[hHB]at hR
   refine⟨_,?_,K⟩
   obtain⟨m,F,h⟩:=hR
   refine⟨m,F,h.H,h.nodup,h.own,fun t u hu=>h.env t u ?_,h.size,h.defers,h.frame,h.keep,h.dom⟩
   rw[←iV (i:=0)]at hu
   rw[dX]at hu ⊢
   rw[aH]at hu ⊢
   rw[dP (X':=fun _=>true) (fun j=>?_)]
   ·
    exact hu
   ·
    by_cases hj:j<l.length
    ·
     exact .inl (hall j hj)
    ·
     exact .inr fun o ho _=>by
      have:=(List.getElem?_eq_some_iff.1 ho).1;omega
  intro fuel
  induction fuel with
  | zero=>
   intro listed a w k U hs hm hU hlen hR
   have hall: ∀j,j<l.length→listed.getD j false=true:=fun j hj=>by
    cases hx:listed.getD j false with
    | true=>rfl
    | false=>
     have:=hU j hj hx
     have hU0:U=[]:=List.eq_nil_of_length_eq_zero (by omega)
     rw[hU0]at this;cases this
   refine⟨?_,fin listed a w k hm hall hR⟩
   refine List.eq_nil_iff_forall_not_mem.2 fun j hj=>?_
   obtain⟨h1,o,ho,_⟩:=mem_ready.1 hj
   have hjl:j<l.length:=by
    have:=(Array.getElem?_eq_some_iff.1 ho).1;simpa using this
   have h2:=hall j hjl
   have hjs:j<listed.size:=by omega
   simp[hjs]at h1 h2
   rw[h1]at h2;cases h2
  | succ fuel ih=>
   intro listed a w k U hs hm hU hlen hR
   refine⟨fun hr=>?_,fun i hi=>?_⟩
   ·
    refine fin listed a w k hm (fun j=>?_) hR
    induction j using Nat.strongRecOn with
    | _ j ihj=>
     intro hj
     cases hx:listed.getD j false with
     | true=>rfl
     | false=>
      have hjs:j<listed.size:=by omega
      have ho:l[j]? = some l[j]:=List.getElem?_eq_getElem hj
      obtain⟨p,v,hp,_,_⟩:=hget ho
      have hmem:j∈Region.ready .any l.toArray listed:=mem_ready.2 ⟨getD_in hjs hx,l[j],by simp[hj],fun e he hb=>by
       have hlt:=(hw2 j _ p ho hp).1 e.on (xg.2 ⟨e,he,hb,rfl⟩)
       exact ihj e.on hlt (by omega)⟩
      rw[hr]at hmem;cases hmem
   ·
    obtain⟨h1,o,ho,hall⟩:=mem_ready.1 hi
    have hol:l[i]? = some o:=by simpa using ho
    have hil:i<l.length:=(List.getElem?_eq_some_iff.1 hol).1
    have his:i<listed.size:=by omega
    have hXi:listed.getD i false=false:=by simp[his]at h1 ⊢;exact h1
    obtain⟨k',hm',hst⟩:=step (fun j=>listed.getD j false) k i o hm hXi hol (fun j hj=>by
     obtain⟨e,he,hb,rfl⟩:=xg.1 hj
     exact hall e he hb)
    have hX':(fun j=>listed.getD j false||Nat.beq j i)=fun j=>(listed.setIfInBounds i true).getD j false:=by
     funext j
     by_cases e:j=i
     ·
      subst e;simp[his]
     ·
      rw[getD_set_ne false (Ne.symm e),qC.2 e,Bool.or_false]
    have hX2:(listed.getD fa false||Nat.beq fa i)=(listed.setIfInBounds i true).getD fa false:=congrFun hX' fa
    rw[hX']at hm' hst
    rw[hX2]at hst
    obtain⟨p,v,hp,_,_⟩:=hget hol
    have hg:=(hwt hol hp).1
    unfold wpOp
    rw[ho]
    simp only[Region.wanted,hg,if_true]
    refine .inl (hst Γ Z a w hR _ _ fun a' w' hR'=>?_)
    refine ih (listed.setIfInBounds i true) a' w' k' (U.erase i) (by simp[hs]) hm' (fun j hj hx=>?_) ?_ hR'
    ·
     by_cases e:j=i
     ·
      subst e;simp[his]at hx
     ·
      rw[getD_set_ne false (Ne.symm e)]at hx
      exact(List.mem_erase_of_ne e).2 (hU j hj hx)
    ·
     rw[List.length_erase_of_mem (hU i hil hXi)];omega
 refine wp_region_any hσ.mix ?_
 rw[hsz]
 refine main l.length _ a _ 0 (List.range l.length) (by simp) ⟨fun i o _ hX=>?_,fun i _=>getD_replicate_false _ _,fun q x _=>?_,co _⟩ (fun j hj _=>by simpa using hj) (by simp) ?_
 rw[getD_replicate_false]at hX;cases hX
 rw[getD_replicate_false];simp
 have hz:HB Hs0 Hs1 ((Array.replicate l.length false).getD fa false) 0=Hs0.getD 0 []:=by rw[getD_replicate_false];rfl
 rw[hz]
 obtain⟨m,F,h⟩:=hR
 obtain⟨m',F',h'⟩:=Rel1.toRel (Rel1.drew h.to1) h.dom
 refine⟨m',F',h'.H,h'.nodup,h'.own,fun t u hu=>h'.env t u ?_,h'.size,h'.defers,h'.frame,h'.keep,h'.dom⟩
 simp only[bk,aJ]at hu
 rw[aH,dH (fun b ob hb hXb=>by rw[getD_replicate_false]at hXb;cases hXb)]at hu
 exact hu
theorem qL{σ:Sg}{Q:b0}{id:Nat}{l:List Oper}(hσ:SgOk σ)(e0:List (Nat×A))(vs:List A)(plan:List PO)(effs:List Nat)(fa:Nat)(Hs0 Hs1:List (List (Nat×B)))(nws:List (List Nat))(hl1:vs.length=l.length)(hl2:plan.length=l.length)(hnd:effs.Nodup)(hin: ∀x∈effs,x<l.length)
  (hfa:fa<l.length) (hfp:(plan[fa]?).map (·.eff)=some none) (hok:waitOk plan effs effs.length (l.map (·.dst)) l.length e0 σ.nt 0 l plan=true) (hob:oblsF σ l vs e0 plan fa Hs0 Hs1 nws 0 l plan vs)
  (K:Q .normal ⟨aJ (bk nws effs.length) (dT l vs e0),Hs1.getD effs.length []⟩):AWP σ (.region id l.toArray true) Q ⟨e0,Hs0.getD 0 []⟩:=
 k5 hσ e0 vs plan effs fa Hs0 Hs1 nws hl1 hl2 hnd hin (.inl hfa) (.inl hfp) hok hob K
theorem valKF.of{σ E Hs nws o v tr}: ∀{r lo:Nat},valKP σ E Hs nws o v lo r→valKF σ E Hs Hs nws o v tr lo r
 | 0,lo,h=>⟨⟨h.1,by cases tr<;>first|exact h.1|trivial⟩,h.2⟩
 | r+1,lo,h=>⟨⟨⟨h.1.1,by cases tr<;>first|exact h.1.1|trivial⟩,h.1.2⟩,valKF.of h.2⟩
theorem oblsF.of{σ l vs e0 plan Hs nws fa}: ∀{os ps us i},oblsP σ l vs e0 plan Hs nws i os ps us→i+os.length≤fa→oblsF σ l vs e0 plan fa Hs Hs nws i os ps us
 | o :: _,p::_,_::_,i,h,hi=>by
  simp only[dF]at hi
  refine⟨?_,oblsF.of h.2 (by omega)⟩
  have h1:=h.1
  unfold ul at h1
  unfold q5
  cases he:p.eff with
  | none=>
   rw[he]at h1
   show(bif Nat.beq i fa then _ else _)
   rw[qC.2 (show i≠fa by omega)]
   exact valKF.of h1
  | some k=>
   rw[he]at h1
   exact⟨⟨h1.1,by cases ja p.anc fa<;>first|exact h1.1|trivial⟩,h1.2⟩
 | [],[],[],_,_,_=>trivial
 | [],[],_::_,_,h,_=>h.elim
 | [],_::_,_,_,h,_=>h.elim
 | _::_,[],_,_,h,_=>h.elim
 | _::_,_::_,[],_,h,_=>h.elim
theorem lT{σ:Sg}{Q:b0}{id:Nat}{l:List Oper}(hσ:SgOk σ)(e0:List (Nat×A))(vs:List A)(plan:List PO)(effs:List Nat)(Hs:List (List (Nat×B)))(nws:List (List Nat))(hl1:vs.length=l.length)(hl2:plan.length=l.length)(hnd:effs.Nodup)(hin: ∀x∈effs,x<l.length)
  (hok:waitOk plan effs effs.length (l.map (·.dst)) l.length e0 σ.nt 0 l plan=true) (hob:oblsP σ l vs e0 plan Hs nws 0 l plan vs)
  (K:Q .normal ⟨aJ (bk nws effs.length) (dT l vs e0),Hs.getD effs.length []⟩):AWP σ (.region id l.toArray true) Q ⟨e0,Hs.getD 0 []⟩:=
 k5 hσ e0 vs plan effs l.length Hs Hs nws hl1 hl2 hnd hin (.inr Z) (.inr (cm _)) hok (oblsF.of hob (by omega)) K
theorem je: ∀{k:Nat},bk [] k=[]
 | 0=>rfl
 | k+1=>by rw[bk,je];rfl
theorem valKP.of{σ E Hs o v}: ∀{r lo:Nat},valK σ E Hs o v lo r→valKP σ E Hs [] o v lo r
 | 0,lo,h=>by unfold valKP;rw[je];exact⟨h,rfl⟩
 | r+1,lo,h=>by unfold valKP;rw[je];exact⟨⟨h.1,rfl⟩,valKP.of h.2⟩
theorem oblsP.of{σ l vs e0 plan Hs}: ∀{os ps us i},oX σ l vs e0 plan Hs i os ps us→oblsP σ l vs e0 plan Hs [] i os ps us
 | o :: _,p::_,_::_,i,h=>by
  refine⟨?_,oblsP.of h.2⟩
  have h1:=h.1
  unfold qY at h1
  unfold ul
  cases he:p.eff with
  | none=>rw[he]at h1;exact valKP.of h1
  | some k=>
   rw[he]at h1
   show gV _ _ _ _ _ _ _ _∧_
   rw[je,je]
   exact⟨h1,Z⟩
 | [],[],[],_,_=>trivial
 | [],[],_::_,_,h=>h.elim
 | [],_::_,_,_,h=>h.elim
 | _::_,[],_,_,h=>h.elim
 | _::_,_::_,[],_,h=>h.elim
theorem qJ{σ:Sg}{Q:b0}{id:Nat}{l:List Oper}(hσ:SgOk σ)(e0:List (Nat×A))(vs:List A)(plan:List PO)(effs:List Nat)(Hs:List (List (Nat×B)))(hl1:vs.length=l.length)(hl2:plan.length=l.length)(hnd:effs.Nodup)(hin: ∀x∈effs,x<l.length)
  (hok:waitOk plan effs effs.length (l.map (·.dst)) l.length e0 σ.nt 0 l plan=true) (hob:oX σ l vs e0 plan Hs 0 l plan vs)
  (K:Q .normal ⟨dT l vs e0,Hs.getD effs.length []⟩):AWP σ (.region id l.toArray true) Q ⟨e0,Hs.getD 0 []⟩:=
 lT hσ e0 vs plan effs Hs [] hl1 hl2 hnd hin hok (oblsP.of hob) (by rw[je];exact K)
end Go.Al
/- The abstract logic, vp 41: contracts told of longer data; a new variable that is made at any time. -/
namespace Go.Al

theorem aO{a b:Prop}(hb:b)(ha:a):a∧b:=⟨ha,hb⟩
theorem oT{σ:Sg}{Q:b0}{id:Nat}{l:List Oper}(hσ:SgOk σ)(e0:List (Nat×A))(vs:List A)(plan:List PO)(effs:List Nat)(fa d:Nat)(blk:B)(Hs0 tail:List (List (Nat×B)))(nws:List (List Nat))(hl1:vs.length=l.length)(hl2:plan.length=l.length)(hnd:effs.Nodup)(hin: ∀x∈effs,x<l.length)
  (hfa:fa<l.length) (hfp:(plan[fa]?).map (·.eff)=some none) (hok:waitOk plan effs effs.length (l.map (·.dst)) l.length e0 σ.nt 0 l plan=true) (hob:oblsF σ l vs e0 plan fa Hs0 (Hs0.map (fun H=>ins H d blk)++tail) nws 0 l plan vs)
  (K:Q .normal ⟨aJ (bk nws effs.length) (dT l vs e0),(Hs0.map (fun H=>ins H d blk)++tail).getD effs.length []⟩):AWP σ (.region id l.toArray true) Q ⟨e0,Hs0.getD 0 []⟩:=
 qL hσ e0 vs plan effs fa Hs0 (Hs0.map (fun H=>ins H d blk)++tail) nws hl1 hl2 hnd hin hfa hfp hok hob K

theorem eZ{L:Nat}: ∀{xs:List (List D)},Dss.fact L xs→Ds.fact L xs.flatten
 | [],_=>trivial
 | e::r,h=>by rw[List.flatten_cons,e5];exact⟨h.1,eZ h.2⟩
mutual
theorem RD.relim{L L0:Nat}{w:World}{ok:Nat→Prop}: ∀{d v F},RD L w ok d v F→D.fact L0 d→RD L0 w ok d v F
 | _,_,_,.int h1 h2,_=>.int h1 h2
 | _,_,_,.bool,_=>.bool
 | _,_,_,.str h1,h=>.str h
 | _,_,_,.nils,_=>.nils
 | _,_,_,.nilp,_=>.nilp
 | _,_,_,.nilf,_=>.nilf
 | _,_,_,.nilm,_=>.nilm
 | _,_,_,.slc0,_=>.slc0
 | _,_,_,.slc h1 h2 h3 h4 h5 h6,h=>.slc h.1 h2 h3 h4 h5 (RDs.relim h6 (eZ h.2))
 | _,_,_,.own h1 h2 h3 h4 h5 h6 h7,h=>.own h.1 h2 h3 h4 h5 h6 (RDs.relim h7 (eZ h.2))
 | _,_,_,.ptr h1 h2 h3,h=>.ptr h1 h2 (RDs.relim h3 h)
 | _,_,_,.any h1 h2,_=>.any h1 h2
theorem RDs.relim{L L0:Nat}{w:World}{ok:Nat→Prop}: ∀{ds b o F},RDs L w ok ds b o F→Ds.fact L0 ds→RDs L0 w ok ds b o F
 | _,_,_,_,.nil,_=>.nil
 | _,_,_,_,.cons h1 h2 h3,h=>.cons h1 (RD.relim h2 h.1) (RDs.relim h3 h.2)
end
theorem RMs.relim{L L0 w ok m m'}: ∀{xs vs},RMs L w ok m xs vs→xs.all Al.isD=true→Ms.fact L0 xs→RMs L0 w ok m' xs vs
 | _,_,.nil,_,_=>.nil
 | x::_,_,.cons a b,h,hf=>by
  simp only[List.all_cons,bD]at h
  refine .cons ?_ (RMs.relim b h.2 hf.2)
  cases a with
  | d a=>exact .d (a.relim hf.1)
  | _=>simp[Al.isD]at h
theorem RAs.relim{L L0 w ok m m'}: ∀{xs vs},RAs L w ok m xs vs→xs.all A.isD=true→As.fact L0 xs→RAs L0 w ok m' xs vs
 | _,_,.nil,_,_=>.nil
 | x :: _,_,.cons a b,h,hf=>by
  simp only[List.all_cons,bD]at h
  refine .cons ?_ (RAs.relim b h.2 hf.2)
  cases a with
  | c a=>
   cases a with
   | d a=>exact .c (.d (a.relim hf.1))
   | _=>simp[A.isD,Al.isD]at h
  | agg a=>exact .agg (RMs.relim a (by simpa[A.isD]using h.1) hf.1)
  | _=>simp[A.isD]at h
theorem tT{P:Program}{L L0 f:Nat}{ds:List A}{b:Bool}(hd:ds.all A.isD=true)(hf:As.fact L0 ds)(h:MC P L0 f ds [] (Plain (.c (.d (.bool b))))):MC P L f ds [] (Plain (.c (.d (.bool b)))):=by
 refine⟨h.1,fun w m F ok vs h0 h1 h2 h3 h4 h5=>?_⟩
 cases h1
 refine Calls.mono (h.2 w (fun _=>.nil) [] ok vs h0 .nil List.nodup_nil (fun b hb=>by cases hb) (fun _ _ _ _ h=>by cases h) (h5.relim hd hf)) fun e w' he=>?_
 cases e with
 | returned v=>
  obtain⟨res,H',m',F',⟨rfl,rfl⟩,p1,p2,p3,p4,p5,p6,p7⟩:=he
  cases p1
  refine⟨_,[],fun _=>.nil,[],⟨rfl,rfl⟩,.nil,List.nodup_nil,(fun b hb=>by cases hb),?_,p5,(fun l hl=>by cases hl),fun _ _ _ _ h=>by cases h⟩
  cases p4 with
  | c p4=>cases p4 with
   | d p4=>cases p4;exact .c (.d .bool)
 | _=>exact he.elim
end Go.Al
/- The abstract logic, vp 42: what a statement's premise reads, told as data. -/
namespace Go.Al

inductive Ty where
 | int (k:IntKind)
 | bool
 | str
 | slc (es:List Ty)
mutual
inductive Fits:Ty→D→Prop
 | int {k n}:Fits (.int k) (.int k n)
 | bool {b}:Fits .bool (.bool b)
 | str {s}:Fits .str (.str s)
 | slc {es xs}:FitsA es xs→Fits (.slc es) (.slc es.length xs)
inductive FitsL:List Ty→List D→Prop
 | nil:FitsL [] []
 | cons {t d ts ds}:Fits t d→FitsL ts ds→FitsL (t::ts) (d::ds)
inductive FitsA:List Ty→List (List D)→Prop
 | nil {es}:FitsA es []
 | cons {es e xs}:FitsL es e→FitsA es xs→FitsA es (e::xs)
end
theorem FitsL.length: ∀{ts ds},FitsL ts ds→ts.length=ds.length
 | _,_,.nil=>rfl
 | _,_,.cons _ h=>by simp[FitsL.length h]
theorem FitsL.append: ∀{ts ds},FitsL ts ds→∀{us es},FitsL us es→FitsL (ts++us) (ds++es)
 | _,_,.nil,_,_,h=>h
 | _,_,.cons a b,_,_,h=>.cons a (FitsL.append b h)
theorem FitsA.sizes{es:List Ty}: ∀{xs},FitsA es xs→∀e∈xs,e.length=es.length
 | _,.nil,e,h=>by cases h
 | _,.cons a b,e,h=>by
  rcases List.mem_cons.1 h with rfl|h
  exact a.length.symm
  exact FitsA.sizes b e h
mutual
inductive TyOf(P:Program):TypeId→List Ty→Prop
 | int {t k}:P.underlying t=some (.int k)→TyOf P t [.int k]
 | bool {t}:P.underlying t=some .bool→TyOf P t [.bool]
 | str {t}:P.underlying t=some .string→TyOf P t [.str]
 | slc {t e es}:P.underlying t=some (.slice e)→TyOf P e es→P.cellsOf e=es.length→0<es.length→TyOf P t [.slc es]
 | struct {t fs es}:P.underlying t=some (.struct fs)→FieldsAre P fs.toList es 0→P.cellsOf t=es.length→TyOf P t es
inductive FieldsAre(P:Program):List Field→List Ty→Nat→Prop
 | nil {o}:FieldsAre P [] [] o
 | cons {f fs es us o}:f.offset=o→P.cellsOf f.type=es.length→TyOf P f.type es→FieldsAre P fs us (o+es.length)→FieldsAre P (f::fs) (es++us) o
end
theorem iP{α β:Type}{f:α→Option β}: ∀{l:List α} {ys:List β},l.mapM f=some ys→l.length=ys.length∧∀(i:Nat) (x:α),l[i]? = some x→∃y:β,ys[i]? = some y∧f x=some y
 | [],ys,h=>by
  simp at h;subst h
  exact⟨Z,fun i x hx=>by simp at hx⟩
 | a :: l,ys,h=>by
  rw[List.mapM_cons]at h
  cases hx:f a with
  | none=>rw[hx]at h;cases h
  | some y=>
   rw[hx]at h
   cases hy:l.mapM f with
   | none=>rw[hy]at h;cases h
   | some zs=>
    rw[hy]at h
    obtain rfl:=Option.some.inj h
    obtain⟨h1,h2⟩:=iP hy
    refine⟨by simp[h1],fun i x hi=>?_⟩
    cases i with
    | zero=>simp at hi;subst hi;exact⟨y,rfl,hx⟩
    | succ i=>simpa using h2 i x (by simpa using hi)
theorem nA{w:World}{a:Addr}{n:Nat}{cs:List Value}(h:w.cells? 0 a n=some cs):cs.length=n∧∀j v,cs[j]? = some v→w.cell? (a.add j)=some v:=by
 unfold World.cells? at h
 rw[if_pos (co _)]at h
 obtain⟨h1,h2⟩:=iP h
 refine⟨by simpa using h1.symm,fun j v hj=>?_⟩
 have hlt:j<cs.length:=(List.getElem?_eq_some_iff.1 hj).1
 obtain⟨y,h3,h4⟩:=h2 j j (List.getElem?_range (by rw[List.length_range]at h1;omega))
 rw[hj]at h3
 cases h3
 exact h4
section
variable{H:Type}{enc:TypeId×Value→H}{P:Program}{w:World}{held:Bool}{sp:Nat→Bool}
abbrev okAll:Nat→Prop:=fun _=>True
theorem pA{b off c:Nat}{es:List Ty}(hc:es.length=c): ∀(m j:Nat),(∀i,j≤i→i<j+m→∃e,FitsL es e∧RDs maxLen w okAll e b (off+i*c) [])→∃xs,xs.length=m∧FitsA es xs∧RDs maxLen w okAll xs.flatten b (off+j*c) []
 | 0,j,_=>⟨[],rfl,.nil,.nil⟩
 | m+1,j,h=>by
  obtain⟨e,h1,h2⟩:=h j (cm _) (by omega)
  obtain⟨xs,h3,h4,h5⟩:=pA hc m (j+1) (fun i hi hj=>h i (by omega) (by omega))
  refine⟨e::xs,by simp[h3],.cons h1 h4,?_⟩
  rw[List.flatten_cons]
  have:=h2.append (F1:=[]) (F2:=[]) (es:=xs.flatten) (by rw[←h1.length,hc];rwa[Nat.add_mul,Nat.one_mul,←Nat.add_assoc]at h5)
  simpa using this
mutual
theorem open_ty: ∀{n:Nat} {t:TypeId} {es:List Ty} {cs:List Value} {x:DataW H×List MemPlace},TyOf P t es→DataW.trod enc P w 0 sp held n t cs=some x→∃ds,FitsL es ds∧RDL maxLen w okAll ds cs []
 | 0,t,es,cs,x,_,h=>by cases h
 | n + 1,t,_,cs,x,.int ht,h=>by
  simp only[DataW.trod,ht]at h
  split at h
  all_goals try (injections;done)
  all_goals try (cases h;done)
  rename_i k k' m e1
  split at h
  ·
   rename_i hw
   simp only[el,TypeDesc.int.injEq]at e1
   subst e1
   obtain⟨rfl,hw⟩:=hw
   refine⟨[.int _ m],.cons .int .nil,.cons (F1:=[]) (F2:=[]) ?_ .nil⟩
   simp only[Lit.wf,bD,decide_eq_true_eq]at hw
   exact .int hw.1 hw.2
  ·
   cases h
 | n+1,t,_,cs,x,.bool ht,h=>by
  simp only[DataW.trod,ht]at h
  split at h
  all_goals try (injections;done)
  all_goals try (cases h;done)
  rename_i b _
  exact⟨[.bool b],.cons .bool .nil,.cons (F1:=[]) (F2:=[]) .bool .nil⟩
 | n + 1,t,_,cs,x,.str ht,h=>by
  simp only[DataW.trod,ht]at h
  split at h
  all_goals try (injections;done)
  all_goals try (cases h;done)
  rename_i s _
  split at h
  ·
   rename_i hs
   exact⟨[.str s],.cons .str .nil,.cons (F1:=[]) (F2:=[]) (.str hs) .nil⟩
  ·
   cases h
 | n + 1, t,_,cs,x,.slc (e:=e) (es:=es) ht he hc hpos,h=>by
  have key: ∀(a:Addr) (len cap:Nat),cs=[.slice (some a) len cap]→len≤cap→cap≤maxLen→(∀i,i<len→∃vs y,w.cells? 0 (a.add (i*P.cellsOf e)) (P.cellsOf e)=some vs∧DataW.trod enc P w 0 sp held n e vs=some y)→
    ∃ds,FitsL [.slc es] ds∧RDL maxLen w okAll ds cs []:=by
   intro a len cap hcs h1 h2 h3
   subst hcs
   by_cases hl:len=0
   ·
    subst hl
    exact⟨[.slc es.length []],.cons (.slc .nil) .nil,.cons (F1:=[]) (F2:=[]) .slc0 .nil⟩
   ·
    have hat: ∀i vs,w.cells? 0 (a.add (i*P.cellsOf e)) (P.cellsOf e)=some vs→cw w a.block (a.off+i*es.length) vs:=by
     intro i vs hv j v hj
     obtain⟨h4,h5⟩:=nA hv
     have h6:=h5 j v hj
     have h7:=World.cell?_spot h6
     have h8:(a.add (i*P.cellsOf e)).add j=⟨a.block,a.off+i*es.length+j,none⟩:=by
      rw[hc]at h7 ⊢
      obtain⟨b,o,s⟩:=a
      unfold Addr.add at h7 ⊢
      by_cases hi:i*es.length=0
      ·
       by_cases hjz:j=0
       ·
        subst hjz
        simp only[hi,if_true]at h7 ⊢
        simp[h7]
       ·
        simp[hi,hjz]
      ·
       by_cases hjz:j=0
       ·
        subst hjz;simp[hi]
       ·
        simp[hi,hjz]
     rwa[h8]at h6
    have h4: ∀i,0≤i→i<0+len→∃e',FitsL es e'∧RDs maxLen w okAll e' a.block (a.off+i*es.length) []:=by
     intro i _ hi
     obtain⟨vs,y,h5,h6⟩:=h3 i (by omega)
     obtain⟨ds,h7,h8⟩:=open_ty he h6
     exact⟨ds,h7,h8.at (hat i vs h5)⟩
    obtain⟨xs,h5,h6,h7⟩:=pA (w:=w) (b:=a.block) (off:=a.off) (es:=es) rfl len 0 h4
    obtain⟨vs,y,h8,h9⟩:=h3 0 (by omega)
    obtain⟨h10,h11⟩:=nA h8
    have hspot:a.spot=none:=by
     have h12:=h11 0 vs[0] (List.getElem?_eq_getElem (by omega))
     have h13:=World.cell?_spot h12
     simpa[Addr.add]using h13
    have hblk:a.block<w.heap.size:=by
     have h12:=hat 0 vs h8 0 vs[0] (List.getElem?_eq_getElem (by omega))
     have h14:(⟨a.block,a.off+0*es.length+0,none⟩:Addr).block<w.heap.size:=block_lt_of_cell h12
     exact h14
    refine⟨[.slc es.length xs],.cons (.slc h6) .nil,.cons (F1:=[]) (F2:=[]) ?_ .nil⟩
    obtain⟨b,o,s⟩:=a
    simp only at hspot;subst hspot
    have h14:=RD.slc (L:=maxLen) (w:=w) (ok:=okAll) (sz:=es.length) (xs:=xs) (b:=b) (off:=o) (cap:=cap) (by omega) (by omega) h6.sizes trivial hblk (by rwa[Nat.zero_mul,Nat.add_zero]at h7)
    rwa[h5]at h14
  simp only[DataW.trod,ht]at h
  split at h
  all_goals try (injections;done)
  all_goals try (cases h;done)
  ·
   exact⟨[.slc es.length []],.cons (.slc .nil) .nil,.cons (F1:=[]) (F2:=[]) .slc0 .nil⟩
  ·
   rename_i e' a len cap e1
   simp only[el,TypeDesc.slice.injEq]at e1
   subst e1
   split at h
   ·
    rename_i hcond
    simp only[Option.bind_eq_some_iff]at h
    obtain⟨elems,h1,_⟩:=h
    obtain⟨_,h2⟩:=iP h1
    refine key a len cap Z hcond.2.1 hcond.2.2 (fun i hi=>?_)
    obtain⟨y,_,h3⟩:=h2 i i (by simp[hi])
    simp only[Option.bind_eq_some_iff]at h3
    obtain⟨vs,h4,h5⟩:=h3
    exact⟨vs,y,h4,h5⟩
   ·
    cases h
 | n + 1,t,es,cs,x,.struct (fs:=fs) ht hf hc,h=>by
  have h':(if cs.length=P.cellsOf t then(fs.toList.mapM fun f=>DataW.trod enc P w 0 sp held n f.type ((cs.drop f.offset).take (P.cellsOf f.type))).map fun xs=>(DataW.agg (xs.map (·.1)),xs.flatMap (·.2))else none)=some x:=by
   simpa only[DataW.trod,ht]using h
  replace h:=h'
  split at h
  ·
   rename_i hlen
   simp only[Option.map_eq_some_iff]at h
   obtain⟨ys,h1,_⟩:=h
   obtain⟨_,h2⟩:=iP h1
   obtain⟨ds,h3,h4⟩:=jF (n:=n) (cs:=cs) hf (fun f hf'=>by
    obtain⟨i,hi⟩:=List.getElem?_of_mem hf'
    obtain⟨y,_,h3⟩:=h2 i f hi
    exact⟨y,h3⟩) (by rw[Nat.zero_add,←hc,hlen];exact cm _)
   refine⟨ds,h3,?_⟩
   rw[List.drop_zero,List.take_of_length_le (by omega)]at h4
   exact h4
  ·
   cases h
theorem jF: ∀{n:Nat} {fs:List Field} {es:List Ty} {o:Nat} {cs:List Value},FieldsAre P fs es o→(∀f∈fs,∃y,DataW.trod enc P w 0 sp held n f.type ((cs.drop f.offset).take (P.cellsOf f.type))=some y)→o+es.length≤cs.length→
  ∃ds,FitsL es ds∧RDL maxLen w okAll ds ((cs.drop o).take es.length) []
 | n,[],_,o,cs,.nil,_,_=>⟨[],.nil,by simp;exact .nil⟩
 | n,f::fs,_,o,cs,.cons (es:=es) (us:=us) ho hc hty hr,h,hl=>by
  obtain⟨y,hy⟩:=h f (by simp)
  obtain⟨ds1,h1,h2⟩:=open_ty hty hy
  rw[cG]at hl
  obtain⟨ds2,h3,h4⟩:=jF (cs:=cs) hr (fun g hg=>h g (by simp[hg])) (by omega)
  refine⟨ds1++ds2,h1.append h3,?_⟩
  rw[hc,ho]at h2
  have h5:=h2.append h4
  have h6:(cs.drop o).take (es++us).length=(cs.drop o).take es.length++(cs.drop (o+es.length)).take us.length:=by
   rw[cG,List.take_add,List.drop_drop]
  rw[h6]
  simpa using h5
end
end
end Go.Al
/- The abstract logic, vp 43: maps with whole numbers as keys. -/
namespace Go.Al

abbrev mN(es:List (Int×D)):B:=.map (es.map fun p=>(.int .i64 p.1,p.2))
def fc:List (Int×D)→Int→Option D
 | [],_=>none
 | (j,x)::r,k=>if k=j then some x else fc r k
def jb:List (Int×D)→Int→D→List (Int×D)
 | [],k,x=>[(k,x)]
 | (j,y)::r,k,x=>if k=j then(k,x)::r else(j,y)::jb r k x

section
variable{L:Nat}{w:World}{ok:Nat→Prop}
theorem REs.find{q:IntKind}{k:Int}: ∀{es:List (Int×D)} {l:List MapEntry} {i:Nat},REs L w ok (es.map fun p=>(.int .i64 p.1,p.2)) l→
  (fc es k=none∧Instr.findNow (.int q) (.int .i64 k) l i=some none∧∀x,jb es k x=es++[(k,x)])∨
  ∃d j e,fc es k=some d∧Instr.findNow (.int q) (.int .i64 k) l i=some (some (i+j,e.val))∧l[j]? = some e∧e.key= .int .i64 k∧RD L w ok d e.val []∧∀x,jb es k x=es.set j (k,x)
 | [],_,i,.nil=>.inl ⟨rfl,rfl,fun _=>rfl⟩
 | (j,y)::es,_,i,.cons (e:=e) (l:=l) h1 h2 h3=>by
  obtain⟨ek,ev,eb⟩:=e
  simp only at h1 h2
  cases h1
  by_cases hk:k=j
  subst hk
  exact .inr ⟨y,0,_,by simp[fc],by simp[Instr.findNow,Instr.sameNow],Z,Z,h2,fun x=>by simp[jb]⟩
  have hb:(k==j)=false:=by simpa using hk
  rcases REs.find (q:=q) (k:=k) (i:=i+1) h3 with⟨h4,h5,h6⟩|⟨d,m,e,h4,h5,h6,h7,h8,h9⟩
  exact .inl ⟨by simp[fc,hk,h4],by simp[Instr.findNow,Instr.sameNow,hb,h5],fun x=>by simp[jb,hk,h6]⟩
  exact .inr ⟨d,m+1,e,by simp[fc,hk,h4],by simp[Instr.findNow,Instr.sameNow,hb,h5];omega,by simpa using h6,h7,h8,fun x=>by simp[jb,hk,h9]⟩
theorem lG{α:Type}{f:α→α}: ∀{l:List α} {j:Nat} {x:α},l[j]? = some x→l.modify j f=l.set j (f x)
 | [],j,x,h=>by simp at h
 | y::l,0,x,h=>by simp at h;subst h;simp
 | y::l,j+1,x,h=>by simp[lG (l:=l) (j:=j) (x:=x) (f:=f) (by simpa using h)]
theorem REs.append{es:List (D×D)}{l:List MapEntry}{es' l'}(h:REs L w ok es l)(h':REs L w ok es' l'):REs L w ok (es++es') (l++l'):=by
 induction h with
 | nil=>exact h'
 | cons h1 h2 _ ih=>exact .cons h1 h2 ih
theorem REs.set: ∀{es:List (D×D)} {l:List MapEntry} {j:Nat} {k x:D} {e:MapEntry},REs L w ok es l→RD L w ok k e.key []→RD L w ok x e.val []→REs L w ok (es.set j (k,x)) (l.set j e)
 | _,_,_,_,_,_,.nil,_,_=>.nil
 | _,_,0,_,_,_,.cons h1 h2 h3,a,b=>.cons a b h3
 | _,_,j+1,_,_,_,.cons h1 h2 h3,a,b=>.cons h1 h2 (REs.set h3 a b)
end

section
variable{σ:Sg}{o:Oper}{s s':St}{e:List (Nat×A)}{H:List (Nat×B)}{d:Nat}
theorem HS.makeMap(hσ:SgOk σ){t:Nat}(ho:o.op= .makeMap t none)(hd:o.dst=some d)(hf:St.fresh ⟨e,H⟩ σ d=true)(hn:Nat.blt d σ.nt=true) :
  HS σ ⟨e,H⟩ o ⟨(d,.c (.mp d))::e,ins H d (mN [])⟩:=fun Γ eq m F a w hR=>by
 subst eq
 obtain⟨hf1,hf2⟩:=bo hf
 have hf3:=hf1
 simp only[St.free,bD,Option.isNone_iff_eq_none]at hf3
 have h1:=(hR.to1.rebase hf1 hf2 (.mp w.heap.size)).alloc (.map #[] 0)
 refine .inl ⟨.map (some w.heap.size),w.alloc (.map #[] 0),?_,?_⟩
 simp[execOp,ho,Instr.makeMap,newObj,Sem.run]
 rw[hd]
 have hB:RB Γ.L (w.alloc (.map #[] 0)) (Γ.ok (w.heap.size::F)) (fM m d (.mp w.heap.size)) (mN []) (fM m d (.mp w.heap.size) d) [w.heap.size]:=by
  rw[bV]
  exact .map (iT w _) .nil
 have h2:=Rel1.back (E1:=[w.heap.size]) (E2:=[]) h1 hf3.1 hB (fun e=>absurd e hf2)
 have h3:=h2.put (x:=.map (some w.heap.size)) (.c (.mp (bV _ _ _))) (s':=⟨(d,.c (.mp d))::e,ins H d (mN [])⟩) (dst:=some d) (by simp[Al.put,hn])
 obtain⟨F',h4,_⟩:=h3.to0 (fun l b cap sz hl=>by
  have h5:l≠d:=fun e=>by subst e;rw[bV]at hl;cases hl
  rw[bj h5]at hl
  simp only[dn,if_neg (Ne.symm h5)]
  exact hR.dom l b cap sz hl)
 exact⟨_,F',h4⟩
theorem HS.mapUpdate(hσ:SgOk σ){t kt et l:Nat}{q:IntKind}{x y z:Operand}{es:List (Int×D)}{k:Int}{v:D}(ho:o.op= .mapUpdate t x y z)(hs1:Operand.short x=true)(hs2:Operand.short y=true)(hs3:Operand.short z=true)
  (hu:σ.P.underlying t=some (.map kt et)) (hk:σ.P.underlying kt=some (.int q))
  (hx:ev ⟨e,H⟩ x=some (.c (.mp l))) (hl:lk H l=some (mN es)) (hy:ev ⟨e,H⟩ y=some (.c (.d (.int .i64 k)))) (hv:ev ⟨e,H⟩ z=some (.c (.d v))) (hd:o.dst=none) :
  HS σ ⟨e,H⟩ o ⟨e,ins (dG H l) l (mN (jb es k v))⟩:=fun Γ eq m F a w hR=>by
 subst eq
 have hp:=hR.ev hσ.lo hs1 hx
 have hq:=hR.ev hσ.lo hs2 hy
 have hr:=hR.ev hσ.lo hs3 hv
 obtain⟨Fl,G,hB,hR1⟩:=hR.to1.take hl
 generalize ex:a.eval x=px at hp
 generalize ey:a.eval y=py at hq
 generalize ez:a.eval z=pz at hr
 cases hr with
 | c hr => cases hr with
  | d hr =>
   cases hp with
   | c hp => cases hp with
    | @mp _ b hm=>
     rw[hm]at hB
     cases hq with
     | c hq => cases hq with
      | d hq =>
       cases hq with
       | int hq1 hq2=>
       cases hB with
       | @map _ _ bO c h1 h2=>
        have hck: ∀e,(Instr.checkKey e 10000 kt (.int .i64 k)).run Γ.P w= .ok () w:=fun e=>by
         rw[show(10000:Nat)=9999+1 from Z]
         unfold Instr.checkKey
         simp[run_underlying hk]
        have key: ∃arr' c',(Instr.mapUpdate t (.map (some b)) (.int .i64 k) pz).run Γ.P w= .ok () {w with heap:=w.heap.setIfInBounds b (.map arr' c')}∧REs Γ.L w (Γ.ok F) ((jb es k v).map fun p=>(.int .i64 p.1,p.2)) arr'.toList:=by
         rcases h2.find (q:=q) (k:=k) (i:=0)with⟨h3,h4,h5⟩|⟨dd,j,en,h3,h4,h5,h6,h7,h8⟩
         ·
          refine⟨bO.push ⟨.int .i64 k,pz,c⟩,c+1,?_,?_⟩
          ·
           simp[Instr.mapUpdate,run_underlying hu,MapKept.run_getObj_map h1,hck,MapKept.run_findKey hk h4,MapKept.run_setObj_map _ h1]
          ·
           rw[h5,List.map_append,Array.toList_push]
           exact h2.append (.cons (.int hq1 hq2) hr .nil)
         ·
          refine⟨bO.modify j fun e=>{e with key:=.int .i64 k,val:=pz},c,?_,?_⟩
          ·
           have h5':bO[j]? = some en:=by simpa using h5
           have hst:(Instr.keyThatStays (.int .i64 k) (.int .i64 k)).run Γ.P w= .ok (.int .i64 k) w:=by
            simp[Instr.keyThatStays,Instr.sameBits]
           simp only[Nat.zero_add]at h4
           simp[Instr.mapUpdate,run_underlying hu,MapKept.run_getObj_map h1,hck,MapKept.run_findKey hk h4,h5',h6,hst,MapKept.run_setObj_map _ h1]
          ·
           rw[h8,List.map_set,Array.toList_modify,lG h5]
           exact h2.set (.int hq1 hq2) hr
        obtain⟨arr',c',hrun,hes⟩:=key
        have hblt:b<w.heap.size:=(Array.getElem?_eq_some_iff.1 h1).1
        have hother: ∀b',b'≠b→Same w {w with heap:=w.heap.setIfInBounds b (.map arr' c')} b':=fun b' hb'=>by
         show(w.heap.setIfInBounds b _)[b']? = w.heap[b']?
         rw[Array.getElem?_setIfInBounds,if_neg (Ne.symm hb')]
        refine .inr ⟨{w with heap:=w.heap.setIfInBounds b (.map arr' c')},by simp only[execOp,ho,ex,ey,ez,Sem.run_bind,hrun,Result.andThen_ok,Sem.run_pure],?_⟩
        have hD:Dom m ⟨e,dG H l⟩:=fun k b' cap sz hk=>by
         have hne:l≠k:=fun e'=>by subst e';rw[hm]at hk;cases hk
         have:=hR.dom k b' cap sz hk
         simp only[cW,if_neg hne];exact this
        have hw:=Rel1.write hR1 (w':={w with heap:=w.heap.setIfInBounds b (.map arr' c')}) rfl rfl rfl (by simp) (fun b' hb'=>hother b' (fun e'=>hb' (by subst e';simp)))
         (fun k b' cap sz i' j' x' n c hb' hk _=>absurd hb' (hR1.notE (hD k b' cap sz hk) hk))
        have hkp:Keep w {w with heap:=w.heap.setIfInBounds b (.map arr' c')} (Γ.ok F) (Γ.ok F):=⟨by simp,fun b' _ hok=>⟨hok,hother b' (fun e'=>hok.1 (by
         subst e'
         obtain⟨FH,g1,g2⟩:=hR1.H
         exact g2.mem_iff.2 (by simp)))⟩⟩
        have hB':RB Γ.L {w with heap:=w.heap.setIfInBounds b (.map arr' c')} (Γ.ok F) m (mN (jb es k v)) (m l) [b]:=by
         rw[hm]
         refine .map (bO:=arr') (c:=c') ?_ (hes.mono hkp.imm hkp.size)
         show(w.heap.setIfInBounds b _)[b]? = _
         rw[Array.getElem?_setIfInBounds,if_pos Z,if_pos hblt]
        have:=Rel1.back (E1:=[b]) (E2:=G++[]) (l:=l) hw (by simp[cW]) hB' (fun hi=>hR.keep l hi (by simp[hl]))
        rw[hd]
        refine Rel1.toRel (m:=m) (F:=F) (E:=G++[]) ?_ ?_
        ·
         exact⟨this.H,this.nodup,this.lt,this.own,this.env,this.size,this.defers,this.frame,this.keep⟩
        ·
         intro k b' cap sz hk
         have:=hD k b' cap sz hk
         have hne:l≠k:=fun e'=>by subst e';rw[hm]at hk;cases hk
         simp only[dn,if_neg hne];exact this
end
end Go.Al
/- The abstract logic, vp 44: answers told as data; calls that answer data in regions of open order; all blocks let go as data. -/
namespace Go.Al

inductive VR(H:List (Nat×B)):A→A→Prop
 | v {x y}:VA H x y→VR H x y
 | tup {xs ys}:VAs H xs ys→VR H (.tup xs) (.tup ys)
 | junk {x}:VR H x .junk
theorem RA.viewR{L w ok okc m m' H F}(hH:RH L w ok m H F)(h1: ∀b,ok b→okc b)(h2: ∀b∈F,okc b){x y v}(h:RA L w ok m x v)(hv:VR H x y):RA L w okc m' y v:=by
 cases hv with
 | v hv=>exact h.view hH h1 h2 hv
 | tup hv=>cases h with|tup h=>exact .tup (RAs.view hH h1 h2 h hv)
 | junk=>exact .junk
theorem MC.data{P:Program}{L f:Nat}{args:List A}{Hin:List (Nat×B)}{v:A}(h:MC P L f args Hin (fun r H=>VR H r v)):MC P L f args Hin (Plain v):=by
 refine⟨h.1,fun w m F ok vs h0 h1 h2 h3 h4 h5=>Calls.mono (h.2 w m F ok vs h0 h1 h2 h3 h4 h5) fun e w' he=>?_⟩
 cases e with
 | returned u=>
  obtain⟨r,H',m',F',hv,a1,a2,a3,a4,a5,a6,a7⟩:=he
  exact⟨v,[],fun _=>.nil,[],⟨rfl,rfl⟩,.nil,List.nodup_nil,fun b hb=>(by cases hb),a4.viewR a1 (fun b hb=>⟨by simp,hb.2⟩) (fun b hb=>⟨by simp,.inr (a3 b hb)⟩) hv,a5,fun l _ hl=>by simp[aU]at hl,fun l b cap sz hl=>by cases hl⟩
 | _=>exact he
theorem MC.frozen{P:Program}{L f:Nat}{args:List A}{R v:A}{bs:List B}(h:MC P L f args [] (Rows R bs))(hv:VR (cM 0 bs) R v):MC P L f args [] (Plain v):=
 MC.data (h.mono fun r H hr=>by obtain⟨rfl,rfl⟩:=hr;exact hv)

section
variable{σ:Sg}{Q:b0}{all:Array Oper}{o:Oper}{rest:List Oper}{c:Call}{fx:Operand}{f:Nat}{caps:List M}{as ds:List A}{e e' E W:List (Nat×A)}{H:List (Nat×B)}{d:Nat}{v:A}
theorem oP(hσ:SgOk σ)(hop:o.op= .call c)(hc:c.callee= .value fx)(hf:ev ⟨e,H⟩ fx=some (.c (.fn f caps)))(has:iv ⟨e,H⟩ c.args.toList=some as)(hM:MC σ.P σ.L f ds [] (Plain v))(hv:VAs [] (as++caps.map .c) ds)
  (hs:Al.Oper.shorts o=true) (hd:o.dst=some d) (hn:Nat.blt d σ.nt=true) {B0:Nat} (hu:(St.under B0 ⟨e,H⟩&&bz B0 σ.ins)=true) (hr:v.ren B0=v):Stp σ ⟨e,H⟩ o ⟨(d,v)::e,H⟩:=fun Γ eq a w hR K Q hK=>by
 subst eq
 obtain⟨m,F,hR0⟩:=hR
 simp only[bD]at hu
 obtain⟨cs,h1,h2⟩:=dL hσ hR0 hσ.lo hop hc hf has hs
 simp only[Oper.wp,eP hM.1 hop hc h1,Oper.upon]
 refine Calls.mono (hR0.shown hM hv h2 hu.1 hu.2) fun en w' he=>?_
 cases en with
 | returned u=>
  obtain⟨res,H',⟨rfl,rfl⟩,m',F',h8,h9⟩:=he
  rw[fP,List.append_nil]at h8
  rw[hr]at h9
  exact hK _ _ ⟨m',F',h8.put h9 (by simp[Al.put,hd,hn])⟩
 | _=>exact he.elim
theorem fX{B0:Nat}(hσ:SgOk σ)(hop:o.op= .call c)(hc:c.callee= .value fx)(hf:ev ⟨E,H⟩ fx=some (.c (.fn f caps)))(has:iv ⟨E,H⟩ c.args.toList=some as)(hM:MC σ.P σ.L f ds [] (Plain v))(hv:VAs [] (as++caps.map .c) ds)(hr:v.ren B0=v)
  (hs:Al.Oper.shorts o=true) (hd:o.dst=some d) (hn:Nat.blt d σ.nt=true) (hu:(St.under B0 ⟨W,H⟩&&bz B0 σ.ins)=true):Eff σ E W H o v H:=fun e hW hE=>by
 have hu':(St.under B0 ⟨e,H⟩&&bz B0 σ.ins)=true:=by
  simp only[St.under,bD]at hu ⊢
  exact⟨⟨dy hW hu.1.1,hu.1.2⟩,hu.2⟩
 have:=oP hσ hop hc (cX hE hf) (iF hE has) hM hv hs hd hn hu' hr
 simpa[aZ,hd]using this
theorem gu{x y:Operand}{t tx:Nat}{i it ti:TI}{l n:Nat}{u v:A}{own:Bool}{xs ys zs:List (List D)}(hσ:SgOk σ)(ho:o.op= .call c)(hb:c.callee= .builtin .append)(ha:c.args.toList=[x,y])(hat:c.argTypes.toList=[t,tx])(hs1:Operand.short x=true)(hs2:Operand.short y=true)(hx:ev ⟨E,H⟩ x=some u)(hy:ev ⟨E,H⟩ y=some v)
  (ht:lk σ.tt t=some i) (hk:Nat.beq i.kind 1=true) (htx:lk σ.tt tx=some it) (hkx:Nat.beq it.kind 1=true) (he:lk σ.tt i.elem=some ti) (hze:Nat.beq ti.zero.length ti.size=true) (hd:o.dst=some d) (hn:Nat.blt d σ.nt=true)
  (hT:Tgt H own ti.size u xs (some l)) (hF:Feed H own ti.size v ys) (hys: ∀x∈ys,x.length=ti.size) (hf:St.fresh (St.let ⟨W,H⟩ (some l)) σ d=true) (hL:xs.length+ys.length≤σ.L) (hbb:(xs.length+ys.length)*ti.bytes≤140737488355328) (hzs:xs++ys=zs) (hnn:zs.length=n)
  {H':List (Nat×B)} (hH':H'=ins (b9 l H) d (.row own ti.size zs)):gV σ E W H [l] o (.c (.rs d 0 n)) H':=fun e hW hE=>by
 subst hH'
 have hfe:St.fresh (St.let ⟨e,H⟩ (some l)) σ d=true:=
  de (e:=bR l e) (e':=bR l W) (H:=b9 l H) (cz hW) hf
 have:=Stp.heap (iq hσ ho hb ha hat hs1 hs2 (cX hE hx) (cX hE hy) ht hk htx hkx he hze hd hn hT hF hys hfe hL hbb hzs hnn)
 simpa[aZ,hd,aJ,St.purge,St.let]using this
inductive VE(H:List (Nat×B))(e:List (Nat×A)):List (Nat×A)→Prop
 | nil:VE H e []
 | cons {t u v r}:lk e t=some u→VR H u v→VE H e r→VE H e ((t,v)::r)
theorem jT(t l sz:Nat)(own:Bool)(ht:lk e t=some (.c (.d .nils)))(hf:St.fresh ⟨e,H⟩ σ l=true):Ent σ ⟨e,H⟩ ⟨(t,.c (.rs l 0 0))::e,ins H l (.row own sz [])⟩:=fun Γ eq a w hR=>by
 subst eq
 obtain⟨m,F,hR0⟩:=hR
 obtain⟨h1,h2⟩:=bo hf
 have h3:=Rel1.give (E1:=[]) (E2:=[]) (loc:=.nil) (blk:=.row own sz []) hR0.to1 h1 h2 .nil
 have hd:=Dom.ins (s:=⟨e,H⟩) hR0.dom l .nil (.row own sz []) e
 refine Rel1.toRel (m:=fM m l .nil) (F:=F) (E:=[]) ⟨h3.H,h3.nodup,h3.lt,h3.own,fun k v hv=>?_,h3.size,h3.defers,h3.frame,h3.keep⟩ hd
 rw[aw]at hv
 split at hv
 rename_i ek
 subst ek
 simp only[el]at hv
 subst hv
 have:=h3.env t _ ht
 generalize a.tmps.getD t undef=p at this
 cases this with
 | c this=>cases this with
  | d this=>cases this;exact .c (.rsNil (bV _ _ _))
 exact h3.env k v hv
end
theorem Val.cast{σ:Sg}{s:St}{o:Oper}{v v':A}(h:Val σ s o v)(e:v=v'):Val σ s o v':=e ▸ h
theorem ax{σ:Sg}{s:St}{o:Oper}(hσ:SgOk σ){t:Nat}{x y:Operand}{sz:Nat}{xs:List (List D)}{k:IntKind}{n:Nat}{e:List D}{i j:TI}(ho:o.op= .indexAddr t x y)(hs:Al.Oper.shorts o=true)(hx:ev s x=some (.c (.d (.slc sz xs))))(hy:ev s y=some (.c (.d (.int k (n:Int)))))
  (ht:lk σ.tt t=some i) (hk:Nat.beq i.kind 1=true) (hj:lk σ.tt i.elem=some j) (hz:Nat.beq sz j.size=true) (he:xs[n]? = some e):Val σ s o (.c (.d (.ptr e 0))):=
 im hσ ho hs hx hy ht hk hj hz (Int.natCast_nonneg n) he
theorem bJ{α β:Type}[Inhabited α]{l:List α}{f:α→β}{n:Nat}(h:n<l.length):(l.map f)[n]? = some (f (l.getD n default)):=by simp[h]
theorem vd{σ:Sg}{s:St}{o:Oper}(hσ:SgOk σ){x y:Operand}{a b:Int}{t yt:Nat}(ho:o.op= .binOp .quo t x y yt)(hs:Al.Oper.shorts o=true)(hx:ev s x=some (.c (.d (.int .i64 a))))(hy:ev s y=some (.c (.d (.int .i64 b))))(hb:b≠0)
  (h1: -9223372036854775808≤a.tdiv b) (h2:a.tdiv b≤9223372036854775807):Val σ s o (.c (.d (.int .i64 (a.tdiv b)))):=
 aL hσ (by simp[fd,ho,hx,hy,lj,rb,hb]) hs h1 h2
theorem vc{σ:Sg}{s:St}{o:Oper}(hσ:SgOk σ){x y:Operand}{a b:Int}{t yt:Nat}(ho:o.op= .binOp .rem t x y yt)(hs:Al.Oper.shorts o=true)(hx:ev s x=some (.c (.d (.int .i64 a))))(hy:ev s y=some (.c (.d (.int .i64 b))))(hb:b≠0)
  (h1: -9223372036854775808≤a.tmod b) (h2:a.tmod b≤9223372036854775807):Val σ s o (.c (.d (.int .i64 (a.tmod b)))):=
 aL hσ (by simp[fd,ho,hx,hy,lj,rb,hb]) hs h1 h2
theorem nL{Γ m F s a w}(htt:TTok Γ.P Γ.tt)(hL:4096≤Γ.L)(hR:Rel0 Γ m F s a w){d t n:Nat}{i e:TI}{es:List (List M)}{xs:List (List D)}{parts:List (Nat×Operand)}(hs:parts.all (fun x=>Al.Operand.short x.2)=true){s':St}
  (hi:lk Γ.tt t=some i) (hk:Nat.beq i.kind 1=true) (he:lk Γ.tt i.elem=some e) (hes:dr 0 (parts.map fun x=>(x.1,ev s x.2))=some es) (hpl:eD es=some xs) (hc:(Nat.beq es.length n&&sizes e.size es&&Nat.ble n 4096&&Nat.ble (n*e.size) 16777216)=true)
  (hfr:s.fresh Γ.toSg d=true) (h:put Γ.nt ⟨s.env,ins s.H d (.row false e.size xs)⟩ (some d) (.c (.rs d 0 n))=some s'): ∃x w',(Instr.buildSlice t n (parts.map fun x=>(x.1,a.eval x.2)).toArray).run Γ.P w= .ok x w'∧fz Γ s' (a.put (some d) x) w':=by
 have hu:=(htt.get hi).isSlice (tN.1 hk)
 simp only[bD]at hc
 obtain⟨⟨⟨hc1,hc2⟩,hc3⟩,hc4⟩:=hc
 have hn:=tN.1 hc1
 have h4:n≤4096:=Nat.le_of_ble_eq_true hc3
 have h5:n*e.size≤16777216:=Nat.le_of_ble_eq_true hc4
 obtain⟨x,hx,hsz,hby,z,hzz,hzl⟩:=(htt.get he).info
 -- what the machine does
 have hsize0:(((Array.range (n*e.size)).map (fun k=>(if n*e.size=0 then #[]else z.cells)[k%(if n*e.size=0 then #[]else z.cells).size]!)):Array Value).size=n*e.size:=by simp
 obtain⟨vs,arr',h6,h7,h8⟩:=gp (k:=0) (bO:=(Array.range (n*e.size)).map (fun k=>(if n*e.size=0 then #[]else z.cells)[k%(if n*e.size=0 then #[]else z.cells).size]!))
  (RParts.of hL hR parts hs) hes hc2 (by rw[hsize0,Nat.zero_add,hn];exact cm _)
 have hdrop:((Array.range (n*e.size)).map (fun k=>(if n*e.size=0 then #[]else z.cells)[k%(if n*e.size=0 then #[]else z.cells).size]!)).toList.drop ((0+es.length)*e.size)=[]:=by
  apply List.drop_eq_nil_of_le
  rw[Array.length_toList,hsize0,Nat.zero_add,hn];exact cm _
 rw[hdrop]at h7
 simp only[Nat.zero_mul,List.take_zero,List.nil_append,List.append_nil]at h7
 have hrun:(Instr.buildSlice t n (parts.map fun x=>(x.1,a.eval x.2)).toArray).run Γ.P w= .ok (.slice (some ⟨w.heap.size,0,none⟩) n n) (w.alloc (.cells arr' i.elem)):=by
  have h6':Instr.fill (fun i=>some (i*e.size,e.size)) ((Array.range (n*e.size)).map (fun k=>(if n*e.size=0 then #[]else z.cells)[k%(if n*e.size=0 then #[]else z.cells).size]!)) (parts.map fun x=>(x.1,a.eval x.2))=some arr':=h6
  unfold Instr.buildSlice
  have hng: ¬2^24<n*e.size:=by omega
  by_cases h0:n*e.size=0
  simp only[h0,if_true]at h6'
  simp[run_underlying hu,(htt.get he).run_sizeOf,h0,newRow,newObj,Sem.run]
  simp at h6'
  rw[h6']
  simp[newRow,newObj,Sem.run]
  simp only[h0,if_false]at h6'
  simp[run_underlying hu,(htt.get he).run_sizeOf,h0,hng,zeroValue,typeInfo,hx,hzz]
  rw[h6']
  simp[newRow,newObj,Sem.run]
 have hlen:vs.length=n*e.size:=by
  have q:=h8.length
  rw[←q,hY hc2,hn]
 have harr: ∀(j:Nat) v,vs[j]? = some v→arr'[j]? = some v:=fun j v hj=>by rw[←h7]at hj;simpa using hj
 have hcap:n*e.size≤arr'.size:=by rw[←Array.length_toList,h7,hlen];exact cm _
 have hmax:n≤maxLen:=by unfold maxLen;omega
 obtain⟨h9,h10⟩:=fY hpl
 have h11:=eG h8 h9
 have hxl:xs.length=n:=by
  have:=congrArg List.length h10
  simpa[hn]using this
 have hxe: ∀e'∈xs,e'.length=e.size:=fun e' he'=>gD hc2 _ (h10 ▸ List.mem_map.2 ⟨e',he',rfl⟩)
 refine⟨_,_,hrun,?_⟩
 have:=Rel1.newRow (Fd:=[]) (E:=[]) (T:=i.elem) (bO:=arr') (cap:=n) hR.to1 hR.dom hfr (own:=false) (h11.mono (fun b _ hb=>⟨⟨rfl,hb⟩,rfl⟩) (cm _) (fun _ _=>rfl)) (by simp) (by omega) (by omega) hxe harr hcap hmax (by rw[hxl];exact h)
 rwa[hxl]at this
theorem ch{σ:Sg}{o:Oper}{e0:List (Nat×A)}{H:List (Nat×B)}(hσ:SgOk σ){d t n:Nat}{i e:TI}{es:List (List M)}{xs:List (List D)}{parts:Array (Nat×Operand)}(ho:o.op= .buildSlice t n parts)(hs:parts.toList.all (fun x=>Al.Operand.short x.2)=true)
  (hi:lk σ.tt t=some i) (hk:Nat.beq i.kind 1=true) (he:lk σ.tt i.elem=some e) (hes:dr 0 (parts.toList.map fun x=>(x.1,ev ⟨e0,H⟩ x.2))=some es) (hpl:eD es=some xs) (hc:(Nat.beq es.length n&&sizes e.size es&&Nat.ble n 4096&&Nat.ble (n*e.size) 16777216)=true)
  (hd:o.dst=some d) (hfr:St.fresh ⟨e0,H⟩ σ d=true) (hn:Nat.blt d σ.nt=true):HS σ ⟨e0,H⟩ o ⟨(d,.c (.rs d 0 n))::e0,ins H d (.row false e.size xs)⟩:=fun Γ eq m F a w hR=>by
 subst eq
 obtain⟨x,w',h1,h2⟩:=nL hσ.tt hσ.lo hR hs hi hk he hes hpl hc hfr (s':=⟨(d,.c (.rs d 0 n))::e0,ins H d (.row false e.size xs)⟩) (by simp[Al.put,hn])
 refine .inl ⟨x,w',?_,by rw[hd];exact h2⟩
 have:(parts.map fun x=>(x.1,a.eval x.2))=(parts.toList.map fun x=>(x.1,a.eval x.2)).toArray:=by
  apply Array.ext';simp
 simp only[execOp,ho]
 rw[show(parts.map fun(i,x)=>(i,a.eval x))=(parts.toList.map fun x=>(x.1,a.eval x.2)).toArray from this]
 simp[h1]
theorem nG{σ:Sg}{o:Oper}{E W:List (Nat×A)}{H:List (Nat×B)}(hσ:SgOk σ){d t:Nat}{i e:TI}{ms:List M}{x:List D}{y:Operand}{v:A}{parts:Array (Nat×Operand)}(ho:o.op= .buildSlice t 1 parts)(hp:parts.toList=[(0,y)])(hs:Operand.short y=true)
  (hi:lk σ.tt t=some i) (hk:Nat.beq i.kind 1=true) (he:lk σ.tt i.elem=some e) (hy:ev ⟨E,H⟩ y=some v) (hm:v.cells=some ms) (hpl:cV ms=some x) (hc:(Nat.beq ms.length e.size&&Nat.ble e.size 16777216)=true)
  (hd:o.dst=some d) (hfr:St.fresh ⟨W,H⟩ σ d=true) (hn:Nat.blt d σ.nt=true) {H':List (Nat×B)} (hH':H'=ins H d (.row false e.size [x])):Eff σ E W H o (.c (.rs d 0 1)) H':=fun e1 hW hE=>by
 subst hH'
 simp only[bD]at hc
 have:=Stp.heap (ch (e0:=e1) (H:=H) (es:=[ms]) (xs:=[x]) hσ ho (by rw[hp];simp[hs]) hi hk he (by rw[hp];simp[dr,cX hE hy,hm]) (by simp[eD,hpl]) (by simp[sizes,hc.1];exact Nat.le_of_ble_eq_true hc.2) hd (de hW hfr) hn)
 simpa[aZ,hd]using this
end Go.Al
/- The abstract logic, vp 45: regions of open order in which a slot is written again while others do not look. -/
namespace Go.Al

def vr(h:List Nat)(e:List (Nat×A)):List (Nat×A):=match e with
 | []=>[]
 | (t,v)::r=>bif h.contains t then vr h r else(t,v)::vr h r
section
variable{hs:List (List Nat)}{σ:Sg}{plan:List PO}{effs:List Nat}{m n nt:Nat}{dsts:List (Option Nat)}{e0:List (Nat×A)}
end

theorem Abs.eq{s s':St}{ms:List M}{ds:List D}(h:Abs s ms ds s'):cu s ms=some (ds,s'):=by
 induction h with
 | nil=>rfl
 | d h1 _ ih=>simp[cu,h1,ih]
 | rs h1 h2 _ ih=>subst h2;simp[cu,h1,ih]
theorem jy{σ:Sg}{o:Oper}{e0:List (Nat×A)}{H:List (Nat×B)}(hσ:SgOk σ){d t:Nat}{i ei:TI}{ms:List M}{ds:List D}{y:Operand}{v:A}{parts:Array (Nat×Operand)}{s1:St}(ho:o.op= .buildSlice t 1 parts)(hp:parts.toList=[(0,y)])(hs:Operand.short y=true)
  (hi:lk σ.tt t=some i) (hk:Nat.beq i.kind 1=true) (he:lk σ.tt i.elem=some ei) (hy:ev ⟨e0,H⟩ y=some v) (hm:v.cells=some ms) (hz:(Nat.beq ms.length ei.size&&Nat.ble ei.size 16777216)=true) (hni:fB σ ms=true) (hab:Abs ⟨e0,H⟩ ms ds s1)
  (hd:o.dst=some d) (hfr:s1.fresh σ d=true) (hn:Nat.blt d σ.nt=true):HS σ ⟨e0,H⟩ o ⟨(d,.c (.rs d 0 1))::s1.env,ins s1.H d (.row true ei.size [ds])⟩:=by
 simp only[bD]at hz
 refine HS.lit hσ ho (by simp[hp,hs]) ?_
 simp[sO,hd,hi,hk,he,hp,hy,dr,hm,sizes,hz.1,jg,hni,gB,hab.eq,hfr,Al.put,hn]
 rw[hz.2];rfl
theorem BN.map{b:B}{es:List (D×D)}(h:b= .map es):BN b (.map es):=⟨h⟩
end Go.Al
/- The element of a slice of numbers that an own row's element holds. -/
namespace Go.Al
end Go.Al
/- A call that gets own blocks, in a region of open order. -/
namespace Go.Al
section
variable{σ:Sg}{o:Oper}{E W:List (Nat×A)}{H Hout:List (Nat×B)}{d:Nat}{c:Call}{fx:Operand}{f:Nat}{caps:List M}{as ds:List A}{R:A}{bin:List B}
end
end Go.Al
/- A slice written out of one element that holds an own row, in a region of open order. -/
namespace Go.Al
theorem ir{σ:Sg}{o:Oper}{E W:List (Nat×A)}{H:List (Nat×B)}(hσ:SgOk σ){d t l:Nat}{i ei:TI}{ms:List M}{ds:List D}{y:Operand}{v:A}{parts:Array (Nat×Operand)}(ho:o.op= .buildSlice t 1 parts)(hp:parts.toList=[(0,y)])(hs:Operand.short y=true)
  (hi:lk σ.tt t=some i) (hk:Nat.beq i.kind 1=true) (he:lk σ.tt i.elem=some ei) (hy:ev ⟨E,H⟩ y=some v) (hm:v.cells=some ms) (hz:(Nat.beq ms.length ei.size&&Nat.ble ei.size 16777216)=true) (hni:fB σ ms=true) (hd:o.dst=some d) (hn:Nat.blt d σ.nt=true)
  (hab: ∀e,Abs ⟨e,H⟩ ms ds ⟨bR l e,b9 l H⟩) (hfr:St.fresh ⟨bR l W,b9 l H⟩ σ d=true) {H':List (Nat×B)} (hH':H'=ins (b9 l H) d (.row true ei.size [ds])):gV σ E W H [l] o (.c (.rs d 0 1)) H':=fun e hW hE=>by
 subst hH'
 have:=Stp.heap (jy (e0:=e) (s1:=⟨bR l e,b9 l H⟩) hσ ho hp hs hi hk he (cX hE hy) hm hz hni (hab e) hd (de (cz hW) hfr) hn)
 simpa[aZ,hd,aJ]using this
end Go.Al
/- Regions of open order in which operations have conditions that are known. -/
namespace Go.Al
def rc(l:List Oper)(vs:List A)(o:Oper):List (Nat×A):=(aft o).flatMap (fun j=>match l[j]?,vs[j]? with|some o',some v'=>aZ o' v'|_,_=>[])
theorem r9{l:List Oper}{vs:List A}{e0:List (Nat×A)}{o:Oper}:cC l vs e0 o=rc l vs o++e0:=rfl
def w9(l:List Oper)(vs:List A)(o:Oper):Bool:=match o.guard with
 | none=>true
 | some (j,_)=>(aft o).contains j&&(match l[j]? with
  | some oj=>(match oj.dst,vs[j]? with|some _,some (.c (.d (.bool _)))=>true|some _,some .un=>true|_,_=>false)
  | none=>false)
def gw(vs:List A)(o:Oper):Bool:=match o.guard with
 | none=>true
 | some (j,b)=>match vs[j]? with|some (.c (.d (.bool x)))=>(bif x then b else !b)|_=>false
theorem si{l:List Oper}{vs:List A}{o:Oper}(h:w9 l vs o=true):o.guard=none∨∃j b oj t x,o.guard=some (j,b)∧j∈aft o∧l[j]? = some oj∧oj.dst=some t∧(vs[j]? = some (.c (.d (.bool x)))∨vs[j]? = some .un):=by
 unfold w9 at h
 split at h
 rename_i hg;exact .inl hg
 rename_i j b hg
 simp only[bD]at h
 obtain⟨h1,h2⟩:=h
 split at h2
 rename_i oj hj
 split at h2
 rename_i t x hd hv
 exact .inr ⟨j,b,oj,t,x,hg,by simpa using h1,hj,hd,.inl hv⟩
 rename_i t hd hv
 exact .inr ⟨j,b,oj,t,true,hg,by simpa using h1,hj,hd,.inr hv⟩
 cases h2
 cases h2
def waitOkG(l0:List Oper)(gs:List A)(plan:List PO)(effs:List Nat)(m:Nat)(dsts:List (Option Nat))(n:Nat)(e0:List (Nat×A))(nt:Nat):Nat→List Oper→List PO→Bool
 | i,o::l,p::ps=>
  (w9 l0 gs o&&((aft o).all (fun j=>Nat.blt j i)&&(p.anc.all (fun j=>(aft o).contains j||(aft o).any (fun j'=>(cg plan j').contains j)) &&
  ((match p.eff with
   | none=>(Nat.beq p.lo 0||(match effs[p.lo-1]? with|some x=>p.anc.contains x|none=>false))&&((Nat.beq p.hi m||(match effs[p.hi]? with|some x=>(cg plan x).contains i|none=>false))&&(Nat.ble p.lo p.hi&&((match o.dst with|some d=>Nat.blt d nt|none=>!(gw gs o))&& !(effs.contains i))))
   | some k=>gw gs o&&(match effs[k]? with|some x=>Nat.beq x i|none=>false)&&(Nat.beq k 0||(match effs[k-1]? with|some x=>p.anc.contains x|none=>false))) &&
  (match o.dst with
   | some d=>(!((dsts.take i).contains (some d)))&&((lk e0 d).isNone||(List.range n).all (fun j=>Nat.beq j i||p.anc.contains j))
   | none=>true)))))&&waitOkG l0 gs plan effs m dsts n e0 nt (i+1) l ps
 | _,[],[]=>true
 | _,_,_=>false
def qZ(σ:Sg)(l:List Oper)(vs:List A)(e0:List (Nat×A))(plan:List PO)(Hs:List (List (Nat×B)))(i:Nat)(o:Oper)(p:PO)(v:A):Prop:=
 match gw vs o with
 | true=>qY σ l vs e0 plan Hs i o p v
 | false=>p.eff=none∧v= .un
def oblsG(σ:Sg)(l:List Oper)(vs:List A)(e0:List (Nat×A))(plan:List PO)(Hs:List (List (Nat×B))):Nat→List Oper→List PO→List A→Prop
 | i,o::os,p::ps,v::us=>qZ σ l vs e0 plan Hs i o p v∧oblsG σ l vs e0 plan Hs (i+1) os ps us
 | _,[],[],[]=>True
 | _,_,_,_=>False
section
variable{σ:Sg}{l0:List Oper}{gs:List A}{plan:List PO}{effs:List Nat}{m n nt:Nat}{dsts:List (Option Nat)}{e0:List (Nat×A)}
theorem waitOkG.get: ∀{l:List Oper} {ps:List PO} {i:Nat},waitOkG l0 gs plan effs m dsts n e0 nt i l ps=true→∀{j:Nat} {o:Oper} {p:PO},l[j]? = some o→ps[j]? = some p→
  w9 l0 gs o=true∧(∀k∈aft o,k<i+j)∧(∀k∈p.anc,k∈aft o∨∃j'∈aft o,k∈cg plan j')∧
  (match p.eff with
   | none=>(p.lo=0∨∃x,effs[p.lo-1]? = some x∧x∈p.anc)∧(p.hi=m∨∃x,effs[p.hi]? = some x∧i+j∈cg plan x)∧p.lo≤p.hi∧((∃d,o.dst=some d∧Nat.blt d nt=true)∨(o.dst=none∧gw gs o=false))∧i+j ∉ effs
   | some k=>gw gs o=true∧effs[k]? = some (i+j)∧(k=0∨∃x,effs[k-1]? = some x∧x∈p.anc))∧
  (∀d,o.dst=some d→(some d ∉ dsts.take (i+j))∧(lk e0 d=none∨∀k,k<n→k=i+j∨k∈p.anc))
 | [],_,_,_,j,o,p,hl,_=>by simp at hl
 | _::_,[],_,h,_,_,_,_,hp=>by simp at hp
 | o' :: l,p'::ps,i,h,0,o,p,hl,hp=>by
  simp at hl hp
  subst hl;subst hp
  simp only[waitOkG,bD]at h
  obtain⟨⟨h1,h2,h3,h4,h5⟩,_⟩:=h
  refine⟨h1,fun k hk=>?_,fun k hk=>?_,?_,fun d hd=>?_⟩
  ·
   have:=List.all_eq_true.1 h2 k hk
   simpa[gA]using this
  ·
   have:=List.all_eq_true.1 h3 k hk
   simp only[Bool.or_eq_true,List.contains_iff_mem,List.any_eq_true]at this
   exact this
  ·
   cases he:p'.eff with
   | none=>
    simp only[he,bD,Bool.or_eq_true]at h4 ⊢
    obtain⟨a1,a2,a3,a4,a5⟩:=h4
    refine⟨?_,?_,Nat.le_of_ble_eq_true a3,?_,by simpa using a5⟩
    ·
     rcases a1 with a1|a1
     ·
      exact .inl (tN.1 a1)
     ·
      cases hx:effs[p'.lo-1]? with
      | none=>simp[hx]at a1
      | some x=>exact .inr ⟨x,Z,by simpa[hx]using a1⟩
    ·
     rcases a2 with a2|a2
     ·
      exact .inl (tN.1 a2)
     ·
      cases hx:effs[p'.hi]? with
      | none=>simp[hx]at a2
      | some x=>exact .inr ⟨x,Z,by simpa[hx]using a2⟩
    ·
     cases hd:o'.dst with
     | none=>exact .inr ⟨Z,by simpa[hd]using a4⟩
     | some d=>exact .inl ⟨d,Z,by simpa[hd]using a4⟩
   | some k=>
    simp only[he,bD,Bool.or_eq_true]at h4 ⊢
    obtain⟨⟨a0,a1⟩,a2⟩:=h4
    refine⟨a0,?_,?_⟩
    ·
     cases hx:effs[k]? with
     | none=>simp[hx]at a1
     | some x=>rw[hx]at a1;simpa using tN.1 a1
    ·
     rcases a2 with a2|a2
     ·
      exact .inl (tN.1 a2)
     ·
      cases hx:effs[k-1]? with
      | none=>simp[hx]at a2
      | some x=>exact .inr ⟨x,Z,by simpa[hx]using a2⟩
  ·
   simp only[hd,bD,Bool.or_eq_true]at h5
   refine⟨by simpa using h5.1,?_⟩
   rcases h5.2 with h6|h6
   ·
    exact .inl (by simpa using h6)
   ·
    refine .inr fun k hk=>?_
    have:=List.all_eq_true.1 h6 k (by simpa using hk)
    simp only[Bool.or_eq_true,List.contains_iff_mem]at this
    exact this.imp (fun h=>by simpa using tN.1 h) id
 | o'::l,p'::ps,i,h,j+1,o,p,hl,hp=>by
  simp only[waitOkG,bD]at h
  have:=waitOkG.get h.2 (j:=j) (by simpa using hl) (by simpa using hp)
  rw[show i+(j+1)=i+1+j by omega]
  exact this
theorem oblsG.get{l:List Oper}{vs:List A}{Hs:List (List (Nat×B))}: ∀{os:List Oper} {ps:List PO} {us:List A} {i:Nat},oblsG σ l vs e0 plan Hs i os ps us→∀{j:Nat} {o:Oper},os[j]? = some o→∃p v,ps[j]? = some p∧us[j]? = some v∧qZ σ l vs e0 plan Hs (i+j) o p v
 | [],_,_,_,_,j,o,h=>by simp at h
 | o'::os,[],_,_,h,_,_,_=>h.elim
 | o'::os,p::ps,[],_,h,_,_,_=>h.elim
 | o'::os,p::ps,v::us,i,h,0,o,ho=>by simp at ho;subst ho;exact⟨p,v,rfl,rfl,h.1⟩
 | o'::os,p::ps,v::us,i,h,j+1,o,ho=>by
  have:=oblsG.get h.2 (j:=j) (by simpa using ho)
  rw[show i+(j+1)=i+1+j by omega]
  simpa using this
end
theorem oS {σ:Sg}{Q:b0}{id:Nat}{l:List Oper}(hσ:SgOk σ)(e0:List (Nat×A))(vs:List A)(plan:List PO)(effs:List Nat)(Hs:List (List (Nat×B)))(hl1:vs.length=l.length)(hl2:plan.length=l.length)(hnd:effs.Nodup)(hin: ∀x∈effs,x<l.length)
  (hok:waitOkG l vs plan effs effs.length (l.map (·.dst)) l.length e0 σ.nt 0 l plan=true) (hob:oblsG σ l vs e0 plan Hs 0 l plan vs)
  (K:Q .normal ⟨bg (fun _=>true) 0 l vs++e0,Hs.getD effs.length []⟩):AWP σ (.region id l.toArray true) Q ⟨e0,Hs.getD 0 []⟩:=by
 have hget: ∀{j:Nat} {o:Oper},l[j]? = some o→∃p v,plan[j]? = some p∧vs[j]? = some v∧qZ σ l vs e0 plan Hs j o p v:=fun h=>by simpa using hob.get h
 have hwt: ∀{j:Nat} {o:Oper} {p:PO},l[j]? = some o→plan[j]? = some p→_:=fun{j o p} h1 h2=>waitOkG.get hok (j:=j) (o:=o) (p:=p) h1 h2
 have hdist: ∀(a b:Nat),a<b→∀(oa ob:Oper),l[a]? = some oa→l[b]? = some ob→∀d,oa.dst=some d→ob.dst≠some d:=by
  intro a b hab oa ob ha hb d hda hdb
  obtain⟨p,v,hp,_,_⟩:=hget hb
  have h5:=((hwt hb hp).2.2.2.2 d hdb).1
  refine h5 ?_
  rw[Nat.zero_add,List.mem_take_iff_getElem]
  have hal:=(List.getElem?_eq_some_iff.1 ha).1
  exact⟨a,by simp;omega,by simp[(List.getElem?_eq_some_iff.1 ha).2,hda]⟩
 have hw2: ∀(j:Nat) (o:Oper) (p:PO),l[j]? = some o→plan[j]? = some p→(∀q∈aft o,q<j)∧(∀q∈p.anc,q∈aft o∨∃j'∈aft o,q∈cg plan j'):=fun j o p h1 h2=>by
  have:=hwt h1 h2
  exact⟨fun q hq=>by have:=this.2.1 q hq;omega,this.2.2.1⟩
 intro Γ hΓ a w hR
 subst hΓ
 -- one step
 have step : ∀(X:Nat→Bool) (k i:Nat) (o:Oper),Mid l effs X k→X i=false→l[i]? = some o→(∀j∈aft o,X j=true)→∃k',Mid l effs (fun j=>X j||Nat.beq j i) k'∧(gw vs o=true→Stp Γ.toSg ⟨bg X 0 l vs++e0,Hs.getD k []⟩ o ⟨bg (fun j=>X j||Nat.beq j i) 0 l vs++e0,Hs.getD k' []⟩)∧(gw vs o=false→k'=k∧∀m F a w,Rel0 Γ m F ⟨bg X 0 l vs++e0,Hs.getD k []⟩ a w→Rel0 Γ m F ⟨bg (fun j=>X j||Nat.beq j i) 0 l vs++e0,Hs.getD k []⟩ (a.put o.dst undef) w):=by
  intro X k i o hm hXi ho haft
  obtain⟨p,v,hp,hv,hobl⟩:=hget ho
  have hw:=hwt ho hp
  rw[Nat.zero_add]at hw
  have hanc:=hm.anc hl2 hw2
  have hp':cg plan i=p.anc:=by simp[cg,hp]
  have hpanc: ∀q∈p.anc,X q=true:=by rw[←hp'];exact hanc i o ho haft
  have hilt:i<l.length:=(List.getElem?_eq_some_iff.1 ho).1
  have hlisted: ∀x,X x=true→i ∉ cg plan x:=by
   intro x hx hix
   have hxl:x<l.length:=Nat.lt_of_not_le fun hle=>by rw[hm.out x hle]at hx;cases hx
   have hox:l[x]? = some l[x]:=List.getElem?_eq_getElem hxl
   have:=hanc x _ hox (hm.down x _ hox hx) i hix
   rw[hXi]at this;cases this
  -- what the operation cC is there
  have hsub : LkSub (bg X 0 l vs++e0) (cC l vs e0 o):=by
   intro t u hu
   rw[r9]at hu
   rw[aH]at hu
   rw[aH]
   cases hq:lk (rc l vs o) t with
   | some u'=>
    rw[hq]at hu
    simp only[Option.some_or,el]at hu
    subst hu
    have hmem: ∃j∈aft o,∃o' v',l[j]? = some o'∧vs[j]? = some v'∧o'.dst=some t∧v'=u':=by
     clear haft hw hpanc
     unfold rc at hq
     revert hq
     generalize aft o=as
     intro hq
     induction as with
     | nil=>simp[aU]at hq
     | cons j as ih=>
      simp only[List.flatMap_cons,aH]at hq
      cases h1:lk (match l[j]?,vs[j]? with|some o',some v'=>aZ o' v'|_,_=>[]) t with
      | none=>
       rw[h1]at hq
       obtain⟨j',hj',r⟩:=ih (by simpa using hq)
       exact⟨j',by simp[hj'],r⟩
      | some u2=>
       rw[h1]at hq
       simp only[Option.some_or,el]at hq
       subst hq
       split at h1
       ·
        rename_i o' v' e1 e2
        unfold aZ at h1
        cases hd:o'.dst with
        | none=>simp[hd,aU]at h1
        | some d=>
         simp only[hd,aw,aU]at h1
         split at h1
         ·
          rename_i e3
          subst e3
          simp only[el]at h1
          exact⟨j,by simp,o',v',e1,e2,hd,h1⟩
         ·
          cases h1
       ·
        simp[aU]at h1
    obtain⟨j,hj,o',v',e1,e2,e3,rfl⟩:=hmem
    rw[cx (X:=X) hl1.symm hdist e1 e2 e3 (by rw[Nat.zero_add];exact haft j hj)]
    rfl
   | none=>
    rw[hq]at hu
    simp only[Option.none_or]at hu
    rw[dH (X:=X) (d:=t) (fun b ob hb hXb hd=>?_)]
    ·
     exact hu
    ·
     rw[Nat.zero_add]at hXb
     obtain⟨pb,vb,hpb,_,_⟩:=hget hb
     rcases((hwt hb hpb).2.2.2.2 t hd).2 with h6|h6
     ·
      rw[h6]at hu;cases hu
     ·
      rcases h6 i hilt with h7|h7
      ·
       rw[Nat.zero_add]at h7;subst h7;rw[hXi]at hXb;cases hXb
      ·
       exact hlisted b hXb (by simp only[cg,hpb];exact h7)
  -- the slots behind the step
  have hback: ∀(e':List (Nat×A)),e'=aZ o v++(bg X 0 l vs++e0)→LkSub e' (bg (fun j=>X j||Nat.beq j i) 0 l vs++e0):=by
   rintro _ rfl t u hu
   rw[aH]at hu
   rw[aH]
   cases hd:o.dst with
   | none=>
    simp only[aZ,hd,aU,Option.none_or]
    rw[dP (X':=X) (fun j=>?_)]at hu
    ·
     rw[aH];exact hu
    ·
     by_cases e:j=i
     ·
      subst e
      exact .inr fun o' ho' _=>by rw[Nat.sub_zero,ho]at ho';cases ho';rw[hd];simp
     ·
      exact .inl (by simp[qC.2 e])
   | some d=>
    by_cases htd:d=t
    ·
     subst htd
     rw[cx (X:=fun j=>X j||Nat.beq j i) hl1.symm hdist ho hv hd (by simp)]at hu
     simp only[Option.some_or,el]at hu
     subst hu
     simp[aZ,hd,aw]
    ·
     simp only[aZ,hd,aw,if_neg htd,aU,Option.none_or]
     rw[dP (X':=X) (fun j=>?_)]at hu
     ·
      rw[aH];exact hu
     ·
      by_cases e:j=i
      ·
       subst e
       exact .inr fun o' ho' _=>by rw[Nat.sub_zero,ho]at ho';cases ho';rw[hd];simp[htd]
      ·
       exact .inl (by simp[qC.2 e])
  have hmid: ∀k',(∀q x,effs[q]? = some x→((X x||Nat.beq x i)=true↔q<k'))→k'≤effs.length→Mid l effs (fun j=>X j||Nat.beq j i) k':=fun k' h1 h2=>⟨fun j oj hj hX q hq=>by
   simp only[Bool.or_eq_true]at hX ⊢
   rcases hX with hX|hX
   ·
    exact .inl (hm.down j oj hj hX q hq)
   ·
    have:=tN.1 hX;subst this
    rw[ho]at hj;cases hj
    exact .inl (haft q hq),fun j hj=>by
   simp only[Bool.or_eq_false_iff]
   exact⟨hm.out j hj,qC.2 (by omega)⟩,h1,h2⟩
  have hre: ∀{H:List (Nat×B)} {e':List (Nat×A)},e'=aZ o v++(bg X 0 l vs++e0)→Stp Γ.toSg ⟨bg X 0 l vs++e0,Hs.getD k []⟩ o ⟨e',H⟩→Stp Γ.toSg ⟨bg X 0 l vs++e0,Hs.getD k []⟩ o ⟨bg (fun j=>X j||Nat.beq j i) 0 l vs++e0,H⟩:=by
   intro H e' he hs Γ' hΓ' a w hR K' Q' hK'
   refine hs Γ' hΓ' a w hR K' Q' fun a' w' ⟨m,F,h⟩=>hK' a' w' ⟨m,F,h.H,h.nodup,h.own,fun t u hu=>h.env t u (hback e' he t u hu),h.size,h.defers,h.frame,h.keep,h.dom⟩
  cases hgw:gw vs o with
  | false =>
   unfold qZ at hobl
   rw[hgw]at hobl
   obtain⟨he,hvj⟩:=hobl
   subst hvj
   have h4:=hw.2.2.2.1
   rw[he]at h4
   obtain⟨a1,a2,a3,a4,a5⟩:=h4
   refine⟨k,hmid k (fun q x hx=>?_) hm.le,fun h=>(by cases h),fun _=>⟨rfl,fun m F a w hR0=>?_⟩⟩
   ·
    have hne:x≠i:=fun e=>a5 (e ▸ List.mem_of_getElem? hx)
    simp only[qC.2 hne,Bool.or_false]
    exact hm.eff q x hx
   ·
    have h6:Rel0 Γ m F ⟨aZ o .un++(bg X 0 l vs++e0),Hs.getD k []⟩ (a.put o.dst undef) w:=by
     cases hd:o.dst with
     | none=>
      simp only[aZ,hd,List.nil_append]
      exact hR0
     | some d=>
      have hlt:Nat.blt d Γ.nt=true:=by
       rcases a4 with⟨d',h1,h2⟩|⟨h1,_⟩
       ·
        rw[hd]at h1;cases h1;exact h2
       ·
        rw[hd]at h1;cases h1
      have:=hR0.put (dst:=some d) (v:=.un) (x:=undef) (s':=⟨(d,.un)::(bg X 0 l vs++e0),Hs.getD k []⟩) .un (by simp[Al.put,hlt])
      simpa[aZ,hd]using this
    exact⟨h6.H,h6.nodup,h6.own,fun t u hu=>h6.env t u (hback _ Z t u hu),h6.size,h6.defers,h6.frame,h6.keep,h6.dom⟩
  | true =>
   unfold qZ at hobl
   rw[hgw]at hobl
   replace hobl:yE Γ.toSg l vs e0 plan Hs i o p v:=by
    have h1:qY Γ.toSg l vs e0 plan Hs i o p v:=by simpa using hobl
    unfold qY at h1
    rw[dN]at h1
    exact h1
   unfold yE at hobl
   cases he:p.eff with
   | none=>
    rw[he]at hobl
    have h4:=hw.2.2.2.1
    rw[he]at h4
    obtain⟨a1,a2,a3,a4,a5⟩:=h4
    obtain⟨d,hd,hdn⟩: ∃d,o.dst=some d∧Nat.blt d Γ.toSg.nt=true:=by
     rcases a4 with h|h
     ·
      exact h
     ·
      rw[hgw]at h;cases h.2
    have hk1:p.lo≤k:=by
     rcases a1 with a1|⟨x,hx,hxa⟩
     ·
      omega
     ·
      have:=(hm.eff _ x hx).1 (hpanc x hxa);omega
    have hk2:k≤p.hi:=by
     rcases a2 with a2|⟨x,hx,hxa⟩
     ·
      rw[a2];exact hm.le
     ·
      refine Nat.le_of_not_lt fun hlt=>?_
      exact hlisted x ((hm.eff _ x hx).2 hlt) hxa
    refine⟨k,hmid k (fun q x hx=>?_) hm.le,fun _=>?_,fun h=>by cases h⟩
    ·
     have hne:x≠i:=fun e=>a5 (e ▸ List.mem_of_getElem? hx)
     simp only[qC.2 hne,Bool.or_false]
     exact hm.eff q x hx
    ·
     have hval:=valK.get hobl hk1 (by omega)
     have hval':Val Γ.toSg ⟨bg X 0 l vs++e0,Hs.getD k []⟩ o v:=fun Γ' hΓ' m F a w hR0=>hval Γ' hΓ' m F a w ⟨hR0.H,hR0.nodup,hR0.own,fun t u hu=>hR0.env t u (hsub t u hu),hR0.size,hR0.defers,hR0.frame,hR0.keep,hR0.dom⟩
     refine hre (e':=(d,v)::(bg X 0 l vs++e0)) (by simp[aZ,hd]) (Stp.val hval' hd hdn)
   | some q0=>
    rw[he]at hobl
    have h4:=hw.2.2.2.1
    rw[he]at h4
    obtain⟨_,a1,a2⟩:=h4
    have hkq:k=q0:=by
     have h6: ¬q0<k:=fun hlt=>by have:=(hm.eff q0 i a1).2 hlt;rw[hXi]at this;cases this
     rcases a2 with a2|⟨x,hx,hxa⟩
     ·
      omega
     ·
      have:=(hm.eff _ x hx).1 (hpanc x hxa);omega
    subst hkq
    have hql:k<effs.length:=(List.getElem?_eq_some_iff.1 a1).1
    refine⟨k+1,hmid (k+1) (fun q x hx=>?_) (by omega),fun _=>?_,fun h=>by cases h⟩
    ·
     by_cases hxi:x=i
     ·
      subst hxi
      simp only[tN.2 Z,Bool.or_true,true_iff]
      refine Nat.lt_succ_of_le (Nat.le_of_not_lt fun hlt=>?_)
      have hq2:q=k:=(List.getElem?_inj (List.getElem?_eq_some_iff.1 hx).1 hnd).1 (hx.trans a1.symm)
      omega
     ·
      simp only[qC.2 hxi,Bool.or_false,hm.eff q x hx]
      constructor
      ·
       intro h;omega
      ·
       intro h
       rcases Nat.lt_or_ge q k with h8|h8
       ·
        exact h8
       ·
        have:q=k:=by omega
        subst this
        rw[a1]at hx;cases hx
        exact absurd Z hxi
    ·
     exact hre Z (hobl _ (List.Sublist.append (eT (fun j hj=>by
      simp only[bD,Bool.not_eq_true']
      refine⟨qC.2 (fun e=>by subst e;rw[hXi]at hj;cases hj),?_⟩
      have:=hlisted j hj
      simpa using this)) (List.Sublist.refl _)) hsub)
 have hsz:l.toArray.size=l.length:=by simp
 have main: ∀(fuel:Nat) (listed:Array Bool) (a:Act) (w:World) (k:Nat) (U:List Nat),listed.size=l.length→Mid l effs (fun j=>listed.getD j false) k→(∀j,j<l.length→listed.getD j false=false→j∈U)→U.length≤fuel→
   fz Γ ⟨bg (fun j=>listed.getD j false) 0 l vs++e0,Hs.getD k []⟩ a w→wpAny Γ.P .any l.toArray (lh Γ Q) fuel listed a w:=by
  have fin: ∀(listed:Array Bool) (a:Act) (w:World) (k:Nat),Mid l effs (fun j=>listed.getD j false) k→(∀j,j<l.length→listed.getD j false=true)→fz Γ ⟨bg (fun j=>listed.getD j false) 0 l vs++e0,Hs.getD k []⟩ a w→lh Γ Q .normal a w:=by
   intro listed a w k hm hall hR
   have hk:k=effs.length:=by
    refine Nat.le_antisymm hm.le (Nat.le_of_not_lt fun hlt=>?_)
    have hx:effs[k]? = some effs[k]:=List.getElem?_eq_getElem hlt
    have:=(hm.eff k _ hx).1 (hall _ (hin _ (List.getElem_mem _)))
    omega
   subst hk
   refine⟨_,?_,K⟩
   obtain⟨m,F,h⟩:=hR
   refine⟨m,F,h.H,h.nodup,h.own,fun t u hu=>h.env t u ?_,h.size,h.defers,h.frame,h.keep,h.dom⟩
   rw[aH]at hu ⊢
   rw[dP (X':=fun _=>true) (fun j=>?_)]
   ·
    exact hu
   ·
    by_cases hj:j<l.length
    ·
     exact .inl (hall j hj)
    ·
     exact .inr fun o ho _=>by
      have:=(List.getElem?_eq_some_iff.1 ho).1;omega
  intro fuel
  induction fuel with
  | zero=>
   intro listed a w k U hs hm hU hlen hR
   have hall: ∀j,j<l.length→listed.getD j false=true:=fun j hj=>by
    cases hx:listed.getD j false with
    | true=>rfl
    | false=>
     have:=hU j hj hx
     have hU0:U=[]:=List.eq_nil_of_length_eq_zero (by omega)
     rw[hU0]at this;cases this
   refine⟨?_,fin listed a w k hm hall hR⟩
   refine List.eq_nil_iff_forall_not_mem.2 fun j hj=>?_
   obtain⟨h1,o,ho,_⟩:=mem_ready.1 hj
   have hjl:j<l.length:=by
    have:=(Array.getElem?_eq_some_iff.1 ho).1;simpa using this
   have h2:=hall j hjl
   have hjs:j<listed.size:=by omega
   simp[hjs]at h1 h2
   rw[h1]at h2;cases h2
  | succ fuel ih=>
   intro listed a w k U hs hm hU hlen hR
   refine⟨fun hr=>?_,fun i hi=>?_⟩
   ·
    refine fin listed a w k hm (fun j=>?_) hR
    induction j using Nat.strongRecOn with
    | _ j ihj=>
     intro hj
     cases hx:listed.getD j false with
     | true=>rfl
     | false=>
      have hjs:j<listed.size:=by omega
      have ho:l[j]? = some l[j]:=List.getElem?_eq_getElem hj
      obtain⟨p,v,hp,_,_⟩:=hget ho
      have hmem:j∈Region.ready .any l.toArray listed:=mem_ready.2 ⟨getD_in hjs hx,l[j],by simp[hj],fun e he hb=>by
       have hlt:=(hw2 j _ p ho hp).1 e.on (xg.2 ⟨e,he,hb,rfl⟩)
       exact ihj e.on hlt (by omega)⟩
      rw[hr]at hmem;cases hmem
   ·
    obtain⟨h1,o,ho,hall⟩:=mem_ready.1 hi
    have hol:l[i]? = some o:=by simpa using ho
    have hil:i<l.length:=(List.getElem?_eq_some_iff.1 hol).1
    have his:i<listed.size:=by omega
    have hXi:listed.getD i false=false:=by simp[his]at h1 ⊢;exact h1
    obtain⟨k',hm',hst⟩:=step (fun j=>listed.getD j false) k i o hm hXi hol (fun j hj=>by
     obtain⟨e,he,hb,rfl⟩:=xg.1 hj
     exact hall e he hb)
    have hX':(fun j=>listed.getD j false||Nat.beq j i)=fun j=>(listed.setIfInBounds i true).getD j false:=by
     funext j
     by_cases e:j=i
     ·
      subst e;simp[his]
     ·
      rw[getD_set_ne false (Ne.symm e),qC.2 e,Bool.or_false]
    rw[hX']at hm' hst
    obtain⟨p,v,hp,_,_⟩:=hget hol
    have next: ∀a' w',fz Γ ⟨bg (fun j=>(listed.setIfInBounds i true).getD j false) 0 l vs++e0,Hs.getD k' []⟩ a' w'→wpAny Γ.P .any l.toArray (lh Γ Q) fuel (listed.setIfInBounds i true) a' w':=fun a' w' hR'=>by
     refine ih (listed.setIfInBounds i true) a' w' k' (U.erase i) (by simp[hs]) hm' (fun j hj hx=>?_) ?_ hR'
     ·
      by_cases e:j=i
      ·
       subst e;simp[his]at hx
      ·
       rw[getD_set_ne false (Ne.symm e)]at hx
       exact(List.mem_erase_of_ne e).2 (hU j hj hx)
     ·
      rw[List.length_erase_of_mem (hU i hil hXi)];omega
    have hwant:Region.wanted o (yielded l.toArray a.tmps)=gw vs o:=by
     rcases si (hwt hol hp).1 with hg|⟨j,b,oj,t,x,hg,hj,hoj,hd,hv'⟩
     ·
      simp[Region.wanted,gw,hg]
     ·
      obtain⟨m,F,hR0⟩:=hR
      have hlist:listed.getD j false=true:=by
       obtain⟨e,he,hb,rfl⟩:=xg.1 hj
       exact hall e he hb
      rcases hv' with hv'|hv'
      ·
       have hk:lk (bg (fun j=>listed.getD j false) 0 l vs++e0) t=some (.c (.d (.bool x))):=by
        rw[aH,cx (X:=fun j=>listed.getD j false) hl1.symm hdist hoj hv' hd (by rw[Nat.zero_add];exact hlist)];rfl
       have hy:=dM (all:=l.toArray) hR0 (j:=j) (t:=t) (x:=x) (by simp[hoj,hd]) hk
       simp only[Region.wanted,gw,hg,hy,hv']
       cases x<;>cases b<;>rfl
      ·
       have hk:lk (bg (fun j=>listed.getD j false) 0 l vs++e0) t=some .un:=by
        rw[aH,cx (X:=fun j=>listed.getD j false) hl1.symm hdist hoj hv' hd (by rw[Nat.zero_add];exact hlist)];rfl
       have hu:=hR0.env t _ hk
       simp only[Region.wanted,gw,hg,hv']
       unfold yielded
       rw[show((l.toArray[j]?).bind (·.dst))=some t by simp[hoj,hd]]
       simp only[Option.bind_some]
       have:a.tmps.getD t undef=undef:=by
        generalize a.tmps.getD t undef=z at hu
        cases hu;rfl
       rw[Array.getD_eq_getD_getElem?]at this
       cases h3:a.tmps[t]? with
       | none=>simp
       | some y=>rw[h3]at this;simp at this;subst this;simp[undef]
    unfold wpOp
    rw[ho]
    simp only[hwant]
    cases hgw:gw vs o with
    | true=>
     simp only[if_true]
     exact .inl (hst.1 hgw Γ Z a w hR _ _ next)
    | false=>
     obtain⟨hk',h9⟩:=hst.2 hgw
     subst hk'
     obtain⟨m,F,hR0⟩:=hR
     simp only[Bool.false_eq_true,if_false]
     exact next _ _ ⟨m,F,h9 m F a w hR0⟩
 refine wp_region_any hσ.mix ?_
 rw[hsz]
 refine main l.length _ a _ 0 (List.range l.length) (by simp) ⟨fun i o _ hX=>?_,fun i _=>getD_replicate_false _ _,fun q x _=>?_,co _⟩ (fun j hj _=>by simpa using hj) (by simp) ?_
 ·
  rw[getD_replicate_false]at hX;cases hX
 ·
  rw[getD_replicate_false];simp
 ·
  obtain⟨m,F,h⟩:=hR
  obtain⟨m',F',h'⟩:=Rel1.toRel (Rel1.drew h.to1) h.dom
  refine⟨m',F',h'.H,h'.nodup,h'.own,fun t u hu=>h'.env t u ?_,h'.size,h'.defers,h'.frame,h'.keep,h'.dom⟩
  rw[aH,dH (fun b ob hb hXb=>by rw[getD_replicate_false]at hXb;cases hXb)]at hu
  exact hu

theorem qK{σ:Sg}{Q:b0}{id:Nat}{l:List Oper}(hσ:SgOk σ)(e0:List (Nat×A))(vs:List A)(plan:List PO)(effs:List Nat)(Hs:List (List (Nat×B)))(hl1:vs.length=l.length)(hl2:plan.length=l.length)(hnd:effs.Nodup)(hin: ∀x∈effs,x<l.length)
  (hok:waitOkG l vs plan effs effs.length (l.map (·.dst)) l.length e0 σ.nt 0 l plan=true) (hob:oblsG σ l vs e0 plan Hs 0 l plan vs)
  (K:Q .normal ⟨dT l vs e0,Hs.getD effs.length []⟩):AWP σ (.region id l.toArray true) Q ⟨e0,Hs.getD 0 []⟩:=
 oS hσ e0 vs plan effs Hs hl1 hl2 hnd hin hok hob (by rw[iV];exact K)
end Go.Al
/- Whether an empty slice is nil, which is not known. -/
namespace Go.Al
end Go.Al
/- Regions of open order with slices of data that may be written out at any time. -/
namespace Go.Al
theorem nR{σ:Sg}{e e':List (Nat×A)}{H H':List (Nat×B)}(l:Nat){blk:B}(hl:lk H l=some blk)(he: ∀t v,lk e' t=some v→∃u,lk e t=some u∧FA l blk u v)(hH:FH l blk H H'):Ent σ ⟨e,H⟩ ⟨e',H'⟩:=fun Γ eq a w hR=>by
 subst eq
 obtain⟨m,F,hR⟩:=hR
 obtain⟨Fl,G,hB,hR1⟩:=hR.to1.take hl
 rw[List.append_nil,←List.append_nil (Fl++G)]at hR1
 obtain⟨F',hR2,hsub,hdis⟩:=hR1.drop
 have h1: ∀b,Γ.ok F b→Γ.ok F' b:=fun b hb=>⟨fun hh=>hb.1 (hsub b hh),hb.2⟩
 have hFl: ∀b∈Fl,b∈F:=by
  obtain⟨FH,_,g2⟩:=hR1.H
  exact fun b hb=>g2.mem_iff.2 (by simp[hb])
 have h2: ∀b∈Fl,Γ.ok F' b:=fun b hb=>⟨hdis b (by simp[hb]),.inr (hR.own b (hFl b hb))⟩
 have hm: ∀k,k≠l→fM m l .nil k=m k:=fun k hk=>bj hk
 refine Rel1.toRel (m:=fM m l .nil) (F:=F') (E:=[]) ⟨?_,hR2.nodup,hR2.lt,hR2.own,fun t v hv=>?_,hR2.size,hR2.defers,hR2.frame,fun k hk hs=>?_⟩ (fun k b cap sz hk=>?_)
 obtain⟨FH,g1,g2⟩:=hR2.H
 exact⟨FH,hH.sound hB h1 h2 hm g1,g2⟩
 obtain⟨u,hu,hf⟩:=he t v hv
 exact hf.sound hB h1 h2 hm (hR2.env t u hu)
 have hne:k≠l:=fun e=>by subst e;rw[hH.none]at hs;cases hs
 rw[hm k hne]
 exact hR.keep k hk (by rw[←hH.isSome hne];exact hs)
 have hne:k≠l:=fun e=>by subst e;rw[bV]at hk;cases hk
 show(lk H' k).isSome=true
 rw[hH.isSome hne]
 rw[hm k hne]at hk
 exact hR.dom k b cap sz hk
def VS(σ:Sg)(E W:List (Nat×A))(H:List (Nat×B))(o:Oper)(v:A):Prop:=Val σ ⟨E,H⟩ o v∨Eff σ E W H o v H
def valKS(σ:Sg)(E Wd:List (Nat×A))(Hs0 Hs1:List (List (Nat×B)))(nws:List (List Nat))(o:Oper)(v:A)(tr:Bool):Nat→Nat→Prop
 | lo,0=>(VS σ (aJ (bk nws lo) E) (aJ (bk nws lo) Wd) (Hs1.getD lo []) o v∧(bif tr then True else VS σ (aJ (bk nws lo) E) (aJ (bk nws lo) Wd) (Hs0.getD lo []) o v))∧A.ps (bk nws lo) v=v
 | lo,r+1=>((VS σ (aJ (bk nws lo) E) (aJ (bk nws lo) Wd) (Hs1.getD lo []) o v∧(bif tr then True else VS σ (aJ (bk nws lo) E) (aJ (bk nws lo) Wd) (Hs0.getD lo []) o v))∧A.ps (bk nws lo) v=v)∧valKS σ E Wd Hs0 Hs1 nws o v tr (lo+1) r
theorem valKS.get{σ E Wd Hs0 Hs1 nws o v tr}: ∀{r lo k:Nat},valKS σ E Wd Hs0 Hs1 nws o v tr lo r→lo≤k→k≤lo+r→∀b,(tr=true→b=true)→VS σ (aJ (bk nws k) E) (aJ (bk nws k) Wd) (HB Hs0 Hs1 b k) o v∧A.ps (bk nws k) v=v
 | 0,lo,k,h,h1,h2,b,hb=>by
  obtain rfl:k=lo:=(by omega)
  refine⟨?_,h.2⟩
  cases b with
  | true=>exact h.1.1
  | false=>
   cases tr with
   | true=>cases hb rfl
   | false=>exact h.1.2
 | r + 1,lo,k,h,h1,h2,b,hb=>by
  by_cases e:k=lo
  subst e
  refine⟨?_,h.1.2⟩
  cases b with
  | true=>exact h.1.1.1
  | false=>
   cases tr with
   | true=>cases hb rfl
   | false=>exact h.1.1.2
  exact valKS.get h.2 (by omega) (by omega) b hb
def sK(σ:Sg)(l:List Oper)(vs:List A)(e0:List (Nat×A))(plan:List PO)(fa:Nat)(Hs0 Hs1:List (List (Nat×B)))(nws:List (List Nat))(i:Nat)(o:Oper)(p:PO)(v:A):Prop:=
 match p.eff with
 | none=>bif Nat.beq i fa then newK σ (cC l vs e0 o) (cb l vs e0 plan i) Hs0 Hs1 nws o v p.lo (p.hi-p.lo)else valKS σ (cC l vs e0 o) (cb l vs e0 plan i) Hs0 Hs1 nws o v (ja p.anc fa) p.lo (p.hi-p.lo)
 | some k=>(gV σ (aJ (bk nws k) (cC l vs e0 o)) (aJ (bk nws k) (cb l vs e0 plan i)) (Hs1.getD k []) (nws.getD k []) o v (Hs1.getD (k+1) [])∧
   (bif ja p.anc fa then True else gV σ (aJ (bk nws k) (cC l vs e0 o)) (aJ (bk nws k) (cb l vs e0 plan i)) (Hs0.getD k []) (nws.getD k []) o v (Hs0.getD (k+1) [])))∧A.ps (bk nws (k+1)) v=v
def oblsS(σ:Sg)(l:List Oper)(vs:List A)(e0:List (Nat×A))(plan:List PO)(fa:Nat)(Hs0 Hs1:List (List (Nat×B)))(nws:List (List Nat)):Nat→List Oper→List PO→List A→Prop
 | i,o::os,p::ps,v::us=>sK σ l vs e0 plan fa Hs0 Hs1 nws i o p v∧oblsS σ l vs e0 plan fa Hs0 Hs1 nws (i+1) os ps us
 | _,[],[],[]=>True
 | _,_,_,_=>False
theorem oblsS.get{σ l vs e0 plan fa Hs0 Hs1 nws}: ∀{os ps us i},oblsS σ l vs e0 plan fa Hs0 Hs1 nws i os ps us→∀{j:Nat} {o:Oper},os[j]? = some o→∃p v,ps[j]? = some p∧us[j]? = some v∧sK σ l vs e0 plan fa Hs0 Hs1 nws (i+j) o p v
 | _::_,_::_,_::_,i,h,0,o,ho=>by simp at ho;subst ho;exact⟨_,_,rfl,rfl,h.1⟩
 | _::_,_::_,_::_,i,h,j+1,o,ho=>by
  obtain⟨p,v,h1,h2,h3⟩:=oblsS.get h.2 (j:=j) (by simpa using ho)
  exact⟨p,v,by simpa using h1,by simpa using h2,by rwa[show i+(j+1)=i+1+j by omega]⟩
 | [],_,_,_,_,j,o,ho=>by simp at ho
 | _::_,[],_,_,h,_,_,_=>h.elim
 | _::_,_::_,[],_,h,_,_,_=>h.elim
theorem oR{σ:Sg}{Q:b0}{id:Nat}{l:List Oper}(hσ:SgOk σ)(e0:List (Nat×A))(vs:List A)(plan:List PO)(effs:List Nat)(fa:Nat)(Hs0 Hs1:List (List (Nat×B)))(nws:List (List Nat))(hl1:vs.length=l.length)(hl2:plan.length=l.length)(hnd:effs.Nodup)(hin: ∀x∈effs,x<l.length)
  (hfa:fa<l.length) (hfp:(plan[fa]?).map (·.eff)=some none) (hok:waitOk plan effs effs.length (l.map (·.dst)) l.length e0 σ.nt 0 l plan=true) (hob:oblsS σ l vs e0 plan fa Hs0 Hs1 nws 0 l plan vs)
  (K:Q .normal ⟨aJ (bk nws effs.length) (dT l vs e0),Hs1.getD effs.length []⟩):AWP σ (.region id l.toArray true) Q ⟨e0,Hs0.getD 0 []⟩:=by
 have hget: ∀{j:Nat} {o:Oper},l[j]? = some o→∃p v,plan[j]? = some p∧vs[j]? = some v∧sK σ l vs e0 plan fa Hs0 Hs1 nws j o p v:=fun h=>by simpa using hob.get h
 have hwt: ∀{j:Nat} {o:Oper} {p:PO},l[j]? = some o→plan[j]? = some p→_:=fun{j o p} h1 h2=>waitOk.get hok (j:=j) (o:=o) (p:=p) h1 h2
 have hdist: ∀(a b:Nat),a<b→∀(oa ob:Oper),l[a]? = some oa→l[b]? = some ob→∀d,oa.dst=some d→ob.dst≠some d:=by
  intro a b hab oa ob ha hb d hda hdb
  obtain⟨p,v,hp,_,_⟩:=hget hb
  have h5:=((hwt hb hp).2.2.2.2 d hdb).1
  refine h5 ?_
  rw[Nat.zero_add,List.mem_take_iff_getElem]
  have hal:=(List.getElem?_eq_some_iff.1 ha).1
  exact⟨a,by simp;omega,by simp[(List.getElem?_eq_some_iff.1 ha).2,hda]⟩
 have hw2: ∀(j:Nat) (o:Oper) (p:PO),l[j]? = some o→plan[j]? = some p→(∀q∈aft o,q<j)∧(∀q∈p.anc,q∈aft o∨∃j'∈aft o,q∈cg plan j'):=fun j o p h1 h2=>by
  have:=hwt h1 h2
  exact⟨fun q hq=>by have:=this.2.1 q hq;omega,this.2.2.1⟩
 intro Γ hΓ a w hR
 subst hΓ
 -- one step
 have step: ∀(X:Nat→Bool) (k i:Nat) (o:Oper),Mid l effs X k→X i=false→l[i]? = some o→(∀j∈aft o,X j=true)→∃k',Mid l effs (fun j=>X j||Nat.beq j i) k'∧Stp Γ.toSg ⟨aJ (bk nws k) (bg X 0 l vs++e0),HB Hs0 Hs1 (X fa) k⟩ o ⟨aJ (bk nws k') (bg (fun j=>X j||Nat.beq j i) 0 l vs++e0),HB Hs0 Hs1 (X fa||Nat.beq fa i) k'⟩:=by
  intro X k i o hm hXi ho haft
  obtain⟨p,v,hp,hv,hobl⟩:=hget ho
  have hw:=hwt ho hp
  rw[Nat.zero_add]at hw
  have hanc:=hm.anc hl2 hw2
  have hp':cg plan i=p.anc:=by simp[cg,hp]
  have hpanc: ∀q∈p.anc,X q=true:=by rw[←hp'];exact hanc i o ho haft
  have hilt:i<l.length:=(List.getElem?_eq_some_iff.1 ho).1
  have hlisted: ∀x,X x=true→i ∉ cg plan x:=by
   intro x hx hix
   have hxl:x<l.length:=Nat.lt_of_not_le fun hle=>by rw[hm.out x hle]at hx;cases hx
   have hox:l[x]? = some l[x]:=List.getElem?_eq_getElem hxl
   have:=hanc x _ hox (hm.down x _ hox hx) i hix
   rw[hXi]at this;cases this
  -- what the operation cC is there
  have hsub:LkSub (bg X 0 l vs++e0) (cC l vs e0 o):=by
   intro t u hu
   rw[show cC l vs e0 o=(aft o).flatMap (fun j=>match l[j]?,vs[j]? with|some o',some v'=>aZ o' v'|_,_=>[])++e0 from rfl]at hu
   rw[aH]at hu
   rw[aH]
   cases hq:lk ((aft o).flatMap (fun j=>match l[j]?,vs[j]? with|some o',some v'=>aZ o' v'|_,_=>[])) t with
   | some u'=>
    rw[hq]at hu
    simp only[Option.some_or,el]at hu
    subst hu
    have hmem: ∃j∈aft o,∃o' v',l[j]? = some o'∧vs[j]? = some v'∧o'.dst=some t∧v'=u':=by
     clear haft hw hpanc
     revert hq
     generalize aft o=as
     intro hq
     induction as with
     | nil=>simp[aU]at hq
     | cons j as ih=>
      simp only[List.flatMap_cons,aH]at hq
      cases h1:lk (match l[j]?,vs[j]? with|some o',some v'=>aZ o' v'|_,_=>[]) t with
      | none=>
       rw[h1]at hq
       obtain⟨j',hj',r⟩:=ih (by simpa using hq)
       exact⟨j',by simp[hj'],r⟩
      | some u2=>
       rw[h1]at hq
       simp only[Option.some_or,el]at hq
       subst hq
       split at h1
       rename_i o' v' e1 e2
       unfold aZ at h1
       cases hd:o'.dst with
       | none=>simp[hd,aU]at h1
       | some d=>
        simp only[hd,aw,aU]at h1
        split at h1
        rename_i e3
        subst e3
        simp only[el]at h1
        exact⟨j,by simp,o',v',e1,e2,hd,h1⟩
        cases h1
       simp[aU]at h1
    obtain⟨j,hj,o',v',e1,e2,e3,rfl⟩:=hmem
    rw[cx (X:=X) hl1.symm hdist e1 e2 e3 (by rw[Nat.zero_add];exact haft j hj)]
    rfl
   | none=>
    rw[hq]at hu
    simp only[Option.none_or]at hu
    rw[dH (X:=X) (d:=t) (fun b ob hb hXb hd=>?_)]
    exact hu
    rw[Nat.zero_add]at hXb
    obtain⟨pb,vb,hpb,_,_⟩:=hget hb
    rcases((hwt hb hpb).2.2.2.2 t hd).2 with h6|h6
    rw[h6]at hu;cases hu
    rcases h6 i hilt with h7|h7
    rw[Nat.zero_add]at h7;subst h7;rw[hXi]at hXb;cases hXb
    exact hlisted b hXb (by simp only[cg,hpb];exact h7)
  -- the slots behind the step
  have hback: ∀(e':List (Nat×A)),e'=aZ o v++(bg X 0 l vs++e0)→LkSub e' (bg (fun j=>X j||Nat.beq j i) 0 l vs++e0):=by
   rintro _ rfl t u hu
   rw[aH]at hu
   rw[aH]
   cases hd:o.dst with
   | none=>
    simp only[aZ,hd,aU,Option.none_or]
    rw[dP (X':=X) (fun j=>?_)]at hu
    rw[aH];exact hu
    by_cases e:j=i
    subst e
    exact .inr fun o' ho' _=>by rw[Nat.sub_zero,ho]at ho';cases ho';rw[hd];simp
    exact .inl (by simp[qC.2 e])
   | some d=>
    by_cases htd:d=t
    subst htd
    rw[cx (X:=fun j=>X j||Nat.beq j i) hl1.symm hdist ho hv hd (by simp)]at hu
    simp only[Option.some_or,el]at hu
    subst hu
    simp[aZ,hd,aw]
    simp only[aZ,hd,aw,if_neg htd,aU,Option.none_or]
    rw[dP (X':=X) (fun j=>?_)]at hu
    rw[aH];exact hu
    by_cases e:j=i
    subst e
    exact .inr fun o' ho' _=>by rw[Nat.sub_zero,ho]at ho';cases ho';rw[hd];simp[htd]
    exact .inl (by simp[qC.2 e])
  have hbackP: ∀(ls:List Nat) (e':List (Nat×A)),A.ps ls v=v→e'=aZ o v++aJ ls (bg X 0 l vs++e0)→LkSub e' (aJ ls (bg (fun j=>X j||Nat.beq j i) 0 l vs++e0)):=by
   rintro ls _ hpv rfl t u hu
   rw[dX,Option.map_eq_some_iff]at hu
   obtain⟨u0,hu0,rfl⟩:=hu
   have h5:=hback _ Z t u0 hu0
   rw[aH]at h5 ⊢
   cases h6:lk (aZ o v) t with
   | some y=>
    rw[h6]at h5
    simp only[Option.some_or,el]at h5 ⊢
    subst h5
    unfold aZ at h6
    cases hd:o.dst with
    | none=>rw[hd]at h6;simp[aU]at h6
    | some d=>
     simp only[hd,aw,aU]at h6
     split at h6
     simp only[el]at h6;rw[←h6];exact hpv.symm
     cases h6
   | none=>
    rw[h6]at h5
    simp only[Option.none_or]at h5 ⊢
    rw[dX,h5];rfl
  have hmid: ∀k',(∀q x,effs[q]? = some x→((X x||Nat.beq x i)=true↔q<k'))→k'≤effs.length→Mid l effs (fun j=>X j||Nat.beq j i) k':=fun k' h1 h2=>⟨fun j oj hj hX q hq=>by
   simp only[Bool.or_eq_true]at hX ⊢
   rcases hX with hX|hX
   ·
    exact .inl (hm.down j oj hj hX q hq)
   ·
    have:=tN.1 hX;subst this
    rw[ho]at hj;cases hj
    exact .inl (haft q hq),fun j hj=>by
   simp only[Bool.or_eq_false_iff]
   exact⟨hm.out j hj,qC.2 (by omega)⟩,h1,h2⟩
  have hre: ∀{ls:List Nat} {H:List (Nat×B)} {e':List (Nat×A)},A.ps ls v=v→e'=aZ o v++aJ ls (bg X 0 l vs++e0)→Stp Γ.toSg ⟨aJ (bk nws k) (bg X 0 l vs++e0),HB Hs0 Hs1 (X fa) k⟩ o ⟨e',H⟩→Stp Γ.toSg ⟨aJ (bk nws k) (bg X 0 l vs++e0),HB Hs0 Hs1 (X fa) k⟩ o ⟨aJ ls (bg (fun j=>X j||Nat.beq j i) 0 l vs++e0),H⟩:=by
   intro ls H e' hpv he hs Γ' hΓ' a w hR K' Q' hK'
   refine hs Γ' hΓ' a w hR K' Q' fun a' w' ⟨m,F,h⟩=>hK' a' w' ⟨m,F,h.H,h.nodup,h.own,fun t u hu=>h.env t u (hbackP ls e' hpv he t u hu),h.size,h.defers,h.frame,h.keep,h.dom⟩
  unfold sK at hobl
  cases he:p.eff with
  | none=>
   rw[he]at hobl
   have h4:=hw.2.2.2.1
   rw[he]at h4
   obtain⟨a1,a2,a3,⟨d,hd,hdn⟩,a5⟩:=h4
   have hk1:p.lo≤k:=by
    rcases a1 with a1|⟨x,hx,hxa⟩
    omega
    have:=(hm.eff _ x hx).1 (hpanc x hxa);omega
   have hk2:k≤p.hi:=by
    rcases a2 with a2|⟨x,hx,hxa⟩
    rw[a2];exact hm.le
    refine Nat.le_of_not_lt fun hlt=>?_
    exact hlisted x ((hm.eff _ x hx).2 hlt) hxa
   refine⟨k,hmid k (fun q x hx=>?_) hm.le,?_⟩
   have hne:x≠i:=fun e=>a5 (e ▸ List.mem_of_getElem? hx)
   simp only[qC.2 hne,Bool.or_false]
   exact hm.eff q x hx
   by_cases hif:i=fa
   subst hif
   simp only[tN.2 Z,cond_true]at hobl
   obtain⟨hnew,hpv⟩:=newK.get hobl hk1 (by omega)
   rw[tN.2 Z,Bool.or_true,hXi]
   rw[hXi]at hre
   refine hre hpv Z ?_
   have h7:=hnew _ (eJ (ls:=bk nws k) (show(bg X 0 l vs++e0).Sublist (cb l vs e0 plan i)from by
    rw[dN]
    refine List.Sublist.append (eT (fun j hj=>?_)) (List.Sublist.refl _)
    simp only[bD,Bool.not_eq_true']
    refine⟨qC.2 (fun e=>by subst e;rw[hXi]at hj;cases hj),?_⟩
    have:=hlisted j hj
    simpa using this)) hsub.ps
   exact h7
   rw[qC.2 hif]at hobl
   simp only[cond_false]at hobl
   obtain⟨hval,hpv⟩:=valKS.get hobl hk1 (by omega) (X fa) (fun ht=>hpanc fa (by rw[iD]at ht;simpa using ht))
   rw[qC.2 (Ne.symm hif),Bool.or_false]
   have hst:Stp Γ.toSg ⟨aJ (bk nws k) (bg X 0 l vs++e0),HB Hs0 Hs1 (X fa) k⟩ o ⟨aZ o v++aJ (bk nws k) (bg X 0 l vs++e0),HB Hs0 Hs1 (X fa) k⟩:=by
    rcases hval with hval|heff
    have hval':Val Γ.toSg ⟨aJ (bk nws k) (bg X 0 l vs++e0),HB Hs0 Hs1 (X fa) k⟩ o v:=fun Γ' hΓ' m F a w hR0=>hval Γ' hΓ' m F a w ⟨hR0.H,hR0.nodup,hR0.own,fun t u hu=>hR0.env t u (hsub.ps t u hu),hR0.size,hR0.defers,hR0.frame,hR0.keep,hR0.dom⟩
    have:=Stp.val hval' hd hdn
    simpa[aZ,hd]using this
    exact heff _ (eJ (ls:=bk nws k) (show(bg X 0 l vs++e0).Sublist (cb l vs e0 plan i)from by
     rw[dN]
     refine List.Sublist.append (eT (fun j hj=>?_)) (List.Sublist.refl _)
     simp only[bD,Bool.not_eq_true']
     refine⟨qC.2 (fun e=>by subst e;rw[hXi]at hj;cases hj),?_⟩
     have:=hlisted j hj
     simpa using this)) hsub.ps
   exact hre hpv Z hst
  | some q0=>
   rw[he]at hobl
   have h4:=hw.2.2.2.1
   rw[he]at h4
   obtain⟨a1,a2⟩:=h4
   have hkq:k=q0:=by
    have h6: ¬q0<k:=fun hlt=>by have:=(hm.eff q0 i a1).2 hlt;rw[hXi]at this;cases this
    rcases a2 with a2|⟨x,hx,hxa⟩
    omega
    have:=(hm.eff _ x hx).1 (hpanc x hxa);omega
   subst hkq
   have hql:k<effs.length:=(List.getElem?_eq_some_iff.1 a1).1
   refine⟨k+1,hmid (k+1) (fun q x hx=>?_) (by omega),?_⟩
   by_cases hxi:x=i
   subst hxi
   simp only[tN.2 Z,Bool.or_true,true_iff]
   refine Nat.lt_succ_of_le (Nat.le_of_not_lt fun hlt=>?_)
   have hq2:q=k:=(List.getElem?_inj (List.getElem?_eq_some_iff.1 hx).1 hnd).1 (hx.trans a1.symm)
   omega
   simp only[qC.2 hxi,Bool.or_false,hm.eff q x hx]
   constructor
   intro h;omega
   intro h
   rcases Nat.lt_or_ge q k with h8|h8
   exact h8
   have:q=k:=by omega
   subst this
   rw[a1]at hx;cases hx
   exact absurd Z hxi
   have hif:fa≠i:=fun e=>by
    subst e
    rw[hp]at hfp
    simp only[Option.map_some,el]at hfp
    rw[he]at hfp;cases hfp
   rw[qC.2 hif,Bool.or_false]
   obtain⟨⟨hobl1,hobl0⟩,hpv⟩:=hobl
   have hobl:gV Γ.toSg (aJ (bk nws k) (cC l vs e0 o)) (aJ (bk nws k) (cb l vs e0 plan i)) (HB Hs0 Hs1 (X fa) k) (nws.getD k []) o v (HB Hs0 Hs1 (X fa) (k+1)):=by
    cases hxf:X fa with
    | true=>exact hobl1
    | false=>
     have:ja p.anc fa=false:=by
      cases hmm:ja p.anc fa with
      | false=>rfl
      | true=>
       rw[iD]at hmm
       have:=hpanc fa (by simpa using hmm)
       rw[hxf]at this;cases this
     rw[this]at hobl0
     exact hobl0
   refine hre hpv Z ?_
   have h7:=hobl _ (eJ (ls:=bk nws k) (show(bg X 0 l vs++e0).Sublist (cb l vs e0 plan i)from by
    rw[dN]
    refine List.Sublist.append (eT (fun j hj=>?_)) (List.Sublist.refl _)
    simp only[bD,Bool.not_eq_true']
    refine⟨qC.2 (fun e=>by subst e;rw[hXi]at hj;cases hj),?_⟩
    have:=hlisted j hj
    simpa using this)) hsub.ps
   rw[←ju]at h7
   exact h7
 have hsz:l.toArray.size=l.length:=by simp
 have main: ∀(fuel:Nat) (listed:Array Bool) (a:Act) (w:World) (k:Nat) (U:List Nat),listed.size=l.length→Mid l effs (fun j=>listed.getD j false) k→(∀j,j<l.length→listed.getD j false=false→j∈U)→U.length≤fuel→
   fz Γ ⟨aJ (bk nws k) (bg (fun j=>listed.getD j false) 0 l vs++e0),HB Hs0 Hs1 (listed.getD fa false) k⟩ a w→wpAny Γ.P .any l.toArray (lh Γ Q) fuel listed a w:=by
  have fin: ∀(listed:Array Bool) (a:Act) (w:World) (k:Nat),Mid l effs (fun j=>listed.getD j false) k→(∀j,j<l.length→listed.getD j false=true)→fz Γ ⟨aJ (bk nws k) (bg (fun j=>listed.getD j false) 0 l vs++e0),HB Hs0 Hs1 (listed.getD fa false) k⟩ a w→lh Γ Q .normal a w:=by
   intro listed a w k hm hall hR
   have hk:k=effs.length:=by
    refine Nat.le_antisymm hm.le (Nat.le_of_not_lt fun hlt=>?_)
    have hx:effs[k]? = some effs[k]:=List.getElem?_eq_getElem hlt
    have:=(hm.eff k _ hx).1 (hall _ (hin _ (List.getElem_mem _)))
    omega
   subst hk
   rw[hall fa hfa]at hR
   refine⟨_,?_,K⟩
   obtain⟨m,F,h⟩:=hR
   refine⟨m,F,h.H,h.nodup,h.own,fun t u hu=>h.env t u ?_,h.size,h.defers,h.frame,h.keep,h.dom⟩
   rw[←iV (i:=0)]at hu
   rw[dX]at hu ⊢
   rw[aH]at hu ⊢
   rw[dP (X':=fun _=>true) (fun j=>?_)]
   ·
    exact hu
   ·
    by_cases hj:j<l.length
    ·
     exact .inl (hall j hj)
    ·
     exact .inr fun o ho _=>by
      have:=(List.getElem?_eq_some_iff.1 ho).1;omega
  intro fuel
  induction fuel with
  | zero=>
   intro listed a w k U hs hm hU hlen hR
   have hall: ∀j,j<l.length→listed.getD j false=true:=fun j hj=>by
    cases hx:listed.getD j false with
    | true=>rfl
    | false=>
     have:=hU j hj hx
     have hU0:U=[]:=List.eq_nil_of_length_eq_zero (by omega)
     rw[hU0]at this;cases this
   refine⟨?_,fin listed a w k hm hall hR⟩
   refine List.eq_nil_iff_forall_not_mem.2 fun j hj=>?_
   obtain⟨h1,o,ho,_⟩:=mem_ready.1 hj
   have hjl:j<l.length:=by
    have:=(Array.getElem?_eq_some_iff.1 ho).1;simpa using this
   have h2:=hall j hjl
   have hjs:j<listed.size:=by omega
   simp[hjs]at h1 h2
   rw[h1]at h2;cases h2
  | succ fuel ih=>
   intro listed a w k U hs hm hU hlen hR
   refine⟨fun hr=>?_,fun i hi=>?_⟩
   ·
    refine fin listed a w k hm (fun j=>?_) hR
    induction j using Nat.strongRecOn with
    | _ j ihj=>
     intro hj
     cases hx:listed.getD j false with
     | true=>rfl
     | false=>
      have hjs:j<listed.size:=by omega
      have ho:l[j]? = some l[j]:=List.getElem?_eq_getElem hj
      obtain⟨p,v,hp,_,_⟩:=hget ho
      have hmem:j∈Region.ready .any l.toArray listed:=mem_ready.2 ⟨getD_in hjs hx,l[j],by simp[hj],fun e he hb=>by
       have hlt:=(hw2 j _ p ho hp).1 e.on (xg.2 ⟨e,he,hb,rfl⟩)
       exact ihj e.on hlt (by omega)⟩
      rw[hr]at hmem;cases hmem
   ·
    obtain⟨h1,o,ho,hall⟩:=mem_ready.1 hi
    have hol:l[i]? = some o:=by simpa using ho
    have hil:i<l.length:=(List.getElem?_eq_some_iff.1 hol).1
    have his:i<listed.size:=by omega
    have hXi:listed.getD i false=false:=by simp[his]at h1 ⊢;exact h1
    obtain⟨k',hm',hst⟩:=step (fun j=>listed.getD j false) k i o hm hXi hol (fun j hj=>by
     obtain⟨e,he,hb,rfl⟩:=xg.1 hj
     exact hall e he hb)
    have hX':(fun j=>listed.getD j false||Nat.beq j i)=fun j=>(listed.setIfInBounds i true).getD j false:=by
     funext j
     by_cases e:j=i
     ·
      subst e;simp[his]
     ·
      rw[getD_set_ne false (Ne.symm e),qC.2 e,Bool.or_false]
    have hX2:(listed.getD fa false||Nat.beq fa i)=(listed.setIfInBounds i true).getD fa false:=congrFun hX' fa
    rw[hX']at hm' hst
    rw[hX2]at hst
    obtain⟨p,v,hp,_,_⟩:=hget hol
    have hg:=(hwt hol hp).1
    unfold wpOp
    rw[ho]
    simp only[Region.wanted,hg,if_true]
    refine .inl (hst Γ Z a w hR _ _ fun a' w' hR'=>?_)
    refine ih (listed.setIfInBounds i true) a' w' k' (U.erase i) (by simp[hs]) hm' (fun j hj hx=>?_) ?_ hR'
    ·
     by_cases e:j=i
     ·
      subst e;simp[his]at hx
     ·
      rw[getD_set_ne false (Ne.symm e)]at hx
      exact(List.mem_erase_of_ne e).2 (hU j hj hx)
    ·
     rw[List.length_erase_of_mem (hU i hil hXi)];omega
 refine wp_region_any hσ.mix ?_
 rw[hsz]
 refine main l.length _ a _ 0 (List.range l.length) (by simp) ⟨fun i o _ hX=>?_,fun i _=>getD_replicate_false _ _,fun q x _=>?_,co _⟩ (fun j hj _=>by simpa using hj) (by simp) ?_
 rw[getD_replicate_false]at hX;cases hX
 rw[getD_replicate_false];simp
 have hz:HB Hs0 Hs1 ((Array.replicate l.length false).getD fa false) 0=Hs0.getD 0 []:=by rw[getD_replicate_false];rfl
 rw[hz]
 obtain⟨m,F,h⟩:=hR
 obtain⟨m',F',h'⟩:=Rel1.toRel (Rel1.drew h.to1) h.dom
 refine⟨m',F',h'.H,h'.nodup,h'.own,fun t u hu=>h'.env t u ?_,h'.size,h'.defers,h'.frame,h'.keep,h'.dom⟩
 simp only[bk,aJ]at hu
 rw[aH,dH (fun b ob hb hXb=>by rw[getD_replicate_false]at hXb;cases hXb)]at hu
 exact hu
theorem qI{σ:Sg}{Q:b0}{id:Nat}{l:List Oper}(hσ:SgOk σ)(e0:List (Nat×A))(vs:List A)(plan:List PO)(effs:List Nat)(fa d:Nat)(blk:B)(Hs0 tail:List (List (Nat×B)))(nws:List (List Nat))(hl1:vs.length=l.length)(hl2:plan.length=l.length)(hnd:effs.Nodup)(hin: ∀x∈effs,x<l.length)
  (hfa:fa<l.length) (hfp:(plan[fa]?).map (·.eff)=some none) (hok:waitOk plan effs effs.length (l.map (·.dst)) l.length e0 σ.nt 0 l plan=true) (hob:oblsS σ l vs e0 plan fa Hs0 (Hs0.map (fun H=>ins H d blk)++tail) nws 0 l plan vs)
  (K:Q .normal ⟨aJ (bk nws effs.length) (dT l vs e0),(Hs0.map (fun H=>ins H d blk)++tail).getD effs.length []⟩):AWP σ (.region id l.toArray true) Q ⟨e0,Hs0.getD 0 []⟩:=
 oR hσ e0 vs plan effs fa Hs0 (Hs0.map (fun H=>ins H d blk)++tail) nws hl1 hl2 hnd hin hfa hfp hok hob K
end Go.Al
/- The abstract logic: a slice made in a region of open order. -/
namespace Go.Al
section
variable{σ:Sg}{o:Oper}{E W:List (Nat×A)}{H:List (Nat×B)}{d:Nat}
end
end Go.Al
/- The abstract logic: a call that is given a row, leaves it as it was, and answers data. -/
namespace Go.Al
end Go.Al
/- The abstract logic: a call that leaves some blocks, told in an order. -/
namespace Go.Al
theorem gP: ∀{ks:List Nat} {bs:List B} {H:List (Nat×B)},ck H ks=some bs→∀{k:Nat},k∈ks→(lk H k).isSome=true
 | [],_,_,_,_,h=>by cases h
 | l::r,bs,H,h,k,hk=>by
  unfold ck at h
  split at h
  rename_i b bs' h1 h2
  rcases List.mem_cons.1 hk with rfl|hk
  rw[h1];rfl
  exact gP h2 hk
  cases h
theorem MC.keep{P:Program}{L f:Nat}{args:List A}{Hin:List (Nat×B)}{R:A}(ks:List Nat){bs:List B}(hn:fR ks=true)(hw:(A.within ks R&&Bs.within ks bs)=true)(h:MC P L f args Hin (fun r H=>r=R∧ck H ks=some bs)):MC P L f args Hin (fA R (ks.zip bs)):=by
 simp only[bD]at hw
 refine⟨h.1,fun w m F ok vs h0 h1 h2 h3 h4 h5=>Calls.mono (h.2 w m F ok vs h0 h1 h2 h3 h4 h5) fun e w' he=>?_⟩
 cases e with
 | returned u=>
  obtain⟨r,H',m',F',⟨rfl,hb⟩,a1,a2,a3,a4,a5,a6,a7⟩:=he
  have hm: ∀k,k∈ks→(fun k=>if k∈ks then m' k else Loc.nil) k=m' k:=fun k hk=>if_pos hk
  obtain⟨F2,G,b1,b2⟩:=ox hm a1 (dg hn) (fun l hl=>hl) hb hw.2
  have hlen:=dQ hb
  have hsub: ∀b∈F2,b∈F':=fun b hb=>b2.mem_iff.2 (by simp[hb])
  have hk:Keep w' w' (fun b=>b ∉ F'∧(ok b∨w.heap.size≤b∨b∈F)) (fun b=>b ∉ F2∧(ok b∨w.heap.size≤b∨b∈F)):=⟨cm _,fun b _ hb=>⟨⟨fun hh=>hb.1 (hsub b hh),hb.2⟩,rfl⟩⟩
  refine⟨r,ks.zip bs,fun k=>if k∈ks then m' k else .nil,F2,⟨Z,Z⟩,b1.over hk (fun _ _ _ _ _ _ _ _ _ _ h=>h) (fun _ _=>rfl),(List.nodup_append.1 (b2.nodup_iff.1 a2)).1,fun b hb=>a3 b (hsub b hb),(a4.within hm hw.1).over hk (fun _ _ _ _ _ _ _ _ _ _ h=>h),a5,fun l hl hs=>?_,fun k b cap sz hk=>?_⟩
  have hkk:l∈ks:=(kp hlen).1 hs
  show(if l∈ks then m' l else Loc.nil)=m l
  rw[if_pos hkk]
  exact a6 l hl (gP hb hkk)
  by_cases hkk:k∈ks
  exact(kp hlen).2 hkk
  simp only[if_neg hkk]at hk;cases hk
 | _=>exact he
end Go.Al
/- The abstract logic: methods bound to a value. -/
namespace Go.Al
section
variable{σ:Sg}{Q:b0}{all:Array Oper}{o:Oper}{rest:List Oper}{c:Call}{fx:Operand}{f:Nat}{ms:List M}{as ds:List A}{e:List (Nat×A)}{H:List (Nat×B)}{d:Nat}{v:A}
end
end Go.Al
/- The abstract logic: a call that takes own blocks away, in a region of open order. -/
namespace Go.Al
section
variable{σ:Sg}{o:Oper}{E W:List (Nat×A)}{H Hout:List (Nat×B)}{d:Nat}{c:Call}{fx:Operand}{f:Nat}{caps:List M}{as ds:List A}{R:A}{bin:List B}
end
end Go.Al
/- The abstract logic, vp 57: literals of several elements in a region of open order. -/
namespace Go.Al
theorem pO{s:St}{g:Nat→Option A→Nat×Option A}: ∀{ps:List (Nat×Operand)} {vs:List A},iv s (ps.map (·.2))=some vs→ps.map (fun x=>(x.1,ev s x.2))=List.zipWith (fun i v=>(i,some v)) (ps.map (·.1)) vs
 | [],vs,h=>by simp[iv]at h;subst h;rfl
 | p::ps,vs,h=>by
  simp only[List.map_cons,iv]at h
  split at h
  rename_i v us h1 h2
  simp only[el]at h;subst h
  simp only[List.map_cons,List.zipWith_cons_cons,h1]
  rw[pO (g:=g) h2]
  cases h
theorem bq{σ:Sg}{o:Oper}{E W:List (Nat×A)}{H:List (Nat×B)}(hσ:SgOk σ){d t n:Nat}{i e:TI}{es:List (List M)}{xs:List (List D)}{vs:List A}{parts:Array (Nat×Operand)}(ho:o.op= .buildSlice t n parts)(hs:parts.toList.all (fun x=>Al.Operand.short x.2)=true)
  (hi:lk σ.tt t=some i) (hk:Nat.beq i.kind 1=true) (he:lk σ.tt i.elem=some e) (hv:iv ⟨E,H⟩ (parts.toList.map (·.2))=some vs) (hes:dr 0 (List.zipWith (fun i v=>(i,some v)) (parts.toList.map (·.1)) vs)=some es) (hpl:eD es=some xs) (hc:(Nat.beq es.length n&&sizes e.size es&&Nat.ble n 4096&&Nat.ble (n*e.size) 16777216)=true)
  (hd:o.dst=some d) (hfr:St.fresh ⟨W,H⟩ σ d=true) (hn:Nat.blt d σ.nt=true) {H':List (Nat×B)} (hH':H'=ins H d (.row false e.size xs)):Eff σ E W H o (.c (.rs d 0 n)) H':=fun e1 hW hE=>by
 subst hH'
 have:=Stp.heap (ch (e0:=e1) (H:=H) (es:=es) (xs:=xs) hσ ho hs hi hk he (by rw[pO (g:=fun i v=>(i,v)) (iF hE hv)];exact hes) hpl hc hd (de hW hfr) hn)
 simpa[aZ,hd]using this
theorem bu{σ:Sg}{c:Code}{Q:b0}{s0:St}(F:St)(h:AWP σ c (fun e s=>e= .normal∧Ent σ s F) s0)(k:Q .normal F):AWP σ c Q s0:=fun Γ eq a w hR=>
 wp_mono (h Γ eq a w hR) fun e a w ⟨s,h1,h2,h3⟩=>by
 subst h2
 exact⟨F,h3 Γ eq a w h1,k⟩
end Go.Al
/- The abstract logic, vp 58: empty literals, and appends to nothing, in regions of open order. -/
namespace Go.Al
theorem tU{σ:Sg}{o:Oper}{e0:List (Nat×A)}{H:List (Nat×B)}(hσ:SgOk σ){d t:Nat}{i e:TI}(ho:o.op= .buildSlice t 0 #[])
  (hi:lk σ.tt t=some i) (hk:Nat.beq i.kind 1=true) (he:lk σ.tt i.elem=some e)
  (hd:o.dst=some d) (hfr:St.fresh ⟨e0,H⟩ σ d=true) (hn:Nat.blt d σ.nt=true) (hfh:FH d (.row false e.size []) (ins H d (.row false e.size [])) H):HS σ ⟨e0,H⟩ o ⟨(d,.c .ez)::e0,H⟩:=fun Γ eq m F a w hR=>by
 subst eq
 have hu:=(hσ.tt.get hi).isSlice (tN.1 hk)
 have hfree:eE d e0=true:=by
  simp only[St.fresh,St.free,bD]at hfr
  exact hfr.1.2.1
 have hrun: ∃b w1,(execOp a.eval o).run Γ.P w= .ok (.value (.slice b 0 0)) w1:=by
  simp only[execOp,ho]
  simp[Instr.buildSlice,Instr.fill,run_underlying hu,(hσ.tt.get he).run_sizeOf,newRow,newObj,Sem.run]
 obtain⟨b,w1,hrun⟩:=hrun
 rcases ch (es:=[]) (xs:=[]) hσ ho rfl hi hk he rfl rfl (by simp[sizes]) hd hfr hn Γ rfl m F a w hR with⟨u,w',h1,h2⟩|⟨w',h1,h2⟩
 refine .inl ⟨u,w',h1,?_⟩
 have hub:u= .slice b 0 0:=by
  have h1':(execOp a.eval o).run Γ.P w= .ok (.value u) w':=h1
  rw[hrun]at h1'
  injection h1' with h1' _;injection h1' with h1';exact h1'.symm
 rw[hd]at h2 ⊢
 obtain⟨m',F',h4⟩:fz Γ ⟨(d,.junk)::e0,H⟩ (a.put (some d) u) w':=by
  refine nR d (blk:=.row false e.size []) (by rw[dn,if_pos Z]) (fun t' v' hv=>?_) hfh Γ Z _ _ h2
  simp only[aw]at hv ⊢
  by_cases htd:d=t'
  rw[if_pos htd]at hv ⊢
  simp only[el]at hv
  subst hv
  exact⟨_,Z,.junk⟩
  rw[if_neg htd]at hv ⊢
  exact⟨_,hv,.keep (eV hfree hv)⟩
 have hsz:a.tmps.size=Γ.nt:=hR.size
 refine⟨m',F',⟨h4.H,h4.nodup,h4.own,fun t' v' hv=>?_,h4.size,h4.defers,h4.frame,h4.keep,h4.dom⟩⟩
 by_cases htd:d=t'
 subst htd
 rw[aw,if_pos Z]at hv
 simp only[el]at hv
 subst hv;subst hub
 have hlt:=gA.1 hn
 have:(a.put (some d) (.slice b 0 0)).tmps.getD d undef= .slice b 0 0:=by
  simp[Act.put,Array.getElem?_setIfInBounds,hsz,hlt]
 rw[this];exact .c .ez
 exact h4.env t' v' (by simp only[aw,if_neg htd]at hv ⊢;exact hv)
 rw[hrun]at h1;cases h1
theorem fI{σ:Sg}{o:Oper}{E W:List (Nat×A)}{H:List (Nat×B)}(hσ:SgOk σ){d t:Nat}{i e:TI}(ho:o.op= .buildSlice t 0 #[])
  (hi:lk σ.tt t=some i) (hk:Nat.beq i.kind 1=true) (he:lk σ.tt i.elem=some e)
  (hd:o.dst=some d) (hfr:St.fresh ⟨W,H⟩ σ d=true) (hn:Nat.blt d σ.nt=true) (hfh:FH d (.row false e.size []) (ins H d (.row false e.size [])) H):Eff σ E W H o (.c .ez) H:=fun e1 hW hE=>by
 have:=Stp.heap (tU hσ ho hi hk he hd (de hW hfr) hn hfh)
 simpa[aZ,hd]using this
theorem kZ{σ:Sg}{o:Oper}{c:Call}{E W:List (Nat×A)}{H:List (Nat×B)}{d:Nat}{x y:Operand}{t tx:Nat}{i it ti:TI}{n:Nat}{u v:A}{own:Bool}{xs ys zs:List (List D)}(hσ:SgOk σ)(ho:o.op= .call c)(hb:c.callee= .builtin .append)(ha:c.args.toList=[x,y])(hat:c.argTypes.toList=[t,tx])(hs1:Operand.short x=true)(hs2:Operand.short y=true)(hx:ev ⟨E,H⟩ x=some u)(hy:ev ⟨E,H⟩ y=some v)
  (ht:lk σ.tt t=some i) (hk:Nat.beq i.kind 1=true) (htx:lk σ.tt tx=some it) (hkx:Nat.beq it.kind 1=true) (he:lk σ.tt i.elem=some ti) (hze:Nat.beq ti.zero.length ti.size=true) (hd:o.dst=some d) (hn:Nat.blt d σ.nt=true)
  (hT:Tgt H own ti.size u xs none) (hF:Feed H own ti.size v ys) (hys: ∀x∈ys,x.length=ti.size) (hf:St.fresh ⟨W,H⟩ σ d=true) (hL:xs.length+ys.length≤σ.L) (hbb:(xs.length+ys.length)*ti.bytes≤140737488355328) (hzs:xs++ys=zs) (hnn:zs.length=n)
  {H':List (Nat×B)} (hH':H'=ins H d (.row own ti.size zs)):Eff σ E W H o (.c (.rs d 0 n)) H':=fun e hW hE=>by
 subst hH'
 have:=Stp.heap (iq hσ ho hb ha hat hs1 hs2 (cX hE hx) (cX hE hy) ht hk htx hkx he hze hd hn hT hF hys (de hW hf) hL hbb hzs hnn)
 simpa[aZ,hd,St.let]using this
theorem eW{σ:Sg}{o:Oper}{s:St}(hσ:SgOk σ){t sz:Nat}{x:Operand}{lo hi:Option Operand}{l h:Option A}{a b:Nat}{xs ys:List (List D)}{i ti:TI}(ho:o.op= .slice t x lo hi none)(hs:Al.Oper.shorts o=true)(hx:ev s x=some (.c (.d (.slc sz xs))))(hlo:opt s lo=some l)(hhi:opt s hi=some h)
  (hi':lk σ.tt t=some i) (hk:Nat.beq i.kind 1=true) (ht:lk σ.tt i.elem=some ti) (hz:Nat.beq sz ti.size=true) (ha:nat? l 0=some a) (hb:nat? h xs.length=some b) (hle:a≤b∧b≤xs.length) (hy:(xs.drop a).take (b-a)=ys):Val σ s o (.c (.d (.slc sz ys))):=by
 refine Val.of hσ ?_ hs
 subst hy
 simp[fd,ho,hx,hlo,hhi,g9,hi',hk,ht,hz,ha,hb,hle]
theorem km{k:Nat}{d:Nat}:nat? (some (.c (.d (.int .i64 (k:Int))))) d=some k:=by simp[nat?]
theorem wl{z:Int}{k:Nat}{d:Nat}(h:z=k):nat? (some (.c (.d (.int .i64 z)))) d=some k:=by subst h;exact km
end Go.Al
/- The abstract logic, vp 59: a row of scalars becomes one's own. -/
namespace Go.Al
theorem RDs.scal{L:Nat}{w:World}{ok ok':Nat→Prop}: ∀{ds b o F},RDs L w ok ds b o F→(∀d∈ds,d.scalar=true)→RDs L w ok' ds b o []
 | _,_,_,_,.nil,_=>.nil
 | _,_,_,_,.cons h1 h2 h3,h=>.cons (F1:=[]) (F2:=[]) h1 (cr (h _ (by simp)) h2) (RDs.scal h3 (fun d hd=>h d (by simp[hd])))
theorem eU{σ:Sg}{e:List (Nat×A)}{H:List (Nat×B)}(l:Nat){sz:Nat}{xs:List (List D)}(hl:lk H l=some (.row false sz xs))(hs:Scal xs):Ent σ ⟨e,H⟩ ⟨e,ins (dG H l) l (.row true sz xs)⟩:=fun Γ eq a w hR=>by
 subst eq
 obtain⟨m,F,hR⟩:=hR
 obtain⟨Fl,G,hB,hR1⟩:=hR.to1.take hl
 have hB':RB Γ.L w (Γ.ok F) m (.row true sz xs) (m l) Fl:=by
  generalize m l=loc at hB
  cases hB with
  | nil=>exact .nil
  | row h1 h2 h3 h4 h5 h6 h7 h8=>
   have e8:=h8 Z
   subst e8
   exact .row h1 h2 h3 h4 h5 h6 (h7.scal hs.flat) (fun h=>by cases h)
 have:=Rel1.back (E1:=Fl) (E2:=G++[]) (l:=l) hR1 (by simp[cW]) hB' (fun hi=>hR.keep l hi (by simp[hl]))
 refine Rel1.toRel (m:=m) (F:=F) (E:=G++[]) ?_ ?_
 exact⟨this.H,this.nodup,this.lt,this.own,this.env,this.size,this.defers,this.frame,this.keep⟩
 intro k b' cap sz hk
 have:=hR.dom k b' cap sz hk
 show(lk (ins (dG H l) l _) k).isSome=true
 rw[dn,cW]
 by_cases h:l=k
 rw[if_pos h];rfl
 rw[if_neg h,if_neg h];exact this
end Go.Al
/- The abstract logic, vp 60: an empty slice in a box gets a label. -/
namespace Go.Al
end Go.Al
/- The abstract logic, vp 61: numbers of another kind; a slice of one number is cleared; an append to the end of a row. -/
namespace Go.Al
theorem Val.conv{σ:Sg}{s:St}{o:Oper}(hσ:SgOk σ){t t':Nat}{x:Operand}{k k':IntKind}{n:Int}{dt:TypeDesc}{b:Bool}(ho:o.op= .convert t t' x)(hs:Al.Operand.short x=true)(hx:ev s x=some (.c (.d (.int k n))))(ht:σ.P.underlying t=some dt)(ht':σ.P.underlying t'=some (.int k')) :
  Val σ s o (.c (.d (.int k' (k'.wrap n)))):=fun Γ eq m F a w hR=>by
 subst eq
 have hv:=hR.ev hσ.lo hs hx
 generalize he:a.eval x=u at hv
 cases hv with
 | c hv=>cases hv with
  | d hv=>
   cases hv
   refine⟨.int k' (k'.wrap n),?_,.c (.d (.int (fD _ _) (fE _ _)))⟩
   simp[execOp,ho,he,convert,run_underlying ht,run_underlying ht',Conv.intToInt]
theorem k7{P:Program}{w:World}(t tx ty e:TypeId)(i:TypeInfo)(ht:P.underlying t=some (.slice e))(hi:P.info? e=some i)(b o sLen sCap:Nat)(x:Value)(n:Nat)(news:List Value)(hs:Src P i.size tx x n news w)
  (hroom:sLen+n≤sCap) {bO:Array Value} {T:Nat} (hb:w.heap[b]? = some (.cells bO T (0,0))) (hle:o+sLen*i.size+news.length≤bO.size) :
  (Builtin.append_ #[t,tx] ty #[.slice (some ⟨b,o,none⟩) sLen sCap,x]).run P w= .ok (.slice (some ⟨b,o,none⟩) (sLen+n) sCap) (w.setRow b (bO.toList.take (o+sLen*i.size)++news++bO.toList.drop (o+sLen*i.size+news.length)).toArray):=by
 have hst:=run_storeCells_at (P:=P) b (o+sLen*i.size) T news 0 bO w hb (by simpa using hle) hs.one
 simp only[Nat.add_zero]at hst
 rcases hs.kind with⟨e',hk⟩|hk<;>simp[Builtin.append_,run_underlying ht,run_underlying hk,sizeOf,typeInfo,hi,hs.len,hroom,hs.cells,Addr.add_lit,hst]
theorem mG{Γ m F FA FB F2 E s a w}{b c cap T:Nat}{bO:Array Value}(h:Rel1 Γ m F ([b]++((FA++FB)++(F2++E))) s a w)(hD:Dom m s)(hσ:SgOk Γ.toSg){d t tx ty:Nat}{i e:TI}(hd:s.fresh Γ.toSg d=true)(hn:Nat.blt d Γ.nt=true)(ht:lk Γ.tt t=some i)(hk:Nat.beq i.kind 1=true)(he:lk Γ.tt i.elem=some e)(hze:Nat.beq e.zero.length e.size=true)
  {own:Bool} {zs xs ys:List (List D)} {v0 v1 v2:List Value} {q:Value} (hxc:xs.length≤c) (hcc:zs.length+c≤cap) (a4: ∀x∈zs++xs,x.length=e.size) (a5:w.heap[b]? = some (.cells bO T (0,0))) (a6:cap*e.size≤bO.size) (a7:cap≤maxLen) (a8:cw w b 0 (v0++v1))
  (hz:RDL Γ.L w (fun b=>own=false∧Γ.ok F b) zs.flatten v0 FA) (a9:RDL Γ.L w (fun b=>own=false∧Γ.ok F b) xs.flatten v1 FB) (a10:own=false→FA++FB=[])
  (hS: ∀info:TypeInfo,info.size=e.size→Src Γ.P info.size tx q ys.length v2 w) (hy:RDL Γ.L w (fun b=>own=false∧Γ.ok F b) ys.flatten v2 F2) (hF2:own=false→F2=[])
  (hys: ∀x∈ys,x.length=e.size) (hL:zs.length+xs.length+ys.length≤Γ.L) (hb:(zs.length+xs.length+ys.length)*e.bytes≤140737488355328) :
  ∃u w' pre,pre.length≤zs.length∧(Builtin.append_ #[t,tx] ty #[.slice (some ⟨b,zs.length*e.size,none⟩) xs.length c,q]).run Γ.P w= .ok u w'∧fz Γ ⟨(d,.c (.rs d pre.length (xs++ys).length))::s.env,ins s.H d (.row own e.size (pre++(xs++ys)))⟩ (a.put (some d) u) w':=by
 have hu:=(hσ.tt.get ht).isSlice (tN.1 hk)
 obtain⟨info,hi,hsz,hby,z,hzz,hzl⟩:=(hσ.tt.get he).info
 have hS':=hS info hsz
 have hv2:v2.length=ys.length*e.size:=by rw[←hy.length,br hys]
 have hmx:Γ.L≤9223372036854775807:=hσ.hi
 have hput: ∀{u:Value} (own:Bool) (pre zs:List (List D)),Al.put Γ.nt ⟨s.env,ins s.H d (.row own e.size (pre++zs))⟩ (some d) (.c (.rs d pre.length zs.length))=some ⟨(d,.c (.rs d pre.length zs.length))::s.env,ins s.H d (.row own e.size (pre++zs))⟩:=fun own pre zs=>by simp[Al.put,hn]
 have hx4: ∀x∈xs,x.length=e.size:=fun x hx=>a4 x (List.mem_append_right _ hx)
 have hz4: ∀x∈zs,x.length=e.size:=fun x hx=>a4 x (List.mem_append_left _ hx)
 have hv1:v1.length=xs.length*e.size:=by rw[←a9.length,br hx4]
 have hv0:v0.length=zs.length*e.size:=by rw[←hz.length,br hz4]
 by_cases hroom:xs.length+ys.length≤c
 have hle:zs.length*e.size+xs.length*info.size+v2.length≤bO.size:=by
  have h1:(zs.length+xs.length+ys.length)*e.size≤cap*e.size:=Nat.mul_le_mul_right _ (by omega)
  rw[Nat.add_mul,Nat.add_mul]at h1
  rw[hsz,hv2];omega
 have hrun:=k7 t tx ty i.elem info hu hi b (zs.length*e.size) xs.length c q ys.length v2 hS' hroom a5 hle
 rw[hsz]at hrun hle
 generalize hW:w.setRow b (bO.toList.take (zs.length*e.size+xs.length*e.size)++v2++bO.toList.drop (zs.length*e.size+xs.length*e.size+v2.length)).toArray=w' at hrun
 refine⟨_,_,zs,cm _,hrun,?_⟩
 have hsame: ∀b',b'≠b→Same w w' b':=fun b' hb'=>by rw[←hW];exact setRow_other _ _ _ _ hb'
 have hsize:w'.heap.size=w.heap.size:=by rw[←hW];simp[World.setRow]
 have hw:=Rel1.write h (w':=w') (by rw[←hW];rfl) (by rw[←hW];rfl) (by rw[←hW];rfl) hsize (fun b' hb'=>hsame b' (fun e'=>hb' (by subst e';simp)))
  (fun k b' cap' sz' i' j' x' n c hb' hk _=>absurd hb' (h.notE (hD k b' cap' sz' hk) hk))
 obtain⟨FH,g1,g2⟩:=h.H
 have hnd:([b]++((FA++FB)++(F2++E))).Nodup:=(List.nodup_append.1 (g2.nodup_iff.1 h.nodup)).2.1
 have hbF:b∈F:=g2.mem_iff.2 (by simp)
 have hnb: ∀b'∈(FA++FB)++(F2++E),b'≠b:=by
  intro b' hb' e'
  subst e'
  exact(List.nodup_cons.1 hnd).1 hb'
 have hok: ∀b',b'<w.heap.size→(own=false∧Γ.ok F b')→(own=false∧Γ.ok F b')∧Same w w' b':=fun b' _ hb'=>⟨hb',hsame b' (fun e'=>hb'.2.1 (e' ▸ hbF))⟩
 have k0:=hz.mono hok (by omega) (fun b' hb'=>hsame b' (hnb b' (by simp[hb'])))
 have k1:=a9.mono hok (by omega) (fun b' hb'=>hsame b' (hnb b' (by simp[hb'])))
 have k2:=hy.mono hok (by omega) (fun b' hb'=>hsame b' (hnb b' (by simp[hb'])))
 have hcell: ∀p,w'.cell? ⟨b,p,none⟩=(bO.toList.take (zs.length*e.size+xs.length*e.size)++v2++bO.toList.drop (zs.length*e.size+xs.length*e.size+v2.length))[p]? := fun p=>by
  rw[←hW,cell_setRow_same w b p bO _ T (0,0) a5];simp
 have hal:bO.toList.length=bO.size:=Array.length_toList
 have htk:(bO.toList.take (zs.length*e.size+xs.length*e.size)).length=zs.length*e.size+xs.length*e.size:=by rw[List.length_take,hal];omega
 have hcells:cw w' b 0 ((v0++v1)++v2):=fun j v hj=>by
  rw[Nat.zero_add,hcell]
  have hvl:(v0++v1).length=zs.length*e.size+xs.length*e.size:=by rw[cG,hv0,hv1]
  rcases Nat.lt_or_ge j (zs.length*e.size+xs.length*e.size)with hlt|hge
  ·
   rw[List.getElem?_append_left (by omega)]at hj
   have:=a8 j v hj
   rw[Nat.zero_add,cell_of_row _ _ _ bO T _ a5]at this
   rw[List.getElem?_append_left (by rw[cG,htk];omega),List.getElem?_append_left (by omega),List.getElem?_take,if_pos hlt,Array.getElem?_toList]
   exact this
  ·
   rw[List.getElem?_append_right (by omega),hvl]at hj
   have hlt2:=(List.getElem?_eq_some_iff.1 hj).1
   rw[List.getElem?_append_left (by rw[cG,htk];omega),List.getElem?_append_right (by omega),htk]
   exact hj
 have hB:RB Γ.L w' (Γ.ok F) (fM m d (.at b cap e.size)) (.row own e.size (zs++(xs++ys))) (.at b cap e.size) (b::((FA++FB)++F2)):=by
  refine .row (T:=T) (bO:=(bO.toList.take (zs.length*e.size+xs.length*e.size)++v2++bO.toList.drop (zs.length*e.size+xs.length*e.size+v2.length)).toArray) (by simp only[cG];omega) (by simp only[cG];omega) (fun x hx=>?_) (by rw[←hW];exact setRow_heap w b bO _ T (0,0) a5) ?_ a7 ?_ (fun ho=>by rw[a10 ho,hF2 ho];rfl)
  rw[←dO]at hx
  rcases List.mem_append.1 hx with hx|hx
  exact a4 x hx
  exact hys x hx
  simp only[List.size_toArray,cG,htk,List.length_drop,Array.length_toList];omega
  rw[←dO,List.flatten_append,List.flatten_append]
  exact((k0.append k1).append k2).at hcells
 have h1:Rel1 Γ m F ((b::((FA++FB)++F2))++E) s a w':=hw.permE (by
  refine(List.perm_iff_count.2 fun x=>?_)
  simp only[List.count_append,List.cons_append,List.nil_append,List.count_cons];omega)
 have h2:=h1.give (l:=d) (bo hd).1 (bo hd).2 hB
 have h3:=h2.put (dst:=some d) (v:=.c (.rs d zs.length (xs++ys).length)) (x:=.slice (some ⟨b,zs.length*e.size,none⟩) (xs.length+ys.length) c) (.c (by
  have:=RM.rs (L:=Γ.L) (w:=w') (ok:=Γ.ok F) (m:=fM m d (.at b cap e.size)) (l:=d) (off:=zs.length) (len:=(xs++ys).length) (c:=c) (base:=⟨b,zs.length*e.size,none⟩) (bV _ _ _) (by simpa using hroom) (by omega) (.inr Z)
  rwa[cG]at this ⊢)) (hput (u:=undef) own zs (xs++ys))
 exact h3.toRel ((hD.ins d _ _ _).put (hput (u:=undef) own zs (xs++ys)))
 have hfit:=growslice_fits (bytes:=info.bytes) (show c<xs.length+ys.length by omega) (by rw[hby];refine Nat.le_trans (Nat.mul_le_mul_right _ ?_) hb;omega)
 have hold:(Builtin.firstCells info.size xs.length (.slice (some ⟨b,zs.length*e.size,none⟩) xs.length c)).run Γ.P w.drew= .ok v1.toArray w.drew:=run_firstCells_some _ _ _ ⟨b,zs.length*e.size,none⟩ _ _ v1 (by rw[hsz];exact hv1) (fun j v hj=>by
  rw[Addr.add_lit]
  have:=a8 (zs.length*e.size+j) v (by rw[List.getElem?_append_right (by omega),hv0,Nat.add_sub_cancel_left];exact hj)
  rw[Nat.zero_add]at this
  exact this)
 have hrun:=run_append_grow_src w t tx ty i.elem info z hu hi hzz (some ⟨b,zs.length*e.size,none⟩) xs.length c v1 hold q ys.length v2 hS' (by omega) (by omega) hfit
 refine⟨_,_,[],co _,hrun,?_⟩
 have hcap:=grownCap_ge w (xs.length+ys.length) c i.elem
 have hcapm:=grownCap_le_maxLen w (xs.length+ys.length) c i.elem (by unfold maxLen;omega)
 have h1:Rel1 Γ m F ((FB++F2)++([b]++(FA++E))) s a w.drew:=(h.permE (by
  refine(List.perm_iff_count.2 fun x=>?_)
  simp only[List.count_append];omega)).drew
 have hmono: ∀b,b<w.heap.size→(own=false∧Γ.ok F b)→(own=false∧Γ.ok F b)∧Same w w.drew b:=fun b _ hb=>⟨hb,rfl⟩
 have h2:RDL Γ.L w.drew (fun b=>own=false∧Γ.ok F b) (xs++ys).flatten (v1++v2) (FB++F2):=by
  rw[List.flatten_append]
  exact(a9.mono hmono (cm _) (fun _ _=>rfl)).append (hy.mono hmono (cm _) (fun _ _=>rfl))
 have hnr:=Rel1.newRow (T:=i.elem) (cap:=grownCap w (xs.length+ys.length) c i.elem) (sz:=e.size) (bO:=(v1++v2).toArray++Builtin.zeroCells z.cells (grownCap w (xs.length+ys.length) c i.elem-(xs.length+ys.length))) h1 hD hd h2
  (fun ho=>by have:=a10 ho;rw[List.append_eq_nil_iff]at this;rw[this.2,hF2 ho];rfl) (by simp only[cG];omega) (by simpa using hcap) (fun x hx=>by
   rcases List.mem_append.1 hx with hx|hx
   ·
    exact hx4 x hx
   ·
    exact hys x hx) (fun j v hj=>by
   rw[Array.getElem?_append]
   have hlt:=(List.getElem?_eq_some_iff.1 hj).1
   rw[if_pos (by simpa using hlt)]
   simpa using hj) ?_ hcapm (hput (u:=undef) own [] (xs++ys))
 rw[cG]at hnr ⊢
 simpa using hnr
 have hzl2:z.cells.size=e.size:=by rw[←Array.length_toList,hzl,aQ];exact tN.1 hze
 have hsub:grownCap w (xs.length+ys.length) c i.elem=xs.length+ys.length+(grownCap w (xs.length+ys.length) c i.elem-(xs.length+ys.length)):=by omega
 generalize grownCap w (xs.length+ys.length) c i.elem-(xs.length+ys.length)=r at hsub ⊢
 rw[hsub,Nat.add_mul,Nat.add_mul]
 simp[Builtin.zeroCells,hv1,hv2,hzl2]
section
variable{σ:Sg}{Q:b0}{all:Array Oper}{rest:List Oper}{o:Oper}{e:List (Nat×A)}{H:List (Nat×B)}{c:Call}{x y:Operand}{t tx d:Nat}{v:A}{i ti it:TI}{own:Bool}{xs ys:List (List D)}{l off len:Nat}
theorem mJ(hσ:SgOk σ)(ho:o.op= .call c)(hb:c.callee= .builtin .append)(ha:c.args.toList=[x,y])(hat:c.argTypes.toList=[t,tx])(hs1:Operand.short x=true)(hs2:Operand.short y=true)(hx:ev ⟨e,H⟩ x=some (.c (.rs l off len)))(hy:ev ⟨e,H⟩ y=some v)
  (ht:lk σ.tt t=some i) (hk:Nat.beq i.kind 1=true) (htx:lk σ.tt tx=some it) (hkx:Nat.beq it.kind 1=true) (he:lk σ.tt i.elem=some ti) (hze:Nat.beq ti.zero.length ti.size=true) (hd:o.dst=some d) (hn:Nat.blt d σ.nt=true)
  (hl:lk H l=some (.row own ti.size xs)) (hol:off+len=xs.length) (hF:Feed H own ti.size v ys) (hys: ∀x∈ys,x.length=ti.size) (hf:St.fresh (St.purge l ⟨e,H⟩) σ d=true) (hL:xs.length+ys.length≤σ.L) (hbb:(xs.length+ys.length)*ti.bytes≤140737488355328) (hg:o.guard=none)
  (K: ∀pre:List (List D),pre.length≤off→AOps σ all Q rest ⟨(d,.c (.rs d pre.length (xs.drop off++ys).length))::(St.purge l ⟨e,H⟩).env,ins (St.purge l ⟨e,H⟩).H d (.row own ti.size (pre++(xs.drop off++ys)))⟩):AOps σ all Q (o::rest) ⟨e,H⟩:=fun Γ eq a w hR=>by
 subst eq
 obtain⟨m,F,hR⟩:=hR
 obtain⟨us,hfd⟩:=hF.found hR hys (hR.ev hσ.lo hs2 hy)
 obtain⟨base,cc,hv,hcell⟩:=hfd.val
 have hux:=(hσ.tt.get htx).isSlice (tN.1 hkx)
 have hsrc: ∀info:TypeInfo,info.size=ti.size→Src Γ.P info.size tx (a.eval y) ys.length us w:=fun info hi=>by
  rw[hv]
  exact oc hux (by rw[←hfd.data.length,br hys,hi]) (fun u hu=>hfd.data.oneCell u hu) hcell
 have hvx:=hR.ev hσ.lo hs1 hx
 have key: ∃u w' pre,pre.length≤off∧(Builtin.append_ #[t,tx] o.type #[a.eval x,a.eval y]).run Γ.P w= .ok u w'∧fz Γ ⟨(d,.c (.rs d pre.length (xs.drop off++ys).length))::(St.purge l ⟨e,H⟩).env,ins (St.purge l ⟨e,H⟩).H d (.row own ti.size (pre++(xs.drop off++ys)))⟩ (a.put (some d) u) w':=by
  have hD:Dom (fM m l .nil) (St.purge l ⟨e,H⟩):=Dom.purge (s:=⟨e,H⟩) hR.dom l
  obtain⟨Fl,G,hB,hR1⟩:=hR.to1.takeAll0 hl
  have none: ∀{p:Value},Onto Γ.L w (Γ.ok F) own ti.size [] p [] [] []→xs.drop off=[]→∃u w' pre,pre.length≤off∧(Builtin.append_ #[t,tx] o.type #[p,a.eval y]).run Γ.P w= .ok u w'∧fz Γ ⟨(d,.c (.rs d pre.length (xs.drop off++ys).length))::(St.purge l ⟨e,H⟩).env,ins (St.purge l ⟨e,H⟩).H d (.row own ti.size (pre++(xs.drop off++ys)))⟩ (a.put (some d) u) w':=fun{p} hO hnil=>by
   obtain⟨u,w',h5,h6⟩:=fy (F2:=[]) (E:=Fl++(G++[])) (Fb:=[]) (F1:=[]) (t:=t) (tx:=tx) (ty:=o.type) (xs:=[]) (p:=p) hR1 hD hσ hf hn ht hk he hze hO hsrc hfd.data (fun _=>rfl) hys (by simp only[List.length_nil];omega) (by refine Nat.le_trans (Nat.mul_le_mul_right _ ?_) hbb;simp only[List.length_nil];omega)
   exact⟨u,w',[],co _,h5,by rw[hnil];exact h6⟩
  generalize a.eval x=p at hvx ⊢
  cases hvx with
  | c hvx=>
   obtain⟨b,cap,bs,c',sz',a1,a2,a3,a4,rfl⟩|⟨a1,h0,hz,bs,rfl⟩:=hvx.rs_inv
   by_cases hc0:c'=0
   subst hc0
   obtain rfl:len=0:=by omega
   exact none (.none Z) (List.drop_eq_nil_of_le (by omega))
   rcases a4 with a4|rfl
   exact absurd a4 hc0
   rw[a1]at hB
   cases hB with
   | @row _ _ _ _ _ bO T F1 b1 b2 b3 b4 b5 b6 b7 b8=>
    obtain⟨vs,c1,c2⟩:=RDL.of b7
    have hxe:xs=xs.take off++xs.drop off:=(List.take_append_drop off xs).symm
    rw[hxe,List.flatten_append]at c2
    obtain⟨v0,v1,FA,FB,rfl,rfl,d1,d2⟩:=c2.segs
    have hto:(xs.take off).length=off:=by rw[List.length_take];omega
    have hdl:(xs.drop off).length=len:=by rw[List.length_drop];omega
    have hR2:Rel1 Γ (fM m l .nil) F ([b]++((FA++FB)++([]++(G++[])))) (St.purge l ⟨e,H⟩) a w:=by simpa using hR1
    obtain⟨u,w',pre,g1,g2,g3⟩:=mG (c:=c') (cap:=cap) (t:=t) (tx:=tx) (ty:=o.type) (zs:=xs.take off) (xs:=xs.drop off) (ys:=ys) (q:=a.eval y) hR2 hD hσ hf hn ht hk he hze (by omega) (by omega) (fun z hz=>b3 z (by rw[hxe];exact hz)) b4 b5 b6 c1 d1 d2 b8 hsrc hfd.data (fun _=>rfl) hys (by rw[hto,hdl];omega) (by rw[hto,hdl,hol];exact hbb)
    rw[hto,hdl]at g2
    exact⟨u,w',pre,by omega,g2,g3⟩
   subst h0 hz
   exact none (.none Z) (List.drop_eq_nil_of_le (by omega))
 obtain⟨u,w',pre,g1,g2,g3⟩:=key
 have e1:c.args.map a.eval= #[a.eval x,a.eval y]:=by
  rw[←Array.toArray_toList (xs:=c.args),ha];simp
 have e2:c.argTypes= #[t,tx]:=by rw[←Array.toArray_toList (xs:=c.argTypes),hat]
 have hrun:(execOp a.eval o).run Γ.P w= .ok (.value u) w':=by simp only[execOp,ho,resolve,hb,Sem.run_bind,Sem.run_pure,Result.andThen_ok,invoke,builtin,e1,e2,g2]
 refine wpList_plain hg fun K' hK=>?_
 simp only[Oper.wp,hrun,Oper.upon]
 exact hK _ _ (K pre g1 Γ Z _ _ (by rw[hd];exact g3))
theorem qH{z:D}{ex:List D}{xs':List (List D)}(hσ:SgOk σ)(ho:o.op= .call c)(hb:c.callee= .builtin .clear)(ha:c.args.toList=[x])(hat:c.argTypes.toList=[t])(hs1:Operand.short x=true)(hx:ev ⟨e,H⟩ x=some (.c (.rs l off 1)))
  (ht:lk σ.tt t=some i) (hk:Nat.beq i.kind 1=true) (he:lk σ.tt i.elem=some ti) (hze:ti.zero=[z]) (hz1:ti.size=1) (hzp:z.plain=true) (hsc:(!own||z.scalar)=true) (hl:lk H l=some (.row own 1 xs)) (hno:St.noRp l ⟨e,dG H l⟩=true) (hd:o.dst=none)
  (hxs:xs[off]? = some ex) (hex:ex.length=1) (hxs':xs.set off [z]=xs'):HS σ ⟨e,H⟩ o ⟨e,ins (dG H l) l (.row own 1 xs')⟩:=fun Γ eq m F a w hR=>by
 subst eq
 subst hxs'
 have hvx:=hR.ev hσ.lo hs1 hx
 have hu:=(hσ.tt.get ht).isSlice (tN.1 hk)
 obtain⟨info,hi,hsz,hby,z',hzz,hzl⟩:=(hσ.tt.get he).info
 generalize hax:a.eval x=p at hvx
 cases hvx with
 | c hvx=>
  obtain⟨b,cap,bs,c',sz',a1,a2,a3,a4,rfl⟩|⟨a1,h0,hz,bs,rfl⟩:=hvx.rs_inv
  rcases a4 with a4|rfl
  omega
  have hzd:RDL Γ.L w (fun b=>own=false∧Γ.ok F b) [z] [z.val] []:=.cons (F1:=[]) (F2:=[]) (by
   have:=eX (L:=Γ.L) (w:=w) (ok:=fun b=>own=false∧Γ.ok F b) hzp
   exact this) .nil
  obtain⟨rfl,bO,T,g1,g2,g3⟩:=io (Fd:=[]) (E:=[]) (j:=0) hR.to1 hR.dom hl hno hxs hzd (fun _=>rfl) (by simp) a1
  have hst:=run_storeCells_at (P:=Γ.P) b (off*1) T [z.val] 0 bO w g1 (by simpa using g2) (fun v hv=>by
   have:=hzd.oneCell v hv
   exact this)
  have hzc:z'.cells.toList=[z.val]:=by rw[hzl,hze];rfl
  have hzc':z'.cells= #[z.val]:=by apply Array.ext';simpa using hzc
  have e1:c.args.map a.eval= #[a.eval x]:=by rw[←Array.toArray_toList (xs:=c.args),ha];simp
  have e2:c.argTypes= #[t]:=by rw[←Array.toArray_toList (xs:=c.argTypes),hat]
  refine .inl ⟨.tuple #[],w.setRow b (bO.toList.take (off*1+0)++[z.val]++bO.toList.drop (off*1+0+[z.val].length)).toArray,?_,?_⟩
  have hzv:(zeroValue i.elem).run Γ.P w= .ok z' w:=by simp[zeroValue,typeInfo,hi,hzz]
  simp only[execOp,ho,resolve,hb,Sem.run_bind,Sem.run_pure,Result.andThen_ok,invoke,builtin,e1,e2,hax,Builtin.clear_]
  simp[run_underlying hu,hzv,hzc',Builtin.zeroCells]at hst ⊢
  simp[hst]
  rw[hd]
  simp only[List.take_zero,List.nil_append,sG,Nat.zero_add]at g3
  rw[show ex.drop 1=[]from List.drop_eq_nil_of_le (by omega)]at g3
  have g4:fz Γ ⟨e,ins (dG H l) l (.row own 1 (xs.set off [z]))⟩ a (w.setRow b (bO.toList.take (off*1+0)++[z.val]++bO.toList.drop (off*1+0+[z.val].length)).toArray):=by simpa using g3
  exact g4
  omega
end
end Go.Al
/- The abstract logic, vp 62: the length of a slice that an append before has taken. -/
namespace Go.Al
section
variable{σ:Sg}{Q:b0}{all:Array Oper}{rest:List Oper}{o1 o2 o3:Oper}{e e1:List (Nat×A)}{H H1:List (Nat×B)}{d1 d2 d3 q l off n t:Nat}{c:Call}{i:TI}
end
end Go.Al
/- The abstract logic, vp 63: a slice of one value that takes several rows along, in a region of open order. -/
namespace Go.Al
end Go.Al
/- The abstract logic, vp 64: whether an empty row is nil, which is not known. -/
namespace Go.Al
end Go.Al
/- The abstract logic, vp 65: what a map holds for a key, alone; answers told as more. -/
namespace Go.Al
theorem nN{σ:Sg}{s:St}{o:Oper}(hσ:SgOk σ){t kt et l:Nat}{q:IntKind}{x y:Operand}{es:List (Int×D)}{k:Int}{z:D}(ho:o.op= .lookup t x y false)(hs1:Operand.short x=true)(hs2:Operand.short y=true)
  (hu:σ.P.underlying t=some (.map kt et)) (hk:σ.P.underlying kt=some (.int q)) (hz:(σ.P.info? et).bind (·.zero)=some z.val) (hzp:z.plain=true)
  (hx:ev s x=some (.c (.mp l))) (hl:lk s.H l=some (mN es)) (hy:ev s y=some (.c (.d (.int .i64 k)))):Val σ s o (.c (.d ((fc es k).getD z))):=fun Γ eq m F a w hR=>by
 subst eq
 have hp:=hR.ev hσ.lo hs1 hx
 have hq:=hR.ev hσ.lo hs2 hy
 obtain⟨F1,hB,_⟩:=hR.H.get hl
 generalize ex:a.eval x=p at hp
 generalize ey:a.eval y=v at hq
 cases hp with
 | c hp => cases hp with
  | @mp _ b hm=>
   rw[hm]at hB
   cases hq with
   | c hq => cases hq with
    | d hq=>
     cases hq
     cases hB with
     | @map _ _ bO c h1 h2=>
      have hck: ∀e,(Instr.checkKey e 10000 kt (.int .i64 k)).run Γ.P w= .ok () w:=fun e=>by
       rw[show(10000:Nat)=9999+1 from Z]
       unfold Instr.checkKey
       simp[run_underlying hk]
      have hzr:(zeroValue et).run Γ.P w= .ok z.val w:=by
       cases hi:Γ.P.info? et with
       | none=>simp[hi]at hz
       | some i=>simp[hi]at hz;simp[zeroValue,typeInfo,hi,hz]
      rcases h2.find (q:=q) (k:=k) (i:=0)with⟨h3,h4,_⟩|⟨dd,j,en,h3,h4,h5,h6,h7,_⟩
      ·
       refine⟨z.val,?_,?_⟩
       ·
        simp[execOp,ho,ex,ey,Instr.lookup,run_underlying hu,MapKept.run_getObj_map h1,hck,MapKept.run_findKey hk h4,hzr]
       ·
        rw[h3];exact .c (.d (eX hzp))
      ·
       refine⟨en.val,?_,?_⟩
       ·
        simp[execOp,ho,ex,ey,Instr.lookup,run_underlying hu,MapKept.run_getObj_map h1,hck,MapKept.run_findKey hk h4]
       ·
        rw[h3];exact .c (.d h7)
end Go.Al
/- The abstract logic, vp 66: a contract for data, given a block of one's own. -/
namespace Go.Al
inductive FAL(l:Nat)(blk:B):List A→List A→Prop
 | nil:FAL l blk [] []
 | cons {u v r r'}:FA l blk u v→FAL l blk r r'→FAL l blk (u::r) (v::r')
theorem w5{C:Prop}{σ:Sg}{e:List (Nat×Al.A)}{H H':List (Nat×B)}{B':St→Prop}(h:HN H H')(k:C∧∃s2,Ent σ ⟨e,H'⟩ s2∧B' s2):C∧∃s2,Ent σ ⟨e,H⟩ s2∧B' s2:=by rw[h.eq];exact k
theorem sr{C:Prop}{σ:Sg}{e:List (Nat×Al.A)}{H H':List (Nat×B)}{s2:St}(h:HN H H')(k:C∧Ent σ ⟨e,H'⟩ s2):C∧Ent σ ⟨e,H⟩ s2:=by rw[h.eq];exact k
end Go.Al
/- The abstract logic, vp 67: methods bound to a pointer; an aZ is put into a map in a region of open order. -/
namespace Go.Al
section
variable{σ:Sg}{Q:b0}{all:Array Oper}{o:Oper}{rest:List Oper}{c:Call}{fx:Operand}{f:Nat}{as ds:List A}{e E W:List (Nat×A)}{H Hout:List (Nat×B)}{d:Nat}{R:A}{bin:List B}
end
end Go.Al
/- The abstract logic: rules in a short form. -/
namespace Go.Al
theorem oe{a b:Nat}(h:Nat.blt a b=true):a<b:=by simpa using h
theorem ai{a b:Prop}(ha:a)(hb:b):a∧b:=⟨ha,hb⟩
def lc(σ:Sg)(s:St)(o:Oper):Option (Nat×A):=match o.dst with
 | some d=>bif Al.Oper.shorts o&&(o.guard.isNone&&Nat.blt d σ.nt)then(match fd σ.tt σ.L s o with|some v=>some (d,v)|none=>none)else none
 | none=>none
def nY(σ:Sg)(s:St)(o:Oper):Option A:=bif Al.Oper.shorts o then fd σ.tt σ.L s o else none
def u5(σ:Sg)(o:Oper):Option Nat:=match o.dst with
 | some d=>bif Al.Oper.shorts o&&(o.guard.isNone&&Nat.blt d σ.nt)then some d else none
 | none=>none
def w7(σ:Sg)(s:St)(o:Oper):Option (Nat×List M):=match o.op with
 | .store t x y=>bif (Operand.short x&&Operand.short y)&&(o.guard.isNone&&o.dst.isNone)then(match ev s x,ev s y,lk σ.tt t with
  | some (.c (.pt l 0 j)),some v,some i=>(match lk s.H l,v.cells with
   | some (.box cs),some ms=>bif Nat.beq ms.length i.size&&Nat.ble (j+i.size) cs.length then some (l,splice cs j ms)else none
   | _,_=>none)
  | _,_,_=>none)else none
 | _=>none
def yO(σ:Sg)(s:St)(o:Oper):Option (Nat×List M):=match o.op,o.dst with
 | .box _ x,some d=>bif (Operand.short x&&o.guard.isNone)&&(St.fresh s σ d&&Nat.blt d σ.nt)then(match ev s x with
  | some v=>(match v.cells with|some ms=>some (d,ms)|none=>none)
  | none=>none)else none
 | _,_=>none
def yP(σ:Sg)(s:St)(o:Oper):Option (Nat×List D):=match o.op,o.dst with
 | .alloc t,some d=>bif o.guard.isNone&&(St.fresh s σ d&&Nat.blt d σ.nt)then(match lk σ.tt t with|some i=>some (d,i.zero)|none=>none)else none
 | _,_=>none
def yJ(σ:Sg)(s:St)(o:Oper):Option (Nat×List (List D)):=match u5 σ o,o.op with
 | some d,.call cl=>(match cl.callee,cl.args.toList,cl.argTypes.toList with
  | .builtin .len,[x],[t]=>(match ev s x,lk σ.tt t with
   | some (.c (.d (.slc _ xs))),some i=>bif Nat.beq i.kind 1 then some (d,xs)else none
   | _,_=>none)
  | _,_,_=>none)
 | _,_=>none
def yI(all:Array Oper)(s:St)(o:Oper):Bool:=match o.guard with
 | some (j,want)=>(match(all[j]?).bind (·.dst)with
  | some t=>(match lk s.env t with|some (.c (.d (.bool x)))=>x==want|_=>false)
  | none=>false)
 | none=>false
theorem dV{σ:Sg}{o:Oper}{d:Nat}(h:u5 σ o=some d):Al.Oper.shorts o=true∧o.guard=none∧o.dst=some d∧Nat.blt d σ.nt=true:=by
 unfold u5 at h
 split at h
 rename_i d' hd
 cases hb:(Al.Oper.shorts o&&(o.guard.isNone&&Nat.blt d' σ.nt))with
 | false=>rw[hb]at h;cases h
 | true=>
  rw[hb]at h
  simp only[bD,Option.isNone_iff_eq_none]at hb
  cases h
  exact⟨hb.1,hb.2.1,hd,hb.2.2⟩
 cases h
def pn(a:List Nat)(i j:Nat):PO:=⟨a,i,j,none⟩
def pe(a:List Nat)(k:Nat):PO:=⟨a,0,0,some k⟩
section
variable{σ:Sg}{s t:St}{o:Oper}{v:A}{c K:Prop}
theorem V[hσ:SgOk σ](h:nY σ s o=some v):Val σ s o v:=by
 unfold nY at h
 cases hs:Al.Oper.shorts o with
 | true=>rw[hs]at h;exact Val.of hσ h hs
 | false=>rw[hs]at h;cases h
theorem kc[hσ:SgOk σ](h:nY σ s o=some v)(k:K):Val σ s o v∧K:=⟨V h,k⟩
theorem kw[hσ:SgOk σ](h:nY σ s o=some v)(hc:c):Val σ s o v∧c:=⟨V h,hc⟩
theorem ka[hσ:SgOk σ](h:nY σ s o=some v)(hc:c)(k:K):(Val σ s o v∧c)∧K:=⟨⟨V h,hc⟩,k⟩
theorem kg[hσ:SgOk σ](h:nY σ t o=some v)(h':nY σ s o=some v)(hc:c):(Val σ s o v∧Val σ t o v)∧c:=⟨⟨V h',V h⟩,hc⟩
theorem kf[hσ:SgOk σ](h:nY σ t o=some v)(h':nY σ s o=some v)(hc:c)(k:K):((Val σ s o v∧Val σ t o v)∧c)∧K:=⟨⟨⟨V h',V h⟩,hc⟩,k⟩
theorem mV{d:Nat}(hσ:SgOk σ)(h:lc σ s o=some (d,v)):(fd σ.tt σ.L s o=some v∧Al.Oper.shorts o=true)∧o.guard=none∧o.dst=some d∧Nat.blt d σ.nt=true:=by
 unfold lc at h
 split at h
 rename_i d' hd
 cases hb:(Al.Oper.shorts o&&(o.guard.isNone&&Nat.blt d' σ.nt))with
 | false=>rw[hb]at h;cases h
 | true=>
  rw[hb,cond_true]at h
  simp only[bD,Option.isNone_iff_eq_none]at hb
  split at h
  rename_i v' hv
  cases h
  exact⟨⟨hv,hb.1⟩,hb.2.1,hd,hb.2.2⟩
  cases h
 cases h
end
section
variable{σ:Sg}{Q:b0}{all:Array Oper}{o p q o4 o5 o6 o7 o8:Oper}{rest:List Oper}{e:List (Nat×A)}{H:List (Nat×B)}{d a b d4 d5 d6 d7 d8:Nat}{v x y v4 v5 v6 v7 v8:A}
theorem js[hσ:SgOk σ](h:lc σ ⟨e,H⟩ o=some (d,v))(K:AOps σ all Q rest ⟨(d,v)::e,H⟩):AOps σ all Q (o::rest) ⟨e,H⟩:=by
 obtain⟨h1,h2,h3,h4⟩:=mV hσ h
 exact AOps.step (Val.of hσ h1.1 h1.2) h2 h3 h4 K
theorem j2[hσ:SgOk σ](h:lc σ ⟨e,H⟩ o=some (d,v))(h2:lc σ ⟨(d,v)::e,H⟩ p=some (a,x))(K:AOps σ all Q rest ⟨(a,x)::(d,v)::e,H⟩):AOps σ all Q (o::p::rest) ⟨e,H⟩:=js h (js h2 K)
theorem j3[hσ:SgOk σ](h:lc σ ⟨e,H⟩ o=some (d,v))(h2:lc σ ⟨(d,v)::e,H⟩ p=some (a,x))(h3:lc σ ⟨(a,x)::(d,v)::e,H⟩ q=some (b,y))(K:AOps σ all Q rest ⟨(b,y)::(a,x)::(d,v)::e,H⟩):AOps σ all Q (o::p::q::rest) ⟨e,H⟩:=js h (j2 h2 h3 K)
theorem j4[hσ:SgOk σ](h:lc σ ⟨e,H⟩ o=some (d,v))(h2:lc σ ⟨(d,v)::e,H⟩ p=some (a,x))(h3:lc σ ⟨(a,x)::(d,v)::e,H⟩ q=some (b,y))(h4:lc σ ⟨(b,y)::(a,x)::(d,v)::e,H⟩ o4=some (d4,v4))(K:AOps σ all Q rest ⟨(d4,v4)::(b,y)::(a,x)::(d,v)::e,H⟩):AOps σ all Q (o::p::q::o4::rest) ⟨e,H⟩:=js h (j3 h2 h3 h4 K)
theorem ji{n:Int}[hσ:SgOk σ](h:lc σ ⟨e,H⟩ o=some (d,.c (.d (.int .i64 (IntKind.i64.wrap n)))))(K:AOps σ all Q rest ⟨(d,.c (.d (.int .i64 n)))::e,H⟩)(h1: -9223372036854775808≤n:=by first|omega|(simp at *;omega))(h2:n≤9223372036854775807:=by first|omega|(simp at *;omega)):AOps σ all Q (o::rest) ⟨e,H⟩:=by
 obtain⟨g1,g2,g3,g4⟩:=mV hσ h
 exact AOps.step (aL hσ g1.1 g1.2 h1 h2) g2 g3 g4 K
theorem jo{l:Nat}{cs:List M}[hσ:SgOk σ](h:w7 σ ⟨e,H⟩ o=some (l,cs))(K:AOps σ all Q rest ⟨e,ins (dG H l) l (.box cs)⟩):AOps σ all Q (o::rest) ⟨e,H⟩:=by
 unfold w7 at h
 split at h
 rename_i t x y ho
 cases hb:((Operand.short x&&Operand.short y)&&(o.guard.isNone&&o.dst.isNone))with
 | false=>rw[hb]at h;cases h
 | true=>
  rw[hb,cond_true]at h
  simp only[bD,Option.isNone_iff_eq_none]at hb
  split at h
  rename_i l' j v i hx hy ht
  split at h
  rename_i cs' ms hl hm
  cases hc:(Nat.beq ms.length i.size&&Nat.ble (j+i.size) cs'.length)with
  | false=>rw[hc]at h;cases h
  | true=>
   rw[hc]at h
   simp only[bD]at hc
   cases h
   exact AOps.heap (jS hσ ho hb.1.1 hb.1.2 hx hl hy hm ht hc.1 hc.2 hb.2.2) hb.2.1 K
  cases h
  cases h
 cases h
theorem jx{ms:List M}[hσ:SgOk σ](h:yO σ ⟨e,H⟩ o=some (d,ms))(K:AOps σ all Q rest ⟨(d,.c (.pt d 0 0))::e,ins H d (.box ms)⟩):AOps σ all Q (o::rest) ⟨e,H⟩:=by
 unfold yO at h
 split at h
 rename_i t x d' ho hd
 cases hb:((Operand.short x&&o.guard.isNone)&&(St.fresh ⟨e,H⟩ σ d'&&Nat.blt d' σ.nt))with
 | false=>rw[hb]at h;cases h
 | true=>
  rw[hb,cond_true]at h
  simp only[bD,Option.isNone_iff_eq_none]at hb
  split at h
  rename_i v hx
  split at h
  rename_i ms' hm
  cases h
  exact AOps.heap (HS.box hσ ho hb.1.1 hx hm hd hb.2.1 hb.2.2) hb.1.2 K
  cases h
  cases h
 cases h
theorem jl{ms:List D}[hσ:SgOk σ](h:yP σ ⟨e,H⟩ o=some (d,ms))(K:AOps σ all Q rest ⟨(d,.c (.pt d 0 0))::e,ins H d (.box (ms.map .d))⟩):AOps σ all Q (o::rest) ⟨e,H⟩:=by
 unfold yP at h
 split at h
 rename_i t d' ho hd
 cases hb:(o.guard.isNone&&(St.fresh ⟨e,H⟩ σ d'&&Nat.blt d' σ.nt))with
 | false=>rw[hb]at h;cases h
 | true=>
  rw[hb,cond_true]at h
  simp only[bD,Option.isNone_iff_eq_none]at hb
  split at h
  rename_i i ht
  cases h
  exact AOps.heap (HS.alloc hσ ho ht hd hb.2.1 hb.2.2) hb.1 K
  cases h
 cases h
theorem aR{v:A}{c:Prop}{inst:Decidable c}[hσ:SgOk σ](h:fd σ.tt σ.L ⟨e,H⟩ o= @ite _ c inst (some v) none)(hq:u5 σ o=some d)(K:AOps σ all Q rest ⟨(d,v)::e,H⟩)(hc:c:=by first|omega|(simp at *;omega)):AOps σ all Q (o::rest) ⟨e,H⟩:=by
 obtain⟨h1,h2,h3,h4⟩:=dV hq
 exact AOps.step (c6 hσ h h1 hc) h2 h3 h4 K
theorem bP{α:Type}{f:α→List D}{xs:List α}[hσ:SgOk σ](h:yJ σ ⟨e,H⟩ o=some (d,xs.map f))(K:AOps σ all Q rest ⟨(d,.c (.d (.int .i64 xs.length)))::e,H⟩):AOps σ all Q (o::rest) ⟨e,H⟩:=by
 unfold yJ at h
 split at h
 rename_i d' cl hq ho
 obtain⟨h1,h2,h3,h4⟩:=dV hq
 split at h
 rename_i x t hb ha ht
 split at h
 rename_i sz ys i hx hi
 cases hk:Nat.beq i.kind 1 with
 | false=>rw[hk]at h;cases h
 | true=>
  rw[hk]at h
  simp only[cond_true,el,Prod.mk.injEq]at h
  obtain⟨rfl,rfl⟩:=h
  exact AOps.step (bK hσ ho hb ha ht h1 hx hi hk) h2 h3 h4 K
 cases h
 cases h
 cases h
theorem bh(h:yI all ⟨e,H⟩ o=true)(K:AOps σ all Q ({o with guard:=none}::rest) ⟨e,H⟩):AOps σ all Q (o::rest) ⟨e,H⟩:=by
 unfold yI at h
 split at h
 rename_i j want hg
 split at h
 rename_i t hd
 split at h
 rename_i x hl
 exact qO hg hd hl h Z K
 cases h
 cases h
 cases h
end
section
variable{σ:Sg}{Q:b0}{id:Nat}{l:List Oper}{e0:List (Nat×A)}
def vi(vs:List A)(plan:List PO)(effs:List Nat)(l:List Oper)(e0:List (Nat×A))(nt:Nat):Bool:=(Nat.beq vs.length l.length&&Nat.beq plan.length l.length)&&((fR effs&&effs.all fun x=>Nat.blt x l.length)&&waitOk plan effs effs.length (l.map (·.dst)) l.length e0 nt 0 l plan)
theorem ca{vs:List A}{plan:List PO}{effs:List Nat}{l:List Oper}{e0:List (Nat×A)}{nt:Nat}(h:vi vs plan effs l e0 nt=true):(vs.length=l.length∧plan.length=l.length)∧(effs.Nodup∧∀x∈effs,x<l.length)∧waitOk plan effs effs.length (l.map (·.dst)) l.length e0 nt 0 l plan=true:=by
 unfold vi at h
 simp only[bD]at h
 obtain⟨⟨h1,h2⟩,⟨h3,h4⟩,h5⟩:=h
 exact⟨⟨Nat.eq_of_beq_eq_true h1,Nat.eq_of_beq_eq_true h2⟩,⟨dg h3,fun x hx=>oe (List.all_eq_true.1 h4 x hx)⟩,h5⟩
theorem u6[hσ:SgOk σ](vs:List A)(plan:List PO)(effs:List Nat)(Hs:List (List (Nat×B)))(nws:List (List Nat))(hob:oblsP σ l vs e0 plan Hs nws 0 l plan vs)(K:Q .normal ⟨aJ (bk nws effs.length) (dT l vs e0),Hs.getD effs.length []⟩)(hk:vi vs plan effs l e0 σ.nt=true:=by kernel_rfl):AWP σ (.region id l.toArray true) Q ⟨e0,Hs.getD 0 []⟩:=
 lT hσ e0 vs plan effs Hs nws (ca hk).1.1 (ca hk).1.2 (ca hk).2.1.1 (ca hk).2.1.2 (ca hk).2.2 hob K
theorem gK[hσ:SgOk σ](vs:List A)(plan:List PO)(effs:List Nat)(Hs:List (List (Nat×B)))(hob:oX σ l vs e0 plan Hs 0 l plan vs)(K:Q .normal ⟨dT l vs e0,Hs.getD effs.length []⟩)(hk:vi vs plan effs l e0 σ.nt=true:=by kernel_rfl):AWP σ (.region id l.toArray true) Q ⟨e0,Hs.getD 0 []⟩:=
 qJ hσ e0 vs plan effs Hs (ca hk).1.1 (ca hk).1.2 (ca hk).2.1.1 (ca hk).2.1.2 (ca hk).2.2 hob K
theorem yL[hσ:SgOk σ](vs:List A)(plan:List PO)(effs:List Nat)(fa d:Nat)(blk:B)(Hs0 tail:List (List (Nat×B)))(nws:List (List Nat))(hob:oblsF σ l vs e0 plan fa Hs0 (Hs0.map (fun H=>ins H d blk)++tail) nws 0 l plan vs)
  (K:Q .normal ⟨aJ (bk nws effs.length) (dT l vs e0),(Hs0.map (fun H=>ins H d blk)++tail).getD effs.length []⟩) (hk:(vi vs plan effs l e0 σ.nt&&(Nat.blt fa l.length&&(match plan[fa]? with|some p=>p.eff.isNone|none=>false)))=true:=by kernel_rfl):AWP σ (.region id l.toArray true) Q ⟨e0,Hs0.getD 0 []⟩:=by
 simp only[bD]at hk
 obtain⟨h0,h1,h2⟩:=hk
 refine oT hσ e0 vs plan effs fa d blk Hs0 tail nws (ca h0).1.1 (ca h0).1.2 (ca h0).2.1.1 (ca h0).2.1.2 (oe h1) ?_ (ca h0).2.2 hob K
 cases hp:plan[fa]? with
 | none=>rw[hp]at h2;cases h2
 | some p=>rw[hp]at h2;simp only[Option.isNone_iff_eq_none]at h2;simp[h2]
end
section
variable{σ:Sg}{Q:b0}{s:St}{x y c:Code}{id:Nat}
theorem yQ[hσ:SgOk σ]{c:Operand}{b:Bool}(hc:ev s c=some (.c (.d (.bool b))))(ho:Operand.short c=true)(ht:b=true→AWP σ x Q s)(hf:b=false→AWP σ y Q s):AWP σ (.cond c x y) Q s:=AWP.cond hσ hc ho ht hf
theorem aa(h:AWP σ x (jz (AWP σ y Q) Q) s):AWP σ (.seq x y) Q s:=AWP.seq h
theorem ac(h:Q .normal s):AWP σ .skip Q s:=AWP.skip h
theorem f9(h:Q .ret s):AWP σ .ret Q s:=AWP.ret h
theorem ah(h:AWP σ c (kD id Q) s):AWP σ (.block id c) Q s:=AWP.block h
theorem aM(h:Q (.exit id) s):AWP σ (.exit id) Q s:=AWP.exit h
theorem ab{l:List Oper}(h:AOps σ l.toArray Q l s):AWP σ (.region id l.toArray false) Q s:=AWP.region h
theorem yK{C:Prop}{e:List (Nat×A)}{H H':List (Nat×B)}{s2:St}(k:C∧Ent σ ⟨e,H'⟩ s2)(h:HN H H':=by repeat' (first|apply HN.cons rfl|exact HN.nil rfl|exact BN.row rfl|exact BN.map rfl|apply BN.box rfl|apply MN.cons rfl|exact MN.nil rfl|exact XN.d rfl|exact XN.rs rfl|exact mu)):C∧Ent σ ⟨e,H⟩ s2:=sr h k
theorem bt:Ent σ s s:=Ent.refl
end
def u7(σ:Sg)(s:St)(o:Oper):Option (List (List D)×Int):=match o.op with
 | .indexAddr t x y=>bif Al.Oper.shorts o then(match ev s x,ev s y,lk σ.tt t with
  | some (.c (.d (.slc sz xs))),some (.c (.d (.int _ n))),some i=>(match lk σ.tt i.elem with
   | some j=>bif Nat.beq i.kind 1&&Nat.beq sz j.size then some (xs,n)else none
   | none=>none)
  | _,_,_=>none)else none
 | _=>none
def rg:Nat→Nat→List Nat
 | _,0=>[]
 | a,n+1=>a::rg (a+1) n
section
variable{σ:Sg}{s:St}{o:Oper}{v:A}
theorem iR{xs:List (List D)}{n:Int}{e:List D}[hσ:SgOk σ](h:u7 σ s o=some (xs,n))(h0:0≤n)(he:xs[n.toNat]? = some e):Val σ s o (.c (.d (.ptr e 0))):=by
 unfold u7 at h
 split at h
 rename_i t x y ho
 cases hs:Al.Oper.shorts o with
 | false=>rw[hs]at h;cases h
 | true=>
  rw[hs,cond_true]at h
  split at h
  rename_i sz ys k m i hx hy ht
  split at h
  rename_i j hj
  cases hb:(Nat.beq i.kind 1&&Nat.beq sz j.size)with
  | false=>rw[hb]at h;cases h
  | true=>
   rw[hb]at h
   simp only[bD]at hb
   simp only[cond_true,el,Prod.mk.injEq]at h
   obtain⟨rfl,rfl⟩:=h
   exact im hσ ho hs hx hy ht hb.1 hj hb.2 h0 he
  cases h
  cases h
 cases h
theorem vN{α:Type}[Inhabited α]{f:α→List D}{l:List α}{n:Nat}[hσ:SgOk σ](h:u7 σ s o=some (l.map f,(n:Int)))(hl:n<l.length:=by first|omega|(simp at *;omega)):Val σ s o (.c (.d (.ptr (f (l.getD n default)) 0))):=iR h (Int.natCast_nonneg n) (bJ hl)
theorem vD{α:Type}[Inhabited α]{f:α→List D}{l:List α}{n:Int}[hσ:SgOk σ](h:u7 σ s o=some (l.map f,n))(h0:0≤n:=by first|omega|(simp at *;omega))(hl:n<(l.length:Int):=by first|omega|(simp at *;omega)):Val σ s o (.c (.d (.ptr (f (l.getD n.toNat default)) 0))):=iR h h0 (mn h0 hl)
theorem vF{n:Int}[hσ:SgOk σ](h:nY σ s o=some (.c (.d (.int .i64 (IntKind.i64.wrap n)))))(h1: -9223372036854775808≤n:=by first|omega|(simp at *;omega))(h2:n≤9223372036854775807:=by first|omega|(simp at *;omega)):Val σ s o (.c (.d (.int .i64 n))):=by
 unfold nY at h
 cases hs:Al.Oper.shorts o with
 | true=>rw[hs]at h;exact aL hσ h hs h1 h2
 | false=>rw[hs]at h;cases h
theorem vI{c:Prop}{inst:Decidable c}[hσ:SgOk σ](h:fd σ.tt σ.L s o= @ite _ c inst (some v) none)(hs:Al.Oper.shorts o=true)(hc:c:=by first|omega|(simp at *;omega)):Val σ s o v:=c6 hσ h hs hc
end
section
variable{σ:Sg}{Q:b0}{all:Array Oper}{o:Oper}{rest:List Oper}{e:List (Nat×A)}{H:List (Nat×B)}{d:Nat}
theorem fO{α:Type}[Inhabited α]{f:α→List D}{l:List α}{n:Nat}[hσ:SgOk σ](h:u7 σ ⟨e,H⟩ o=some (l.map f,(n:Int)))(hq:u5 σ o=some d)(K:AOps σ all Q rest ⟨(d,.c (.d (.ptr (f (l.getD n default)) 0)))::e,H⟩)(hl:n<l.length:=by first|omega|(simp at *;omega)):AOps σ all Q (o::rest) ⟨e,H⟩:=
 AOps.step (iR h (Int.natCast_nonneg n) (bJ hl)) (dV hq).2.1 (dV hq).2.2.1 (dV hq).2.2.2 K
theorem er{α:Type}[Inhabited α]{f:α→List D}{l:List α}{n:Int}[hσ:SgOk σ](h:u7 σ ⟨e,H⟩ o=some (l.map f,n))(hq:u5 σ o=some d)(K:AOps σ all Q rest ⟨(d,.c (.d (.ptr (f (l.getD n.toNat default)) 0)))::e,H⟩)(h0:0≤n:=by first|omega|(simp at *;omega))(hl:n<(l.length:Int):=by first|omega|(simp at *;omega)):AOps σ all Q (o::rest) ⟨e,H⟩:=
 AOps.step (iR h h0 (mn h0 hl)) (dV hq).2.1 (dV hq).2.2.1 (dV hq).2.2.2 K
end
section
variable{σ:Sg}{Q:b0}{id:Nat}{l:List Oper}{e0:List (Nat×A)}
theorem jV[hσ:SgOk σ](vs:List A)(plan:List PO)(effs:List Nat)(Hs:List (List (Nat×B)))(hob:oblsG σ l vs e0 plan Hs 0 l plan vs)(K:Q .normal ⟨dT l vs e0,Hs.getD effs.length []⟩)(hk:((Nat.beq vs.length l.length&&Nat.beq plan.length l.length)&&((fR effs&&effs.all fun x=>Nat.blt x l.length)&&waitOkG l vs plan effs effs.length (l.map (·.dst)) l.length e0 σ.nt 0 l plan))=true:=by kernel_rfl):AWP σ (.region id l.toArray true) Q ⟨e0,Hs.getD 0 []⟩:=by
 simp only[bD]at hk
 obtain⟨⟨h1,h2⟩,⟨h3,h4⟩,h5⟩:=hk
 exact qK hσ e0 vs plan effs Hs (Nat.eq_of_beq_eq_true h1) (Nat.eq_of_beq_eq_true h2) (dg h3) (fun x hx=>oe (List.all_eq_true.1 h4 x hx)) h5 hob K
end
theorem fk{l:Nat}{blk:B}{xs:List M}(h:Ms.free l xs=true):FMs l blk xs xs:=FMs.keep h
def xi(l:Nat)(e:List (Nat×A)):List Nat→Option (List (Nat×A))
 | []=>some []
 | k::ks=>match lk e k,xi l e ks with
  | some v,some r=>bif A.free l v then some ((k,v)::r)else none
  | _,_=>none
theorem fe{l:Nat}{blk:B}{e:List (Nat×A)}: ∀(ks:List Nat) {r:List (Nat×A)},xi l e ks=some r→FAs l blk e r
 | [],r,h=>by cases h;exact .nil
 | k :: ks,r,h=>by
  unfold xi at h
  split at h
  rename_i v r' h1 h2
  cases hf:A.free l v with
  | false=>rw[hf]at h;cases h
  | true=>
   rw[hf]at h
   cases h
   exact .cons h1 (.keep hf) (fe ks h2)
  cases h
section
variable{σ:Sg}{Q:Exit→St→Prop}{s:St}{o:Oper}{E W:List (Nat×A)}{H:List (Nat×B)}{all:Array Oper}
theorem jr(h:Q .ret s):AOps σ all (jz (AWP σ .ret Q) Q) [] s:=AOps.nil (AWP.ret h)
theorem eS{l:Nat}{cs:List M}{v':A}{H':List (Nat×B)}[hσ:SgOk σ](h:w7 σ ⟨E,H⟩ o=some (l,cs))(hv':v'= .un)(hH':H'=ins (dG H l) l (.box cs)):Eff σ E W H o v' H':=by
 unfold w7 at h
 split at h
 rename_i t x y ho
 cases hb:((Operand.short x&&Operand.short y)&&(o.guard.isNone&&o.dst.isNone))with
 | false=>rw[hb]at h;cases h
 | true=>
  rw[hb,cond_true]at h
  simp only[bD,Option.isNone_iff_eq_none]at hb
  split at h
  rename_i l' j v i hx hy ht
  split at h
  rename_i cs' ms hl hm
  cases hc:(Nat.beq ms.length i.size&&Nat.ble (j+i.size) cs'.length)with
  | false=>rw[hc]at h;cases h
  | true=>
   rw[hc]at h
   simp only[bD]at hc
   cases h
   exact mH hσ ho hb.1.1 hb.1.2 hx hl hy hm ht hc.1 hc.2 hb.2.2 hv' hH'
  cases h
  cases h
 cases h
end
end Go.Al
/- The abstract logic: bits of numbers without a sign. -/
namespace Go.Al
section
variable{σ:Sg}{s:St}{o:Oper}
end
end Go.Al
/- The abstract logic, vp 70: literals of several elements that are data at once, in a region of open order. -/
namespace Go.Al
end Go.Al
/- The abstract logic, vp 71: regions of open order with silent literals and without a new variable. -/
namespace Go.Al
end Go.Al
/- The abstract logic, vp 72: a row's slice from the beginning, with its bound. -/
namespace Go.Al
section
variable{σ:Sg}{o:Oper}{s:St}
end
end Go.Al
/- The abstract logic, vp 73: an element of a slice that an own row's element holds is read, or written. -/
namespace Go.Al
end Go.Al
/- The abstract logic, vp 74: a box whose nil slices are told as slices of no element. -/
namespace Go.Al
inductive MLe1:M→M→Prop
 | refl {x}:MLe1 x x
 | nil {sz}:MLe1 (.d .nils) (.d (.slc sz []))
inductive MLess:List M→List M→Prop
 | nil:MLess [] []
 | cons {x y xs ys}:MLe1 x y→MLess xs ys→MLess (x::xs) (y::ys)
end Go.Al
/- The abstract logic: texts as lists of bytes. -/
namespace Go.Al
def bS(l:List UInt8):ByteArray:=⟨l.toArray⟩
abbrev sD(l:List UInt8):D:=.str (bS l)
theorem fU(l:List UInt8):(bS l).size=l.length:=by simp[bS,ByteArray.size]
theorem pT(l:List UInt8):(bS l).toList=l:=by rw[ByteArray.toList_eq];simp[bS]
theorem rM(p q:List UInt8):bS p++bS q=bS (p++q):=by
 apply ByteArray.ext;simp[bS]
section
variable{σ:Sg}{s:St}{o:Oper}{x y:Operand}{t yt:Nat}{p q:List UInt8}{u v:ByteArray}
theorem cO(hσ:SgOk σ)(ho:o.op= .binOp .add t x y yt)(hs:Al.Oper.shorts o=true)(hx:ev s x=some (.c (.d (.str u))))(hy:ev s y=some (.c (.d (.str v))))(hu:u=bS p)(hv:v=bS q)(hL:p.length+q.length≤σ.L)(hM:σ.L≤140737488355328):Val σ s o (.c (.d (sD (p++q)))):=by
 subst hu;subst hv
 refine Val.of hσ ?_ hs
 simp only[fd,ho,hx,hy,lj,fU,if_pos (And.intro hL hM),rM]
theorem Val.seq(hσ:SgOk σ)(ho:o.op= .binOp .eql t x y yt)(hs:Al.Oper.shorts o=true)(hx:ev s x=some (.c (.d (.str u))))(hy:ev s y=some (.c (.d (.str v))))(hu:u=bS p)(hv:v=bS q):Val σ s o (.c (.d (.bool (decide (p=q))))):=by
 subst hu;subst hv
 refine Val.of hσ ?_ hs
 simp only[fd,ho,hx,hy,lj,pT]
theorem tQ(hσ:SgOk σ)(ho:o.op= .binOp .neq t x y yt)(hs:Al.Oper.shorts o=true)(hx:ev s x=some (.c (.d (.str u))))(hy:ev s y=some (.c (.d (.str v))))(hu:u=bS p)(hv:v=bS q):Val σ s o (.c (.d (.bool (!decide (p=q))))):=by
 subst hu;subst hv
 refine Val.of hσ ?_ hs
 simp only[fd,ho,hx,hy,lj,pT]
theorem qE(hσ:SgOk σ){t':Nat}{k:IntKind}{n:Int}{dt:TypeDesc}(ho:o.op= .convert t t' x)(hs:Al.Operand.short x=true)(hx:ev s x=some (.c (.d (.int k n))))(ht:σ.P.underlying t=some dt)(ht':σ.P.underlying t'=some .string)(h0:0≤n)(h1:n<128):Val σ s o (.c (.d (sD [UInt8.ofNat n.toNat]))):=fun Γ eq m F a w hR=>by
 subst eq
 have hv:=hR.ev hσ.lo hs hx
 generalize he:a.eval x=u at hv
 cases hv with
 | c hv=>cases hv with
  | d hv=>
   cases hv
   refine⟨.string (Utf8.encode n),?_,?_⟩
   ·
    simp[execOp,ho,he,convert,run_underlying ht,run_underlying ht',Conv.intToString]
   ·
    have:Utf8.encode n=bS [UInt8.ofNat n.toNat]:=by
     have hv:Utf8.valid n=true:=by unfold Utf8.valid;simp;omega
     unfold Utf8.encode
     simp only[hv,if_true]
     rw[if_pos (by omega)]
     simp[bS]
    rw[this]
    exact .c (.d (.str (by rw[fU];have:=hσ.lo;simp;omega)))
end
end Go.Al
/- The abstract logic, vp 76: an inner slice of an own row becomes a row of its own; what the row held there is no longer told. -/
namespace Go.Al
end Go.Al
/- The abstract logic, vp 77: an append to an inner slice of an own row, and the store that jX it back, in regions of open order. -/
namespace Go.Al
section
variable{σ:Sg}{o:Oper}{E W:List (Nat×A)}{H:List (Nat×B)}{d:Nat}
end
section
variable{σ:Sg}{Q:b0}{all:Array Oper}{o p q o4:Oper}{rest:List Oper}{s:St}{e:List (Nat×A)}{H:List (Nat×B)}{d a b d4 j t n:Nat}{v x y v4:A}{want z:Bool}{vs:List (Nat×A)}
theorem aj:True:=trivial
theorem aD{tt:List (Nat×TI)}{rs:List ResultVar}{R:A→St→Prop}{res:A}(h:dw tt s rs=some res)(k:R res s):(Exit.ret= .ret∨Exit.ret= .normal)∧∃s2,Ent σ s s2∧∃r,dw tt s2 rs=some r∧R r s2:=⟨.inl rfl,s,Ent.refl,res,h,k⟩
theorem aF(hx:(z==want)=true)[hσ:SgOk σ](h:(o.guard,((all[j]?).bind (·.dst)),lk e t,nY σ ⟨e,H⟩ o,o.dst,Nat.blt d σ.nt)=(some (j,want),some t,some (.c (.d (.bool z))),some v,some d,true))(K:AN σ all n rest ⟨(d,v)::e,H⟩ vs):AN σ all (n+1) (o::rest) ⟨e,H⟩ ((d,v)::vs):=by
  simp only[Prod.mk.injEq]at h
  exact AN.step hx h.1 h.2.1 h.2.2.1 (V h.2.2.2.1) h.2.2.2.2.1 h.2.2.2.2.2 K
theorem ed(hx:(z==want)=true)(hv:Val σ ⟨e,H⟩ o v)(h:(o.guard,((all[j]?).bind (·.dst)),lk e t,o.dst,Nat.blt d σ.nt)=(some (j,want),some t,some (.c (.d (.bool z))),some d,true))(K:AN σ all n rest ⟨(d,v)::e,H⟩ vs):AN σ all (n+1) (o::rest) ⟨e,H⟩ ((d,v)::vs):=by
  simp only[Prod.mk.injEq]at h
  exact AN.step hx h.1 h.2.1 h.2.2.1 hv h.2.2.2.1 h.2.2.2.2 K
theorem ay(h:(o.guard,((all[j]?).bind (·.dst)),lk e t,z==want,o.dst,Nat.blt d σ.nt)=(some (j,want),some t,some (.c (.d (.bool z))),false,some d,true))(K:AOps σ all Q rest ⟨(d,.un)::e,H⟩):AOps σ all Q (o::rest) ⟨e,H⟩:=by
  simp only[Prod.mk.injEq]at h
  exact AOps.skip h.1 h.2.1 h.2.2.1 h.2.2.2.1 h.2.2.2.2.1 h.2.2.2.2.2 K
theorem ak(hv:Val σ ⟨e,H⟩ o v)(h:(o.guard,o.dst,Nat.blt d σ.nt)=(none,some d,true))(K:AOps σ all Q rest ⟨(d,v)::e,H⟩):AOps σ all Q (o::rest) ⟨e,H⟩:=by
  simp only[Prod.mk.injEq]at h
  exact AOps.step hv h.1 h.2.1 h.2.2 K
theorem bc{s':St}(h:HS σ s o s')(hg:o.guard=none)(K:AOps σ all Q rest s'):AOps σ all Q (o::rest) s:=AOps.heap h hg K
theorem ag[hσ:SgOk σ](h:(lc σ ⟨e,H⟩ o,lc σ ⟨(d,v)::e,H⟩ p)=(some (d,v),some (a,x)))(K:AOps σ all Q rest ⟨(a,x)::(d,v)::e,H⟩):AOps σ all Q (o::p::rest) ⟨e,H⟩:=by
  simp only[Prod.mk.injEq]at h
  exact js h.1 (js h.2 K)
theorem bb[hσ:SgOk σ](h:(lc σ ⟨e,H⟩ o,lc σ ⟨(d,v)::e,H⟩ p,lc σ ⟨(a,x)::(d,v)::e,H⟩ q)=(some (d,v),some (a,x),some (b,y)))(K:AOps σ all Q rest ⟨(b,y)::(a,x)::(d,v)::e,H⟩):AOps σ all Q (o::p::q::rest) ⟨e,H⟩:=by
  simp only[Prod.mk.injEq]at h
  exact js h.1 (js h.2.1 (js h.2.2 K))
theorem bp[hσ:SgOk σ](h:(lc σ ⟨e,H⟩ o,lc σ ⟨(d,v)::e,H⟩ p,lc σ ⟨(a,x)::(d,v)::e,H⟩ q,lc σ ⟨(b,y)::(a,x)::(d,v)::e,H⟩ o4)=(some (d,v),some (a,x),some (b,y),some (d4,v4)))(K:AOps σ all Q rest ⟨(d4,v4)::(b,y)::(a,x)::(d,v)::e,H⟩):AOps σ all Q (o::p::q::o4::rest) ⟨e,H⟩:=by
  simp only[Prod.mk.injEq]at h
  exact js h.1 (js h.2.1 (js h.2.2.1 (js h.2.2.2 K)))
theorem ao[hσ:SgOk σ]{c:Operand}{x y:Code}(h:(ev s c,Operand.short c)=(some (.c (.d (.bool z))),true))(ht:z=true→AWP σ x Q s)(hf:z=false→AWP σ y Q s):AWP σ (.cond c x y) Q s:=by
  simp only[Prod.mk.injEq]at h
  exact AWP.cond hσ h.1 h.2 ht hf
theorem qW{s1 s2 s3:St}{K:Prop}{o1 o2 o3:Oper}{v1 v2 v3:A}[hσ:SgOk σ](h:(nY σ s o,nY σ s1 o1,nY σ s2 o2,nY σ s3 o3)=(some v,some v1,some v2,some v3))(k:K):Val σ s o v∧Val σ s1 o1 v1∧Val σ s2 o2 v2∧Val σ s3 o3 v3∧K:=by
  simp only[Prod.mk.injEq]at h
  exact⟨V h.1,V h.2.1,V h.2.2.1,V h.2.2.2,k⟩
theorem lq{c:Call}{i it ti:TI}{tx:Nat}{w1 w2:Operand}{u:A}{own:Bool}{xs ys zs:List (List D)}{lo:Option Nat}(hσ:SgOk σ)(h:(o.op,c.callee,c.args.toList,c.argTypes.toList,Operand.short w1,Operand.short w2,ev ⟨e,H⟩ w1,ev ⟨e,H⟩ w2,lk σ.tt t,Nat.beq i.kind 1,lk σ.tt tx,Nat.beq it.kind 1,lk σ.tt i.elem,Nat.beq ti.zero.length ti.size,o.dst,Nat.blt d σ.nt)=(.call c,.builtin .append,[w1,w2],[t,tx],true,true,some u,some v,some i,true,some it,true,some ti,true,some d,true))
  (hT:Tgt H own ti.size u xs lo) (hF:Feed H own ti.size v ys) (hys: ∀x∈ys,x.length=ti.size) (hf:St.fresh (St.let ⟨e,H⟩ lo) σ d=true) (hL:xs.length+ys.length≤σ.L) (hbb:(xs.length+ys.length)*ti.bytes≤140737488355328) (hzs:xs++ys=zs) (hnn:zs.length=n) :
  HS σ ⟨e,H⟩ o ⟨(d,.c (.rs d 0 n))::(St.let ⟨e,H⟩ lo).env,ins (St.let ⟨e,H⟩ lo).H d (.row own ti.size zs)⟩:=by
  simp only[Prod.mk.injEq]at h
  obtain⟨a1,a2,a3,a4,a5,a6,a7,a8,a9,b1,b2,b3,b4,b5,b6,b7⟩:=h
  exact iq hσ a1 a2 a3 a4 a5 a6 a7 a8 a9 b1 b2 b3 b4 b5 b6 b7 hT hF hys hf hL hbb hzs hnn
theorem ba{c:Call}{fx:Operand}{f:Nat}{caps:List M}{as:List A}[hσ:SgOk σ](h:(o.op,c.callee,ev ⟨e,H⟩ fx,iv ⟨e,H⟩ c.args.toList)=(.call c,.value fx,some (.c (.fn f caps)),some as))(hM:MC σ.P σ.L f (as++caps.map A.c) [] (Plain v))(B0:Nat)(h2:((as++caps.map A.c).all A.isD,v.lone,Al.Oper.shorts o,o.guard,o.dst,Nat.blt d σ.nt,(St.under B0 ⟨e,H⟩&&bz B0 σ.ins))=(true,true,true,none,some d,true,true))(K:AOps σ all Q rest ⟨(d,v)::e,H⟩):AOps σ all Q (o::rest) ⟨e,H⟩:=by
  simp only[Prod.mk.injEq]at h h2
  obtain⟨g1,g2,g3,g4,g5,g6,g7⟩:=h2
  exact aP hσ h.1 h.2.1 h.2.2.1 h.2.2.2 hM (ae g1) g2 g3 g4 g5 g6 g7 K
abbrev aN:PO:=pn [] 0 0
abbrev ar(a:List Nat):PO:=pn a 0 0
theorem vk{l k:Nat}{blk:B}{ms:List M}{r r':List (Nat×B)}(h:(Nat.beq k l,Ms.free l ms)=(false,true))(t:FH l blk r r'):FH l blk ((k,.box ms)::r) ((k,.box ms)::r'):=.cons (Prod.mk.inj h).1 (.box (FMs.keep (Prod.mk.inj h).2)) t
theorem mK{l k sz:Nat}{blk:B}{own:Bool}{xs:List (List D)}{r r':List (Nat×B)}(h:Nat.beq k l=false)(t:FH l blk r r'):FH l blk ((k,.row own sz xs)::r) ((k,.row own sz xs)::r'):=.cons h .row t
theorem uqck{l:Nat}{blk:B}{x:M}{xs ys:List M}(h:M.free l x=true)(t:FMs l blk xs ys):FMs l blk (x::xs) (x::ys):=.cons (.keep h) t
theorem lW{p:Prop}(h:false=true):p:=by cases h
theorem uqnt{p:Prop}(h:true=false):p:=by cases h
theorem uj{d:D}{xs ys:List D}(h:NLes xs ys):NLes (d::xs) (d::ys):=.cons .refl h
end
end Go.Al
