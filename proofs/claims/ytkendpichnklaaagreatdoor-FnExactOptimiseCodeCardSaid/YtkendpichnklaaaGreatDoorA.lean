/- The abstract logic, first vp: values, blocks, states and what they say of a world. -/
import Derived.WalkKit
import Derived.Lib.ItoaNum
set_option linter.unusedVariables false
set_option linter.unusedSimpArgs false
/- The abstract logic, vp 1: abstract values, blocks and states, and what they say of a world. Plain definitions and lemmas over any program. -/
namespace Go.Al
universe u
theorem aQ{α β:Type}{as:List α}(f:α→β):(as.map f).length=as.length:=List.length_map f
theorem bZ{p:Prop}[i:Decidable p](h:decide p=true):p:=of_decide_eq_true h
theorem cS{p:Prop}[i:Decidable p](h:decide p=false): ¬p:=of_decide_eq_false h
theorem bD(a b:Bool):((a&&b)=true)=(a=true∧b=true):=Bool.and_eq_true a b
theorem cG{α:Type}{as bs:List α}:(as++bs).length=as.length+bs.length:=List.length_append
theorem sG{α:Type}{a:α}:[a].length=1:=rfl
theorem dF{α:Type}{a:α}{as:List α}:(a::as).length=as.length+1:=rfl
theorem el{α:Type}(a b:α):(some a=some b)=(a=b):=Option.some.injEq a b
theorem cm(n:Nat):n≤n:=Nat.le_refl n
theorem co(n:Nat):0≤n:=Nat.zero_le n
theorem dO{α:Type}(a b c:List α):a++b++c=a++(b++c):=List.append_assoc a b c
theorem Z{α:Sort u}{a:α}:a=a:=rfl

def lk{α:Type}:List (Nat×α)→Nat→Option α
 | [],_=>none
 | (k,v)::r,n=>bif Nat.beq k n then some v else lk r n
def ins{α:Type}:List (Nat×α)→Nat→α→List (Nat×α)
 | [],k,v=>[(k,v)]
 | (k',v')::r,k,v=>bif Nat.beq k' k then(k,v)::r else bif Nat.blt k k' then(k,v)::(k',v')::r else(k',v')::ins r k v
def dG{α:Type}:List (Nat×α)→Nat→List (Nat×α)
 | [],_=>[]
 | (k',v')::r,k=>bif Nat.beq k' k then dG r k else(k',v')::dG r k

theorem aU{α:Type}(n:Nat):lk ([]:List (Nat×α)) n=none:=rfl
theorem aw{α:Type}(k:Nat)(v:α)(r:List (Nat×α))(n:Nat):lk ((k,v)::r) n=if k=n then some v else lk r n:=by
 show(bif Nat.beq k n then some v else lk r n)=_
 by_cases h:k=n
 subst h;simp
 rw[if_neg h]
 have:Nat.beq k n=false:=by rw[←Bool.not_eq_true];intro hh;exact h (Nat.eq_of_beq_eq_true hh)
 rw[this];rfl
theorem tN{a b:Nat}:Nat.beq a b=true↔a=b:=⟨Nat.eq_of_beq_eq_true,fun h=>by subst h;simp⟩
theorem qC{a b:Nat}:Nat.beq a b=false↔a≠b:=by
 rw[←Bool.not_eq_true,tN]
theorem dn{α:Type}(l:List (Nat×α))(k:Nat)(v:α)(n:Nat):lk (ins l k v) n=if k=n then some v else lk l n:=by
 induction l with
 | nil=>simp[ins,aw,aU]
 | cons x r ih=>
  obtain⟨k',v'⟩:=x
  unfold ins
  by_cases h1:k'=k
  subst h1
  simp only[tN.2 Z,cond_true,aw]
  split<;>rfl
  rw[qC.2 h1]
  simp only[cond_false]
  cases h2:Nat.blt k k' with
  | true=>simp only[cond_true,aw]
  | false=>
   simp only[cond_false,aw,ih]
   by_cases h3:k'=n
   subst h3;simp[Ne.symm h1]
   simp[h3]
theorem cW{α:Type}(l:List (Nat×α))(k n:Nat):lk (dG l k) n=if k=n then none else lk l n:=by
 induction l with
 | nil=>simp[dG,aU]
 | cons x r ih=>
  obtain⟨k',v'⟩:=x
  unfold dG
  by_cases h1:k'=k
  subst h1
  simp only[tN.2 Z,cond_true,ih,aw]
  split<;>rfl
  rw[qC.2 h1]
  simp only[cond_false,aw,ih]
  by_cases h3:k'=n
  subst h3;simp[Ne.symm h1]
  simp[h3]
inductive D where
 | int (k:IntKind) (n:Int)
 | bool (b:Bool)
 | str (s:ByteArray)
 | nils
 | nilp
 | nilf
 | nilm
 | slc (sz:Nat) (xs:List (List D))
 | ptr (cs:List D) (off:Nat)
 | any (o:Option Value)

inductive M where
 | d (x:D)
 | rs (l off len:Nat)
 | rp (l i j:Nat)
 | pt (l i j:Nat)
 | fn (f:Nat) (caps:List M)
 | fb (f:Nat) (ms:List M)
 | ez
 | junk
 | mp (l:Nat)

inductive A where
 | c (m:M)
 | agg (ms:List M)
 | tup (vs:List A)
 | junk
 | un

inductive B where
 | row (own:Bool) (sz:Nat) (xs:List (List D))
 | box (ms:List M)
 | map (es:List (D×D))

structure St where
 env:List (Nat×A)
 H:List (Nat×B)

inductive Loc where
 | nil
 | at(b cap sz:Nat)
 | bx (b:Nat)
 | mp (b:Nat)

section
variable(L:Nat)(w:World)

mutual
inductive RD(L:Nat)(w:World)(ok:Nat→Prop):D→Value→List Nat→Prop
 | int {k n}:k.min≤n→n≤k.max→RD L w ok (.int k n) (.int k n) []
 | bool {b}:RD L w ok (.bool b) (.bool b) []
 | str {s}:s.size≤L→RD L w ok (.str s) (.string s) []
 | nils:RD L w ok .nils (.slice none 0 0) []
 | nilp:RD L w ok .nilp (.pointer none) []
 | nilf:RD L w ok .nilf .nilFunc []
 | nilm:RD L w ok .nilm (.map none) []
 | slc0 {sz base cap}:RD L w ok (.slc sz []) (.slice base 0 cap) []
 | slc {sz xs b off cap}:xs.length≤L→xs.length≤cap→(∀e∈xs,e.length=sz)→ok b→b<w.heap.size→RDs L w ok xs.flatten b off []→
   RD L w ok (.slc sz xs) (.slice (some ⟨b,off,none⟩) xs.length cap) []
 | own {sz xs b cap bO T F}:xs.length≤L→xs.length≤cap→(∀e∈xs,e.length=sz)→w.heap[b]? = some (.cells bO T (0,0))→cap*sz≤bO.size→cap≤maxLen→
   RDs L w ok xs.flatten b 0 F→RD L w ok (.slc sz xs) (.slice (some ⟨b,0,none⟩) xs.length cap) (b::F)
 | ptr {cs off b o}:ok b→b<w.heap.size→RDs L w ok cs b o []→RD L w ok (.ptr cs off) (.pointer (some ⟨b,o+off,none⟩)) []
 | any {o v}:v.oneCell'=true→(∀u,o=some u→v=u)→RD L w ok (.any o) v []
inductive RDs(L:Nat)(w:World)(ok:Nat→Prop):List D→Nat→Nat→List Nat→Prop
 | nil {b o}:RDs L w ok [] b o []
 | cons {d ds b o v F1 F2}:w.cell? ⟨b,o,none⟩=some v→RD L w ok d v F1→RDs L w ok ds b (o+1) F2→RDs L w ok (d::ds) b o (F1++F2)
end
end

inductive REs(L:Nat)(w:World)(ok:Nat→Prop):List (D×D)→List MapEntry→Prop
 | nil:REs L w ok [] []
 | cons {k x e es l}:RD L w ok k e.key []→RD L w ok x e.val []→REs L w ok es l→REs L w ok ((k,x)::es) (e::l)

def Same(w w':World)(b:Nat):Prop:=w'.heap[b]? = w.heap[b]?

theorem Same.cell{w w':World}{b o:Nat}(h:Same w w' b):w'.cell? ⟨b,o,none⟩=w.cell? ⟨b,o,none⟩:=by simp[World.cell?,show w'.heap[b]? = w.heap[b]? from h]

mutual
theorem RD.mono{L:Nat}{w w':World}{ok ok':Nat→Prop}(h: ∀b,b<w.heap.size→ok b→ok' b∧Same w w' b)(hz:w.heap.size≤w'.heap.size) :
  ∀{d v F},RD L w ok d v F→(∀b∈F,Same w w' b)→RD L w' ok' d v F
 | _,_,_,.int h1 h2,_=>.int h1 h2
 | _,_,_,.bool,_=>.bool
 | _,_,_,.str h1,_=>.str h1
 | _,_,_,.nils,_=>.nils
 | _,_,_,.nilp,_=>.nilp
 | _,_,_,.nilf,_=>.nilf
 | _,_,_,.nilm,_=>.nilm
 | _,_,_,.slc0,_=>.slc0
 | _,_,_,.slc h1 h2 h3 h4 h5 h6,hF=>.slc h1 h2 h3 (h _ h5 h4).1 (Nat.lt_of_lt_of_le h5 hz) (RDs.mono h hz h6 (h _ h5 h4).2 (by simp))
 | _,_,_,.own (b:=b) h1 h2 h3 h4 h5 h6 h7,hF=>.own h1 h2 h3 ((hF b (by simp)).trans h4) h5 h6 (RDs.mono h hz h7 (hF b (by simp)) (fun b' hb'=>hF b' (by simp[hb'])))
 | _,_,_,.ptr h1 h2 h3,hF=>.ptr (h _ h2 h1).1 (Nat.lt_of_lt_of_le h2 hz) (RDs.mono h hz h3 (h _ h2 h1).2 (by simp))
 | _,_,_,.any h1 h2,_=>.any h1 h2
theorem RDs.mono{L:Nat}{w w':World}{ok ok':Nat→Prop}(h: ∀b,b<w.heap.size→ok b→ok' b∧Same w w' b)(hz:w.heap.size≤w'.heap.size) :
  ∀{ds b o F},RDs L w ok ds b o F→Same w w' b→(∀b∈F,Same w w' b)→RDs L w' ok' ds b o F
 | _,_,_,_,.nil,_,_=>.nil
 | _,_,_,_,.cons h1 h2 h3,hb,hF=>.cons ((hb.cell).trans h1) (RD.mono h hz h2 (fun b hb=>hF b (by simp[hb]))) (RDs.mono h hz h3 hb (fun b hb=>hF b (by simp[hb])))
end
theorem REs.mono{L:Nat}{w w':World}{ok ok':Nat→Prop}(h: ∀b,b<w.heap.size→ok b→ok' b∧Same w w' b)(hz:w.heap.size≤w'.heap.size) :
  ∀{es l},REs L w ok es l→REs L w' ok' es l
 | _,_,.nil=>.nil
 | _,_,.cons h1 h2 h3=>.cons (h1.mono h hz (by simp)) (h2.mono h hz (by simp)) (REs.mono h hz h3)
def GN:List String:=["internal/strconv.uint64pow10","internal/bytealg.MaxLen"]
def GF(n:String)(cs:Array Value):Prop:=
 (n= "internal/strconv.uint64pow10" →cs=(Lib.pow10Tab.map fun z=>Value.int .u64 z).toArray)∧(n= "internal/bytealg.MaxLen" →∃m,cs[0]? = some (.int .i64 m))
theorem GF.tab{n cs}(h:GF n cs)(e:n= "internal/strconv.uint64pow10"):cs=(Lib.pow10Tab.map fun z=>Value.int .u64 z).toArray:=h.1 e
def GOk(P:Program)(w:World)(ok:Nat→Prop):Prop:= ∀n g,n∈GN→P.globalNamed n=some g→ok g∧∃cs,w.var? P n=some cs∧GF n cs
theorem GOk.mono{P:Program}{w w':World}{ok ok':Nat→Prop}(h:GOk P w ok)(hk: ∀b,b<w.heap.size→ok b→ok' b∧Same w w' b):GOk P w' ok':=fun n g hn hg=>by
 obtain⟨h1,cs,h2,h3⟩:=h n g hn hg
 have hlt:g<w.heap.size:=by
  unfold World.var? at h2
  rw[hg,Option.bind_some]at h2
  cases hb:w.heap[g]? with
  | none=>rw[hb]at h2;cases h2
  | some b=>exact(Array.getElem?_eq_some_iff.1 hb).1
 obtain⟨h4,h5⟩:=hk g hlt h1
 refine⟨h4,cs,?_,h3⟩
 unfold World.var? at h2 ⊢
 rw[hg,Option.bind_some]at h2 ⊢
 rw[show w'.heap[g]? = w.heap[g]? from h5]
 exact h2
mutual
/-- What is owned may be held as data that does not change any more. -/
theorem RD.freeze{L:Nat}{w:World}{ok ok':Nat→Prop}(h: ∀b,b<w.heap.size→ok b→ok' b) :
  ∀{d v F},RD L w ok d v F→(∀b∈F,ok' b)→RD L w ok' d v []
 | _,_,_,.int h1 h2,_=>.int h1 h2
 | _,_,_,.bool,_=>.bool
 | _,_,_,.str h1,_=>.str h1
 | _,_,_,.nils,_=>.nils
 | _,_,_,.nilp,_=>.nilp
 | _,_,_,.nilf,_=>.nilf
 | _,_,_,.nilm,_=>.nilm
 | _,_,_,.slc0,_=>.slc0
 | _,_,_,.slc h1 h2 h3 h4 h5 h6,hF=>.slc h1 h2 h3 (h _ h5 h4) h5 (RDs.freeze h h6 (by simp))
 | _,_,_,.own (b:=b) h1 h2 h3 h4 h5 h6 h7,hF=>.slc h1 h2 h3 (hF b (by simp)) ((Array.getElem?_eq_some_iff.1 h4).1) (RDs.freeze h h7 (fun b' hb'=>hF b' (by simp[hb'])))
 | _,_,_,.ptr h1 h2 h3,hF=>.ptr (h _ h2 h1) h2 (RDs.freeze h h3 (by simp))
 | _,_,_,.any h1 h2,_=>.any h1 h2
theorem RDs.freeze{L:Nat}{w:World}{ok ok':Nat→Prop}(h: ∀b,b<w.heap.size→ok b→ok' b) :
  ∀{ds b o F},RDs L w ok ds b o F→(∀b∈F,ok' b)→RDs L w ok' ds b o []
 | _,_,_,_,.nil,_=>.nil
 | _,_,_,_,.cons h1 h2 h3,hF=>.cons (F1:=[]) (F2:=[]) h1 (RD.freeze h h2 (fun b hb=>hF b (by simp[hb]))) (RDs.freeze h h3 (fun b hb=>hF b (by simp[hb])))
end
mutual
/-- The blocks of a footprint are there. -/
theorem RD.lt{L:Nat}{w:World}{ok:Nat→Prop}: ∀{d v F},RD L w ok d v F→∀b∈F,b<w.heap.size
 | _,_,_,.own h1 h2 h3 h4 h5 h6 h7,b,hb=>by
  rcases List.mem_cons.1 hb with rfl|hb
  exact(Array.getElem?_eq_some_iff.1 h4).1
  exact RDs.lt h7 b hb
 | _,_,_,.int _ _,b,hb=>by cases hb
 | _,_,_,.bool,b,hb=>by cases hb
 | _,_,_,.str _,b,hb=>by cases hb
 | _,_,_,.nils,b,hb=>by cases hb
 | _,_,_,.nilp,b,hb=>by cases hb
 | _,_,_,.nilf,b,hb=>by cases hb
 | _,_,_,.nilm,b,hb=>by cases hb
 | _,_,_,.slc0,b,hb=>by cases hb
 | _,_,_,.slc _ _ _ _ _ _,b,hb=>by cases hb
 | _,_,_,.ptr _ _ _,b,hb=>by cases hb
 | _,_,_,.any _ _,b,hb=>by cases hb
theorem RDs.lt{L:Nat}{w:World}{ok:Nat→Prop}: ∀{ds b o F},RDs L w ok ds b o F→∀b∈F,b<w.heap.size
 | _,_,_,_,.nil,b,hb=>by cases hb
 | _,_,_,_,.cons h1 h2 h3,b,hb=>by
  rcases List.mem_append.1 hb with hb|hb
  ·
   exact RD.lt h2 b hb
  ·
   exact RDs.lt h3 b hb
end
theorem RD.oneCell{L:Nat}{w:World}{ok:Nat→Prop}{d v F}(h:RD L w ok d v F):v.oneCell'=true:=by
 cases h<;>first|rfl|assumption
theorem RDs.append{L:Nat}{w:World}{ok:Nat→Prop}: ∀{ds es:List D} {b o F1 F2},RDs L w ok ds b o F1→RDs L w ok es b (o+ds.length) F2→RDs L w ok (ds++es) b o (F1++F2)
 | [],es,b,o,_,_,h1,h2=>by cases h1;simpa using h2
 | d :: ds,es,b,o,_,_,h1,h2=>by
  cases h1 with
  | cons a1 a2 a3=>
   rw[List.cons_append,dO]
   exact .cons a1 a2 (RDs.append a3 (by rw[dF]at h2;rwa[Nat.add_assoc,Nat.add_comm 1]))
theorem RDs.split{L:Nat}{w:World}{ok:Nat→Prop}: ∀{ds es:List D} {b o F},RDs L w ok (ds++es) b o F→∃F1 F2,F=F1++F2∧RDs L w ok ds b o F1∧RDs L w ok es b (o+ds.length) F2
 | [],es,b,o,F,h=>⟨[],F,rfl,.nil,by simpa using h⟩
 | d :: ds,es,b,o,F,h=>by
  rw[List.cons_append]at h
  cases h with
  | cons a1 a2 a3=>
   obtain⟨F1,F2,rfl,h1,h2⟩:=RDs.split a3
   exact⟨_,F2,(dO _ _ _).symm,.cons a1 a2 h1,by rw[dF];rwa[Nat.add_comm ds.length,←Nat.add_assoc]⟩
theorem RDs.get{L:Nat}{w:World}{ok:Nat→Prop}{ds:List D}{b o F}(h:RDs L w ok ds b o F)(hF:F=[]){j:Nat}{d:D}(hj:ds[j]? = some d) :
  ∃v,w.cell? ⟨b,o+j,none⟩=some v∧RD L w ok d v []:=by
 induction ds generalizing o F j with
 | nil=>simp at hj
 | cons d' ds ih=>
  cases h with
  | cons a1 a2 a3=>
   obtain⟨rfl,rfl⟩:=List.append_eq_nil_iff.1 hF
   cases j with
   | zero=>simp at hj;subst hj;exact⟨_,a1,a2⟩
   | succ j=>
    obtain⟨v,h1,h2⟩:=ih a3 rfl (by simpa using hj)
    exact⟨v,by rw[show o+(j+1)=o+1+j by omega];exact h1,h2⟩
theorem RDs.cell{L:Nat}{w:World}{ok:Nat→Prop}{ds:List D}{b o F}(h:RDs L w ok ds b o F){j:Nat}{d:D}(hj:ds[j]? = some d) :
  ∃v F',w.cell? ⟨b,o+j,none⟩=some v∧RD L w ok d v F'∧∀x∈F',x∈F:=by
 induction ds generalizing o F j with
 | nil=>simp at hj
 | cons d' ds ih=>
  cases h with
  | cons a1 a2 a3=>
   cases j with
   | zero=>simp at hj;subst hj;exact⟨_,_,a1,a2,fun x hx=>by simp[hx]⟩
   | succ j=>
    obtain⟨v,F',h1,h2,h3⟩:=ih a3 (by simpa using hj)
    exact⟨v,F',by rw[show o+(j+1)=o+1+j by omega];exact h1,h2,fun x hx=>by simp[h3 x hx]⟩
theorem br{sz:Nat}: ∀{xs:List (List D)},(∀e∈xs,e.length=sz)→xs.flatten.length=xs.length*sz
 | [],_=>by simp
 | x::xs,h=>by
  have ih:=br (xs:=xs) (fun e he=>h e (List.mem_cons_of_mem _ he))
  have hx:=h x (by simp)
  simp only[List.flatten_cons,cG,dF,ih,hx]
  rw[Nat.add_mul,Nat.one_mul,Nat.add_comm]
theorem gh{sz:Nat}: ∀{xs:List (List D)},(∀e∈xs,e.length=sz)→∀{i j:Nat} {e:List D} {d:D},xs[i]? = some e→e[j]? = some d→xs.flatten[i*sz+j]? = some d
 | [],_,i,j,e,d,hi,_=>by simp at hi
 | x::xs,h,0,j,e,d,hi,hj=>by
  simp at hi;subst hi
  simp only[List.flatten_cons,Nat.zero_mul,Nat.zero_add]
  rw[List.getElem?_append_left (List.getElem?_eq_some_iff.1 hj).1];exact hj
 | x::xs,h,i+1,j,e,d,hi,hj=>by
  have ih:=gh (xs:=xs) (fun e he=>h e (by simp[he])) (i:=i) (by simpa using hi) hj
  have hx:=h x (by simp)
  simp only[List.flatten_cons]
  rw[List.getElem?_append_right (by rw[hx,Nat.add_mul];omega),hx,show(i+1)*sz+j-sz=i*sz+j by rw[Nat.add_mul];omega]
  exact ih
theorem db{xs:List (List D)}{i:Nat}{e:List D}(hi:xs[i]? = some e):xs.flatten=(xs.take i).flatten++(e++(xs.drop (i+1)).flatten):=by
 have hlt:=(List.getElem?_eq_some_iff.1 hi).1
 have he:=(List.getElem?_eq_some_iff.1 hi).2
 conv=>lhs;rw[←List.take_append_drop i xs,List.drop_eq_getElem_cons hlt,he]
 simp
def yv:List Value→Value
 | [v]=>v
 | vs=>.agg vs.toArray
mutual
inductive RM(L:Nat)(w:World)(ok:Nat→Prop)(m:Nat→Loc):M→Value→Prop
 | d {x v}:RD L w ok x v []→RM L w ok m (.d x) v
 | rs {l off len b cap base c sz}:m l= .at b cap sz→len≤c→off+c≤cap→(c=0∨base=⟨b,off*sz,none⟩)→RM L w ok m (.rs l off len) (.slice (some base) len c)
 | rsNil {l base}:m l= .nil→RM L w ok m (.rs l 0 0) (.slice base 0 0)
 | rp {l i j b cap sz x n c}:m l= .at b cap sz→w.cell? ⟨b,i*sz+j,none⟩=some (.slice x n c)→RM L w ok m (.rp l i j) (.slice x n c)
 | pt {l i j b cap sz}:m l= .at b cap sz→RM L w ok m (.pt l i j) (.pointer (some ⟨b,i*sz+j,none⟩))
 | pb {l j b}:m l= .bx b→RM L w ok m (.pt l 0 j) (.pointer (some ⟨b,j,none⟩))
 | fn {f caps bO}:RMs L w ok m caps bO→RM L w ok m (.fn f caps) (.func (.func f) #[] bO.toArray)
 | fb {f ms bO}:RMs L w ok m ms bO→RM L w ok m (.fb f ms) (.func (.func f) #[yv bO] #[])
 | ez {base}:RM L w ok m .ez (.slice base 0 0)
 | junk {v}:v.oneCell'=true→RM L w ok m .junk v
 | mp {l b}:m l= .mp b→RM L w ok m (.mp l) (.map (some b))
inductive RMs(L:Nat)(w:World)(ok:Nat→Prop)(m:Nat→Loc):List M→List Value→Prop
 | nil:RMs L w ok m [] []
 | cons {x xs v vs}:RM L w ok m x v→RMs L w ok m xs vs→RMs L w ok m (x::xs) (v::vs)
end
mutual
inductive RA(L:Nat)(w:World)(ok:Nat→Prop)(m:Nat→Loc):A→Value→Prop
 | c {x v}:RM L w ok m x v→RA L w ok m (.c x) v
 | agg {ms vs}:RMs L w ok m ms vs→RA L w ok m (.agg ms) (.agg vs.toArray)
 | tup {as vs}:RAs L w ok m as vs→RA L w ok m (.tup as) (.tuple vs.toArray)
 | junk {v}:RA L w ok m .junk v
 | un:RA L w ok m .un undef
inductive RAs(L:Nat)(w:World)(ok:Nat→Prop)(m:Nat→Loc):List A→List Value→Prop
 | nil:RAs L w ok m [] []
 | cons {x xs v vs}:RA L w ok m x v→RAs L w ok m xs vs→RAs L w ok m (x::xs) (v::vs)
end
inductive RB(L:Nat)(w:World)(ok:Nat→Prop)(m:Nat→Loc):B→Loc→List Nat→Prop
 | nil {own sz}:RB L w ok m (.row own sz []) .nil []
 | row {own sz xs b cap bO T F}:xs.length≤L→xs.length≤cap→(∀e∈xs,e.length=sz)→w.heap[b]? = some (.cells bO T (0,0))→cap*sz≤bO.size→cap≤maxLen→
   RDs L w (fun b=>own=false∧ok b) xs.flatten b 0 F→(own=false→F=[])→RB L w ok m (.row own sz xs) (.at b cap sz) (b::F)
 | box {ms b bO T}:w.heap[b]? = some (.cells bO T (0,0))→RMs L w ok m ms bO.toList→RB L w ok m (.box ms) (.bx b) [b]
 | map {es b bO c}:w.heap[b]? = some (.map bO c)→REs L w ok es bO.toList→RB L w ok m (.map es) (.mp b) [b]
inductive RH(L:Nat)(w:World)(ok:Nat→Prop)(m:Nat→Loc):List (Nat×B)→List Nat→Prop
 | nil:RH L w ok m [] []
 | cons {l blk r F1 F2}:RB L w ok m blk (m l) F1→RH L w ok m r F2→RH L w ok m ((l,blk)::r) (F1++F2)

theorem RMs.length{L w ok m}: ∀{xs vs},RMs L w ok m xs vs→xs.length=vs.length
 | _,_,.nil=>rfl
 | _,_,.cons _ h=>by simp[RMs.length h]
theorem RMs.get{L w ok m}: ∀{xs:List M} {vs:List Value},RMs L w ok m xs vs→∀{j:Nat} {x},xs[j]? = some x→∃v,vs[j]? = some v∧RM L w ok m x v
 | _,_,.nil,j,x,h=>by simp at h
 | _,_,.cons h1 h2,0,x,h=>by simp at h;subst h;exact⟨_,rfl,h1⟩
 | _,_,.cons h1 h2,j+1,x,h=>by simpa using RMs.get h2 (by simpa using h)
theorem RMs.append{L w ok m}: ∀{xs vs ys us},RMs L w ok m xs vs→RMs L w ok m ys us→RMs L w ok m (xs++ys) (vs++us)
 | _,_,_,_,.nil,h=>h
 | _,_,_,_,.cons h1 h2,h=>.cons h1 (RMs.append h2 h)
theorem RMs.take{L w ok m}: ∀{xs vs},RMs L w ok m xs vs→∀n,RMs L w ok m (xs.take n) (vs.take n)
 | _,_,.nil,n=>by simp;exact .nil
 | _,_,.cons h1 h2,0=>.nil
 | _,_,.cons h1 h2,n+1=>.cons h1 (RMs.take h2 n)
theorem RMs.drop{L w ok m}: ∀{xs vs},RMs L w ok m xs vs→∀n,RMs L w ok m (xs.drop n) (vs.drop n)
 | _,_,.nil,n=>by simp;exact .nil
 | _,_,.cons h1 h2,0=>.cons h1 h2
 | _,_,.cons h1 h2,n+1=>RMs.drop h2 n
theorem RM.rs_inv{L w ok m}{l off len:Nat}{v:Value}(h:RM L w ok m (.rs l off len) v) :
  (∃b cap base c sz,m l= .at b cap sz∧len≤c∧off+c≤cap∧(c=0∨base=(⟨b,off*sz,none⟩:Addr))∧v= .slice (some base) len c)∨(m l= .nil∧off=0∧len=0∧∃base,v= .slice base 0 0):=by
 cases h with
 | rs h1 h2 h3 h4=>exact .inl ⟨_,_,_,_,_,h1,h2,h3,h4,Z⟩
 | rsNil h1=>exact .inr ⟨h1,Z,Z,_,Z⟩
theorem RM.oneCell{L w ok m}{x v}(h:RM L w ok m x v):v.oneCell'=true:=by
 cases h with
 | d h=>exact h.oneCell
 | junk h=>exact h
 | _=>rfl
theorem RMs.oneCell{L w ok m}: ∀{xs vs},RMs L w ok m xs vs→∀v∈vs,v.oneCell'=true
 | _,_,.cons h1 h2,v,hv=>by
  rcases List.mem_cons.1 hv with rfl|hv
  exact h1.oneCell
  exact RMs.oneCell h2 v hv
theorem RAs.length{L w ok m}: ∀{xs vs},RAs L w ok m xs vs→xs.length=vs.length
 | _,_,.nil=>rfl
 | _,_,.cons _ h=>by simp[RAs.length h]
theorem RAs.get{L w ok m}: ∀{xs:List A} {vs:List Value},RAs L w ok m xs vs→∀{j:Nat} {x},xs[j]? = some x→∃v,vs[j]? = some v∧RA L w ok m x v
 | _,_,.nil,j,x,h=>by simp at h
 | _,_,.cons h1 h2,0,x,h=>by simp at h;subst h;exact⟨_,rfl,h1⟩
 | _,_,.cons h1 h2,j+1,x,h=>by simpa using RAs.get h2 (by simpa using h)
mutual
def M.free(l:Nat):M→Bool
 | .rs k _ _=>!Nat.beq k l
 | .rp k _ _=>!Nat.beq k l
 | .pt k _ _=>!Nat.beq k l
 | .mp k=>!Nat.beq k l
 | .fn _ caps=>Ms.free l caps
 | .fb _ caps=>Ms.free l caps
 | _=>true
def Ms.free(l:Nat):List M→Bool
 | []=>true
 | x::r=>M.free l x&&Ms.free l r
end
mutual
def A.free(l:Nat):A→Bool
 | .c x=>M.free l x
 | .agg ms=>Ms.free l ms
 | .tup vs=>As.free l vs
 | .junk=>true
 | .un=>true
def As.free(l:Nat):List A→Bool
 | []=>true
 | x::r=>A.free l x&&As.free l r
end
def B.free(l:Nat):B→Bool
 | .row _ _ _=>true
 | .box ms=>Ms.free l ms
 | .map _=>true
def eE(l:Nat):List (Nat×A)→Bool
 | []=>true
 | (_,v)::r=>A.free l v&&eE l r
def lz(l:Nat):List (Nat×B)→Bool
 | []=>true
 | (_,v)::r=>B.free l v&&lz l r
def St.free(l:Nat)(s:St):Bool:=(lk s.H l).isNone&&(eE l s.env&&lz l s.H)

mutual
def M.purge(l:Nat):M→M
 | .rs k a b=>bif Nat.beq k l then .junk else .rs k a b
 | .rp k a b=>bif Nat.beq k l then .junk else .rp k a b
 | .pt k a b=>bif Nat.beq k l then .junk else .pt k a b
 | .mp k=>bif Nat.beq k l then .junk else .mp k
 | .fn f caps=>.fn f (Ms.purge l caps)
 | .fb f caps=>.fb f (Ms.purge l caps)
 | .d x=>.d x
 | .ez=>.ez
 | .junk=>.junk
def Ms.purge(l:Nat):List M→List M
 | []=>[]
 | x::r=>M.purge l x::Ms.purge l r
end
mutual
def A.purge(l:Nat):A→A
 | .c x=>.c (M.purge l x)
 | .agg ms=>.agg (Ms.purge l ms)
 | .tup vs=>.tup (As.purge l vs)
 | .junk=>.junk
 | .un=>.un
def As.purge(l:Nat):List A→List A
 | []=>[]
 | x::r=>A.purge l x::As.purge l r
end
def B.purge(l:Nat):B→B
 | .row a b c=>.row a b c
 | .box ms=>.box (Ms.purge l ms)
 | .map es=>.map es
def bR(l:Nat):List (Nat×A)→List (Nat×A)
 | []=>[]
 | (k,v)::r=>(k,A.purge l v)::bR l r
def b9(l:Nat):List (Nat×B)→List (Nat×B)
 | []=>[]
 | (k,v)::r=>bif Nat.beq k l then b9 l r else(k,B.purge l v)::b9 l r
def St.purge(l:Nat)(s:St):St:=⟨bR l s.env,b9 l s.H⟩

structure Keep(w w':World)(ok ok':Nat→Prop):Prop where
 size:w.heap.size≤w'.heap.size
 imm: ∀b,b<w.heap.size→ok b→ok' b∧Same w w' b

mutual
theorem RM.keep{L w w' ok ok' m m'}(h:Keep w w' ok ok'){l:Nat}(hm: ∀k,k≠l→m' k=m k)
  (hp: ∀k b cap sz i j x n c,k≠l→m k= .at b cap sz→w.cell? ⟨b,i*sz+j,none⟩=some (.slice x n c)→w'.cell? ⟨b,i*sz+j,none⟩=some (.slice x n c)) :
  ∀{x v},RM L w ok m x v→M.free l x=true→RM L w' ok' m' x v
 | _,_,.d h1,_=>.d (h1.mono h.imm h.size (by simp))
 | _,_,.rs h1 h2 h3 h4,hf=>.rs ((hm _ (qC.1 (by simpa[M.free]using hf))).trans h1) h2 h3 h4
 | _,_,.rsNil h1,hf=>.rsNil ((hm _ (qC.1 (by simpa[M.free]using hf))).trans h1)
 | _,_,.rp h1 h2,hf=>by
  have hne:=qC.1 (by simpa[M.free]using hf)
  exact .rp ((hm _ hne).trans h1) (hp _ _ _ _ _ _ _ _ _ hne h1 h2)
 | _,_,.pt h1,hf=>.pt ((hm _ (qC.1 (by simpa[M.free]using hf))).trans h1)
 | _,_,.pb h1,hf=>.pb ((hm _ (qC.1 (by simpa[M.free]using hf))).trans h1)
 | _,_,.mp h1,hf=>.mp ((hm _ (qC.1 (by simpa[M.free]using hf))).trans h1)
 | _,_,.fn h1,hf=>.fn (RMs.keep h hm hp h1 (by simpa[M.free]using hf))
 | _,_,.fb h1,hf=>.fb (RMs.keep h hm hp h1 (by simpa[M.free]using hf))
 | _,_,.ez,_=>.ez
 | _,_,.junk h1,_=>.junk h1
theorem RMs.keep{L w w' ok ok' m m'}(h:Keep w w' ok ok'){l:Nat}(hm: ∀k,k≠l→m' k=m k)
  (hp: ∀k b cap sz i j x n c,k≠l→m k= .at b cap sz→w.cell? ⟨b,i*sz+j,none⟩=some (.slice x n c)→w'.cell? ⟨b,i*sz+j,none⟩=some (.slice x n c)) :
  ∀{xs vs},RMs L w ok m xs vs→Ms.free l xs=true→RMs L w' ok' m' xs vs
 | _,_,.nil,_=>.nil
 | _,_,.cons h1 h2,hf=>.cons (RM.keep h hm hp h1 (by simp[Ms.free]at hf;exact hf.1)) (RMs.keep h hm hp h2 (by simp[Ms.free]at hf;exact hf.2))
end
mutual
theorem RA.keep{L w w' ok ok' m m'}(h:Keep w w' ok ok'){l:Nat}(hm: ∀k,k≠l→m' k=m k)
  (hp: ∀k b cap sz i j x n c,k≠l→m k= .at b cap sz→w.cell? ⟨b,i*sz+j,none⟩=some (.slice x n c)→w'.cell? ⟨b,i*sz+j,none⟩=some (.slice x n c)) :
  ∀{x v},RA L w ok m x v→A.free l x=true→RA L w' ok' m' x v
 | _,_,.c h1,hf=>.c (h1.keep h hm hp (by simpa[A.free]using hf))
 | _,_,.agg h1,hf=>.agg (h1.keep h hm hp (by simpa[A.free]using hf))
 | _,_,.tup h1,hf=>.tup (RAs.keep h hm hp h1 (by simpa[A.free]using hf))
 | _,_,.junk,_=>.junk
 | _,_,.un,_=>.un
theorem RAs.keep{L w w' ok ok' m m'}(h:Keep w w' ok ok'){l:Nat}(hm: ∀k,k≠l→m' k=m k)
  (hp: ∀k b cap sz i j x n c,k≠l→m k= .at b cap sz→w.cell? ⟨b,i*sz+j,none⟩=some (.slice x n c)→w'.cell? ⟨b,i*sz+j,none⟩=some (.slice x n c)) :
  ∀{xs vs},RAs L w ok m xs vs→As.free l xs=true→RAs L w' ok' m' xs vs
 | _,_,.nil,_=>.nil
 | _,_,.cons h1 h2,hf=>.cons (RA.keep h hm hp h1 (by simp[As.free]at hf;exact hf.1)) (RAs.keep h hm hp h2 (by simp[As.free]at hf;exact hf.2))
end
mutual
/-- What names a label is let go: then the label may lie anywhere. -/
theorem RM.purged{L w ok m m'}{l:Nat}(hm: ∀k,k≠l→m' k=m k): ∀{x v},RM L w ok m x v→RM L w ok m' (M.purge l x) v
 | _,_,.d h1=>.d h1
 | _,_,.rs (l:=k) h1 h2 h3 h4=>by
  unfold M.purge
  by_cases h:k=l
  subst h;simp only[tN.2 rfl,cond_true];exact .junk rfl
  rw[qC.2 h];exact .rs ((hm _ h).trans h1) h2 h3 h4
 | _,_,.rsNil (l:=k) h1=>by
  unfold M.purge
  by_cases h:k=l
  subst h;simp only[tN.2 rfl,cond_true];exact .junk rfl
  rw[qC.2 h];exact .rsNil ((hm _ h).trans h1)
 | _,_,.rp (l:=k) h1 h2=>by
  unfold M.purge
  by_cases h:k=l
  subst h;simp only[tN.2 rfl,cond_true];exact .junk rfl
  rw[qC.2 h];exact .rp ((hm _ h).trans h1) h2
 | _,_,.pt (l:=k) h1=>by
  unfold M.purge
  by_cases h:k=l
  subst h;simp only[tN.2 rfl,cond_true];exact .junk rfl
  rw[qC.2 h];exact .pt ((hm _ h).trans h1)
 | _,_,.pb (l:=k) h1=>by
  unfold M.purge
  by_cases h:k=l
  subst h;simp only[tN.2 rfl,cond_true];exact .junk rfl
  rw[qC.2 h];exact .pb ((hm _ h).trans h1)
 | _,_,.mp (l:=k) h1=>by
  unfold M.purge
  by_cases h:k=l
  subst h;simp only[tN.2 rfl,cond_true];exact .junk rfl
  rw[qC.2 h];exact .mp ((hm _ h).trans h1)
 | _,_,.fn h1=>.fn (RMs.purged hm h1)
 | _,_,.fb h1=>.fb (RMs.purged hm h1)
 | _,_,.ez=>.ez
 | _,_,.junk h1=>.junk h1
theorem RMs.purged{L w ok m m'}{l:Nat}(hm: ∀k,k≠l→m' k=m k): ∀{xs vs},RMs L w ok m xs vs→RMs L w ok m' (Ms.purge l xs) vs
 | _,_,.nil=>.nil
 | _,_,.cons h1 h2=>.cons (RM.purged hm h1) (RMs.purged hm h2)
end
mutual
theorem RA.purged{L w ok m m'}{l:Nat}(hm: ∀k,k≠l→m' k=m k): ∀{x v},RA L w ok m x v→RA L w ok m' (A.purge l x) v
 | _,_,.c h1=>.c (h1.purged hm)
 | _,_,.agg h1=>.agg (h1.purged hm)
 | _,_,.tup h1=>.tup (RAs.purged hm h1)
 | _,_,.junk=>.junk
 | _,_,.un=>.un
theorem RAs.purged{L w ok m m'}{l:Nat}(hm: ∀k,k≠l→m' k=m k): ∀{xs vs},RAs L w ok m xs vs→RAs L w ok m' (As.purge l xs) vs
 | _,_,.nil=>.nil
 | _,_,.cons h1 h2=>.cons (RA.purged hm h1) (RAs.purged hm h2)
end
theorem gl(l:Nat)(e:List (Nat×A))(t:Nat):lk (bR l e) t=(lk e t).map (A.purge l):=by
 induction e with
 | nil=>simp[bR,aU]
 | cons x r ih=>obtain⟨k,v⟩:=x;simp only[bR,aw,ih];split<;>simp
theorem eV{l:Nat}{e:List (Nat×A)}(h:eE l e=true){t:Nat}{v:A}(hv:lk e t=some v):A.free l v=true:=by
 induction e with
 | nil=>simp[aU]at hv
 | cons x r ih=>
  obtain⟨k,u⟩:=x
  simp only[eE,bD]at h
  rw[aw]at hv
  split at hv
  simp at hv;subst hv;exact h.1
  exact ih h.2 hv
theorem RB.keep{L w w' ok ok' m m'}(h:Keep w w' ok ok'){l:Nat}(hm: ∀k,k≠l→m' k=m k)
  (hp: ∀k b cap sz i j x n c,k≠l→m k= .at b cap sz→w.cell? ⟨b,i*sz+j,none⟩=some (.slice x n c)→w'.cell? ⟨b,i*sz+j,none⟩=some (.slice x n c))
  {blk loc F} (hb:RB L w ok m blk loc F) (hf:B.free l blk=true) (hF: ∀b∈F,Same w w' b):RB L w' ok' m' blk loc F:=by
 cases hb with
 | nil=>exact .nil
 | row h1 h2 h3 h4 h5 h6 h7 h8=>
  exact .row h1 h2 h3 ((hF _ (by simp)).trans h4) h5 h6 (h7.mono (fun b hb hok=>⟨⟨hok.1,(h.imm b hb hok.2).1⟩,(h.imm b hb hok.2).2⟩) h.size (hF _ (by simp)) (fun b hb=>hF b (by simp[hb]))) h8
 | box h1 h2=>exact .box ((hF _ (by simp)).trans h1) (h2.keep h hm hp (by simpa[B.free]using hf))
 | map h1 h2=>exact .map ((hF _ (by simp)).trans h1) (h2.mono h.imm h.size)
theorem RH.keep{L w w' ok ok' m m'}(h:Keep w w' ok ok'){l:Nat}(hm: ∀k,k≠l→m' k=m k)
  (hp: ∀k b cap sz i j x n c,k≠l→m k= .at b cap sz→w.cell? ⟨b,i*sz+j,none⟩=some (.slice x n c)→w'.cell? ⟨b,i*sz+j,none⟩=some (.slice x n c)) :
  ∀{H F},RH L w ok m H F→lz l H=true→lk H l=none→(∀b∈F,Same w w' b)→RH L w' ok' m' H F
 | _,_,.nil,_,_,_=>.nil
 | _,_,.cons (l:=k) h1 h2,hf,hn,hF=>by
  simp only[lz,bD]at hf
  rw[aw]at hn
  by_cases hk:k=l
  rw[if_pos hk]at hn;cases hn
  rw[if_neg hk]at hn
  exact .cons (by rw[hm k hk];exact h1.keep h hm hp hf.1 (fun b hb=>hF b (by simp[hb]))) (RH.keep h hm hp h2 hf.2 hn (fun b hb=>hF b (by simp[hb])))
theorem RB.lt{L w ok m blk loc F}(h:RB L w ok m blk loc F): ∀b∈F,b<w.heap.size:=by
 cases h with
 | nil=>intro b hb;cases hb
 | row h1 h2 h3 h4 h5 h6 h7 h8=>
  intro b hb
  rcases List.mem_cons.1 hb with rfl|hb
  exact(Array.getElem?_eq_some_iff.1 h4).1
  exact h7.lt b hb
 | box h1 h2=>
  intro b hb
  simp at hb;subst hb
  exact(Array.getElem?_eq_some_iff.1 h1).1
 | map h1 h2=>
  intro b hb
  simp at hb;subst hb
  exact(Array.getElem?_eq_some_iff.1 h1).1
theorem RH.get{L w ok m}: ∀{H F},RH L w ok m H F→∀{l blk},lk H l=some blk→∃F1,RB L w ok m blk (m l) F1∧F1.Sublist F
 | _,_,.nil,l,blk,h=>by simp[aU]at h
 | _,_,.cons (l:=k) h1 h2,l,blk,h=>by
  rw[aw]at h
  split at h
  rename_i hk;subst hk;simp at h;subst h;exact⟨_,h1,List.sublist_append_left _ _⟩
  obtain⟨F',h3,h4⟩:=RH.get h2 h
  exact⟨F',h3,h4.trans (List.sublist_append_right _ _)⟩
theorem RH.inserted{L w ok m}: ∀{H F},RH L w ok m H F→∀{l blk F1},lk H l=none→RB L w ok m blk (m l) F1→∃F',RH L w ok m (ins H l blk) F'∧F'.Perm (F1++F)
 | _,_,.nil,l,blk,F1,h,hb=>⟨F1++[],.cons hb .nil,.refl _⟩
 | _,_,.cons (l:=k) (F1:=G1) (F2:=G2) h1 h2,l,blk,F1,h,hb=>by
  rw[aw]at h
  by_cases hk:k=l
  rw[if_pos hk]at h;cases h
  rw[if_neg hk]at h
  unfold ins
  rw[qC.2 hk]
  simp only[cond_false]
  cases Nat.blt l k with
  | true=>exact⟨F1++(G1++G2),.cons hb (.cons h1 h2),.refl _⟩
  | false=>
   obtain⟨F',h3,h4⟩:=RH.inserted h2 h hb
   refine⟨G1++F',.cons h1 h3,?_⟩
   refine(h4.append_left G1).trans ?_
   rw[←dO,←dO]
   exact List.perm_append_comm.append_right G2
theorem RH.purged{L w ok m m'}{l:Nat}(hm: ∀k,k≠l→m' k=m k): ∀{H F},RH L w ok m H F→∃F',RH L w ok m' (b9 l H) F'∧F'.Sublist F
 | _,_,.nil=>⟨[],.nil,.refl _⟩
 | _,_,.cons (l:=k) (F1:=G1) h1 h2=>by
  obtain⟨F',h3,h4⟩:=RH.purged hm h2
  unfold b9
  by_cases hk:k=l
  subst hk;simp only[tN.2 rfl,cond_true];exact⟨F',h3,h4.trans (List.sublist_append_right _ _)⟩
  rw[qC.2 hk]
  refine⟨G1++F',.cons ?_ h3,List.Sublist.append (List.Sublist.refl _) h4⟩
  rw[hm k hk]
  generalize m k=loc at h1
  cases h1 with
  | nil=>exact .nil
  | row a1 a2 a3 a4 a5 a6 a7 a8=>exact .row a1 a2 a3 a4 a5 a6 a7 a8
  | box a1 a2=>exact .box a1 (a2.purged hm)
  | map a1 a2=>exact .map a1 a2
end Go.Al
/- The abstract logic, vp 2: the table of types, the relation between an abstract state and the machine's, slots, operands, and the operations that only look at slots. -/
namespace Go.Al

def D.val:D→Value
 | .int k n=>.int k n
 | .bool b=>.bool b
 | .str s=>.string s
 | .nils=>.slice none 0 0
 | .nilp=>.pointer none
 | .nilf=>.nilFunc
 | .nilm=>.map none
 | _=>.nilFunc
structure TI where
 kind:Nat
 agg:Bool
 elem:Nat
 size:Nat
 bytes:Nat
 zero:List D
 fields:List (Nat×Nat)
def gY(P:Program)(t:Nat):Nat:=
 match P.underlying t with
 | some (.slice _)=>1|some .string=>2|some (.struct _)=>3|some (.int _)=>4|some .bool=>5|some (.pointer _)=>6
 | some (.func ..)=>7|some (.map ..)=>8|some (.array ..)=>9|some (.tuple _)=>10|some _=>11|none=>12
def nl(P:Program)(t:Nat):List (Nat×Option Nat):=
 match P.underlying t with
 | some (.struct fs)=>fs.toList.map fun f=>(f.offset,(P.info? f.type).map (·.size))
 | _=>[]
structure TIok(P:Program)(t:Nat)(i:TI):Prop where
 kind:gY P t=i.kind
 agg:(Nat.beq i.kind 3||Nat.beq i.kind 9)=i.agg
 known:Nat.blt i.kind 12=true
 elem:P.elem t=i.elem
 size:(P.info? t).map (fun x=>(x.size,x.bytes))=some (i.size,i.bytes)
 zero:((P.info? t).bind (·.zero)).map (·.cells.toList)=some (i.zero.map D.val)
 fields:nl P t=i.fields.map fun x=>(x.1,some x.2)
def TTok(P:Program):List (Nat×TI)→Prop
 | []=>True
 | (t,i)::r=>TIok P t i∧TTok P r
theorem TTok.get{P:Program}: ∀{tt:List (Nat×TI)},TTok P tt→∀{t i},lk tt t=some i→TIok P t i
 | [],_,t,i,h=>by simp[aU]at h
 | (k,x)::r,h,t,i,hh=>by
  rw[aw]at hh
  split at hh
  rename_i e;subst e;simp at hh;subst hh;exact h.1
  exact TTok.get h.2 hh
def D.plain:D→Bool
 | .int k n=>decide (k.min≤n)&&decide (n≤k.max)
 | .bool _| .nils| .nilp| .nilf| .nilm=>true
 | .str s=>s.size==0
 | _=>false
theorem eX{L w ok}{d:D}(h:d.plain=true):RD L w ok d d.val []:=by
 cases d with
 | int k n=>simp[D.plain]at h;exact .int h.1 h.2
 | bool b=>exact .bool
 | nils=>exact .nils
 | nilp=>exact .nilp
 | nilf=>exact .nilf
 | nilm=>exact .nilm
 | str s=>simp only[D.plain,beq_iff_eq]at h;exact .str (by omega)
 | slc sz xs=>simp[D.plain]at h
 | ptr cs o=>simp[D.plain]at h
 | any o=>simp[D.plain]at h
section
variable{P:Program}{t:Nat}{i:TI}
theorem TIok.isSlice(h:TIok P t i)(hk:i.kind=1):P.underlying t=some (.slice i.elem):=by
 have h1:=h.kind
 have h2:=h.elem
 rw[hk]at h1
 unfold gY at h1
 unfold Program.elem at h2
 split at h1<;>simp_all
theorem TIok.isStr(h:TIok P t i)(hk:i.kind=2):P.underlying t=some .string:=by
 have h1:=h.kind
 rw[hk]at h1
 unfold gY at h1
 split at h1<;>simp_all
theorem TIok.isBool(h:TIok P t i)(hk:i.kind=5):P.underlying t=some .bool:=by
 have h1:=h.kind
 rw[hk]at h1
 unfold gY at h1
 split at h1<;>simp_all
theorem TIok.isStruct(h:TIok P t i)(hk:i.kind=3): ∃fs,P.underlying t=some (.struct fs)∧fs.toList.map (fun f=>(f.offset,(P.info? f.type).map (·.size)))=i.fields.map fun x=>(x.1,some x.2):=by
 have h1:=h.kind
 have h2:=h.fields
 rw[hk]at h1
 unfold gY at h1
 unfold nl at h2
 split at h1<;>simp_all
theorem TIok.info(h:TIok P t i): ∃x,P.info? t=some x∧x.size=i.size∧x.bytes=i.bytes∧∃z,x.zero=some z∧z.cells.toList=i.zero.map D.val:=by
 have h1:=h.size
 have h2:=h.zero
 cases hx:P.info? t with
 | none=>simp[hx]at h1
 | some x=>
  simp only[hx,Option.map_some,el,Prod.mk.injEq]at h1
  refine⟨x,Z,h1.1,h1.2,?_⟩
  cases hz:x.zero with
  | none=>simp[hx,hz]at h2
  | some z=>exact⟨z,Z,by simpa[hx,hz]using h2⟩
theorem TIok.run_sizeOf(h:TIok P t i)(w:World):(sizeOf t).run P w= .ok i.size w:=by
 obtain⟨x,hx,hs,_⟩:=h.info
 simp[sizeOf,typeInfo,hx,hs]
def vL:TypeDesc→Bool
 | .struct _| .array _ _=>true
 | _=>false
theorem TIok.underlying_some(h:TIok P t i): ∃d,P.underlying t=some d∧vL d=i.agg:=by
 have hk:i.kind<12:=by simpa[Nat.blt_eq]using h.known
 rw[←h.agg]
 have h1:=h.kind
 unfold gY at h1
 cases hd:P.underlying t with
 | none=>simp[hd]at h1;omega
 | some d=>
  refine⟨d,Z,?_⟩
  cases d<;>simp[hd]at h1<;>simp[vL,←h1]<;>decide
theorem TIok.run_isAgg(h:TIok P t i)(w:World):(isAgg t).run P w= .ok i.agg w:=by
 obtain⟨d,hd,hh⟩:=h.underlying_some
 unfold isAgg
 rw[Sem.run_bind,run_underlying hd w]
 simp only[Result.andThen_ok]
 rw[←hh]
 cases d<;>rfl
end

structure Sg where
 P:Program
 tt:List (Nat×TI)
 L:Nat
 nt:Nat
 ins:List Nat
structure Ctx extends Sg where
 w0:World
 Fin:List Nat
 ok0:Nat→Prop
 m0:Nat→Loc
 good:GOk toSg.P w0 ok0
 fin: ∀b∈Fin,¬ok0 b

def Ctx.ok(Γ:Ctx)(F:List Nat)(b:Nat):Prop:=b ∉ F∧(Γ.ok0 b∨Γ.w0.heap.size≤b∨b∈Γ.Fin)

structure Frame(w0 w:World)(Fin:List Nat):Prop where
 os:w.os=w0.os
 tape:w.tape=w0.tape
 output:w.output=w0.output
 size:w0.heap.size≤w.heap.size
 block: ∀b,b<w0.heap.size→b ∉ Fin→Same w0 w b

structure Rel0(Γ:Ctx)(m:Nat→Loc)(F:List Nat)(s:St)(a:Act)(w:World):Prop where
 H:RH Γ.L w (Γ.ok F) m s.H F
 nodup:F.Nodup
 own: ∀b∈F,Γ.w0.heap.size≤b∨b∈Γ.Fin
 env: ∀t v,lk s.env t=some v→RA Γ.L w (Γ.ok F) m v (a.tmps.getD t undef)
 size:a.tmps.size=Γ.nt
 defers:a.defers=[]
 frame:Frame Γ.w0 w Γ.Fin
 keep: ∀l,l∈Γ.ins→(lk s.H l).isSome=true→m l=Γ.m0 l
 dom: ∀l b cap sz,m l= .at b cap sz→(lk s.H l).isSome=true

theorem Rel0.good{Γ m F s a w}(h:Rel0 Γ m F s a w){F1:List Nat}(hF: ∀b∈F1,b∈F):GOk Γ.P w (Γ.ok F1):=
 Γ.good.mono fun b hb hok=>⟨⟨fun hh=>by
 rcases h.own b (hF b hh)with h1|h1
 omega
 exact Γ.fin b h1 hok,.inl hok⟩,h.frame.block b hb fun hh=>Γ.fin b hh hok⟩
def fz(Γ:Ctx)(s:St)(a:Act)(w:World):Prop:= ∃m F,Rel0 Γ m F s a w

def put(nt:Nat)(s:St)(dst:Option Nat)(v:A):Option St:=
 match dst with
 | none=>some s
 | some d=>bif Nat.blt d nt then some ⟨(d,v)::s.env,s.H⟩else none

theorem gA{a b:Nat}:Nat.blt a b=true↔a<b:=by simp[Nat.blt_eq]

theorem Rel0.put{Γ m F s a w}(h:Rel0 Γ m F s a w){dst:Option Nat}{v:A}{x:Value}(hv:RA Γ.L w (Γ.ok F) m v x){s':St}(hs:put Γ.nt s dst v=some s') :
  Rel0 Γ m F s' (a.put dst x) w:=by
 cases dst with
 | none=>simp[Al.put]at hs;subst hs;exact h
 | some d=>
  unfold Al.put at hs
  simp only at hs
  cases hd:Nat.blt d Γ.nt with
  | false=>simp[hd]at hs
  | true=>
   simp[hd]at hs
   subst hs
   refine⟨h.H,h.nodup,h.own,fun t u hu=>?_,by simp[Act.put,h.size],h.defers,h.frame,h.keep,h.dom⟩
   simp only[aw]at hu
   have hlt:=gA.1 hd
   split at hu
   rename_i e;subst e
   simp at hu;subst hu
   simpa[Act.put,Array.getElem?_setIfInBounds,h.size,hlt]using hv
   rename_i hne
   have:=h.env t u hu
   simpa[Act.put,Array.getElem?_setIfInBounds,hne]using this
def cA:Value→Option A
 | .int k n=>bif (D.int k n).plain then some (.c (.d (.int k n)))else none
 | .bool b=>some (.c (.d (.bool b)))
 | .string s=>some (.c (.d (.str s)))
 | .slice none 0 0=>some (.c (.d .nils))
 | .pointer none=>some (.c (.d .nilp))
 | .nilFunc=>some (.c (.d .nilf))
 | _=>none
def ev(s:St):Operand→Option A
 | .tmp t=>lk s.env t
 | .const v=>cA v
 | .func f=>some (.c (.fn f []))
 | .global _=>none

theorem sA{L w ok m}(hL:4096≤L){x:Value}{v:A}(h:cA x=some v)(hs: ∀s,x= .string s→s.size≤4096):RA L w ok m v x:=by
 unfold cA at h
 split at h
 rename_i k n
 cases hp:(D.int k n).plain with
 | false=>simp[hp]at h
 | true=>simp[hp]at h;subst h;exact .c (.d (eX hp))
 simp at h;subst h;exact .c (.d .bool)
 rename_i s;simp at h;subst h;exact .c (.d (.str (Nat.le_trans (hs s rfl) hL)))
 simp at h;subst h;exact .c (.d .nils)
 simp at h;subst h;exact .c (.d .nilp)
 simp at h;subst h;exact .c (.d .nilf)
 simp at h
def Operand.short:Operand→Bool
 | .const (.string s)=>Nat.ble s.size 4096
 | _=>true

theorem Rel0.ev{Γ m F s a w}(h:Rel0 Γ m F s a w)(hL:4096≤Γ.L){x:Operand}{v:A}(hs:Al.Operand.short x=true)(hv:ev s x=some v):RA Γ.L w (Γ.ok F) m v (a.eval x):=by
 cases x with
 | tmp t=>exact h.env t v hv
 | const c=>
  refine sA hL hv (fun s e=>?_)
  subst e
  simpa[Operand.short]using hs
 | global g=>simp[Al.ev]at hv
 | func f=>
  simp[Al.ev]at hv;subst hv
  exact .c (.fn .nil)
end Go.Al
/- The abstract logic, vp 3: the operations that yield a value and leave memory alone. -/
namespace Go.Al

def cw(w:World)(b o:Nat)(vs:List Value):Prop:= ∀j v,vs[j]? = some v→w.cell? ⟨b,o+j,none⟩=some v

def A.cells:A→Option (List M)
 | .c m=>some [m]
 | .agg ms=>some ms
 | _=>none
theorem RA.cells{L w ok m}{v:A}{x:Value}(h:RA L w ok m v x){ms:List M}(hc:v.cells=some ms):RMs L w ok m ms x.cells.toList:=by
 cases h with
 | c h=>
  simp[A.cells]at hc;subst hc
  have:x.cells= #[x]:=by
   have:=h.oneCell
   cases x<;>simp[Value.cells,Value.oneCell']at this ⊢
  rw[this];exact .cons h .nil
 | agg h=>simp[A.cells]at hc;subst hc;simpa[Value.cells]using h
 | tup h=>simp[A.cells]at hc
 | junk=>simp[A.cells]at hc
 | un=>simp[A.cells]at hc
def uk(own:Bool)(l i j:Nat)(d:D):M:=
 bif own then(match d with| .slc _ _=>.rp l i j|d=>.d d)else .d d
def oW(own:Bool)(l i:Nat):Nat→List D→List M
 | _,[]=>[]
 | j,d::r=>uk own l i j d::oW own l i (j+1) r

theorem oB{L w ok m}{own:Bool}{l i j b cap sz:Nat}{d:D}{v:Value}{F:List Nat}(hm:m l= .at b cap sz)(hc:w.cell? ⟨b,i*sz+j,none⟩=some v)
  (h:RD L w (fun b=>own=false∧ok b) d v F) (hF:own=false→F=[]):RM L w ok m (uk own l i j d) v:=by
 cases own with
 | false=>
  simp[uk]
  have:=hF Z
  subst this
  exact .d (h.mono (fun b _ hb=>⟨hb.2,Z⟩) (cm _) (by simp))
 | true=>
  cases h with
  | int a b=>exact .d (.int a b)
  | bool=>exact .d .bool
  | str a=>exact .d (.str a)
  | nils=>exact .d .nils
  | nilp=>exact .d .nilp
  | nilf=>exact .d .nilf
  | nilm=>exact .d .nilm
  | slc0=>exact .rp hm hc
  | slc _ _ _ h4 _ _=>exact absurd h4.1 (by simp)
  | own _ _ _ _ _ _ _=>exact .rp hm hc
  | ptr h1 _ _=>exact absurd h1.1 (by simp)
  | any h1 h2=>exact .d (.any h1 h2)
theorem jE{L w ok m}{own:Bool}{l i b cap sz:Nat}(hm:m l= .at b cap sz): ∀{ds:List D} {j:Nat} {F:List Nat},
  RDs L w (fun b=>own=false∧ok b) ds b (i*sz+j) F→(own=false→F=[])→∃vs,cw w b (i*sz+j) vs∧RMs L w ok m (oW own l i j ds) vs
 | [],j,F,_,_=>⟨[],fun j v h=>by simp at h,.nil⟩
 | d :: ds,j,F,h,hF=>by
  cases h with
  | cons a1 a2 a3=>
   rename_i v F1 F2
   have hF1:own=false→F1=[]:=fun e=>(List.append_eq_nil_iff.1 (hF e)).1
   have hF2:own=false→F2=[]:=fun e=>(List.append_eq_nil_iff.1 (hF e)).2
   obtain⟨vs,h1,h2⟩:=jE hm (j:=j+1) a3 hF2
   refine⟨v::vs,fun k u hk=>?_,.cons (oB hm a1 a2 hF1) h2⟩
   cases k with
   | zero=>simp at hk;subst hk;exact a1
   | succ k=>have:=h1 k u (by simpa using hk);rwa[show i*sz+(j+1)+k=i*sz+j+(k+1) by omega]at this
theorem RDs.cellsAt{L w ok}{m:Nat→Loc}: ∀{ds:List D} {b o F},RDs L w ok ds b o F→F=[]→∃vs,cw w b o vs∧RMs L w ok m (ds.map .d) vs
 | [],b,o,F,_,_=>⟨[],fun j v h=>by simp at h,.nil⟩
 | d :: ds,b,o,F,h,hF=>by
  cases h with
  | cons a1 a2 a3=>
   rename_i v F1 F2
   obtain⟨rfl,rfl⟩:=List.append_eq_nil_iff.1 hF
   obtain⟨vs,h1,h2⟩:=RDs.cellsAt (m:=m) a3 rfl
   refine⟨v::vs,fun k u hk=>?_,.cons (.d a2) h2⟩
   cases k with
   | zero=>simp at hk;subst hk;exact a1
   | succ k=>have:=h1 k u (by simpa using hk);rwa[show o+1+k=o+(k+1) by omega]at this
def lu(tt:List (Nat×TI))(t:Nat)(ms:List M)(j:Nat):Option A:=
 match lk tt t with
 | some i=>bif i.agg then(bif Nat.ble (j+i.size) ms.length then some (.agg ((ms.drop j).take i.size))else none)else(ms[j]?).map .c
 | none=>none

theorem gk{P:Program}{tt:List (Nat×TI)}(htt:TTok P tt){L w ok m}{t j b o:Nat}{ms:List M}{vs:List Value}(hm:RMs L w ok m ms vs)(hc:cw w b o vs){v:A}
  (h:lu tt t ms j=some v): ∃x,(Instr.loadAt t (.pointer (some ⟨b,o+j,none⟩))).run P w= .ok x w∧RA L w ok m v x:=by
 unfold lu at h
 cases hi:lk tt t with
 | none=>simp[hi]at h
 | some i=>
  have hok:=htt.get hi
  simp only[hi]at h
  cases ha:i.agg with
  | true =>
   simp only[ha,cond_true]at h
   cases hle:Nat.ble (j+i.size) ms.length with
   | false=>simp[hle]at h
   | true=>
    simp only[hle,cond_true,el]at h
    subst h
    have hle':j+i.size≤ms.length:=Nat.le_of_ble_eq_true hle
    have hlen:=hm.length
    have hl:((vs.drop j).take i.size).length=i.size:=by simp;omega
    have hr:=run_loadCells_list (P:=P) w ⟨b,o+j,none⟩ ((vs.drop j).take i.size) (fun k v hk=>by
     rw[Addr.add_lit]
     have h0:vs[j+k]? = some v:=by
      rw[List.getElem?_take]at hk
      split at hk
      ·
       simpa using hk
      ·
       cases hk
     have:=hc _ _ h0
     rwa[show o+j+k=o+(j+k) by omega])
    rw[hl]at hr
    refine⟨_,?_,.agg ((hm.drop j).take i.size)⟩
    simp[Instr.loadAt,Instr.sureAddr,loadVar,hok.run_isAgg,ha,hok.run_sizeOf,hr]
  | false=>
   simp only[ha,cond_false]at h
   cases hx:ms[j]? with
   | none=>simp[hx]at h
   | some x=>
    simp[hx]at h
    subst h
    obtain⟨u,h1,h2⟩:=hm.get hx
    refine⟨u,?_,.c h2⟩
    simp[Instr.loadAt,Instr.sureAddr,loadVar,hok.run_isAgg,ha,hc _ _ h1]
def mQ(tt:List (Nat×TI))(s:St)(t:Nat):A→Option A
 | .c (.d (.ptr cs off))=>lu tt t (cs.map .d) off
 | .c (.pt l i j)=>
  match lk s.H l with
  | some (.box ms)=>bif Nat.beq i 0 then lu tt t ms j else none
  | some (.row own sz xs)=>match xs[i]? with
   | some e=>lu tt t (oW own l i 0 e) j
   | none=>none
  | _=>none
 | _=>none

theorem jO{Γ m F s a w}(htt:TTok Γ.P Γ.tt)(hR:Rel0 Γ m F s a w){t:Nat}{x v:A}{p:Value}(hp:RA Γ.L w (Γ.ok F) m x p)(h:mQ Γ.tt s t x=some v) :
  ∃y,(Instr.loadAt t p).run Γ.P w= .ok y w∧RA Γ.L w (Γ.ok F) m v y:=by
 unfold mQ at h
 split at h
 cases hp with
 | c hp=>
  cases hp with
  | d hp=>
   cases hp with
   | ptr h1 h2 h3=>
    obtain⟨vs,h4,h5⟩:=h3.cellsAt (m:=m) rfl
    exact gk htt h5 h4 h
 rename_i l i j
 cases hp with
 | c hp =>
  split at h
  rename_i ms hl
  obtain⟨F1,hB,_⟩:=hR.H.get hl
  cases hi:Nat.beq i 0 with
  | false=>simp[hi]at h
  | true=>
   have hi0:i=0:=tN.1 hi
   subst hi0
   simp only[hi,cond_true]at h
   cases hp with
   | pt hm=>rw[hm]at hB;cases hB
   | @pb _ _ b hm=>
    rw[hm]at hB
    cases hB with
    | @box _ _ bO T h1 h2=>
     have hc:cw w b 0 bO.toList:=fun k u hk=>by
      rw[cell_of_row w b _ bO T _ h1];simpa using hk
     simpa using gk htt h2 hc h
  rename_i own sz' xs hl
  obtain⟨F1,hB,_⟩:=hR.H.get hl
  split at h
  rename_i e he
  cases hp with
  | pb hm=>rw[hm]at hB;cases hB
  | @pt _ _ _ b cap sz hm=>
   rw[hm]at hB
   cases hB with
   | @row _ _ _ _ _ bO T F2 h1 h2 h3 h4 h5 h6 h7 h8=>
    rw[db he]at h7
    obtain⟨G1,G2,rfl,h9,h10⟩:=h7.split
    obtain⟨G3,G4,rfl,h11,h12⟩:=h10.split
    have hlen:(xs.take i).flatten.length=i*sz':=by
     rw[br (fun e he=>h3 e (List.mem_of_mem_take he)),List.length_take]
     have:=(List.getElem?_eq_some_iff.1 he).1
     rw[Nat.min_eq_left (by omega)]
    rw[hlen,Nat.zero_add]at h11
    obtain⟨vs,h13,h14⟩:=jE (ok:=Γ.ok F) hm (i:=i) (j:=0) (by simpa using h11) (fun e=>by have:=h8 e;simp at this;exact this.2.1)
    have:=gk htt h14 h13 h
    simpa using this
  cases h
  cases h
 cases h
def rb(op:BinOp)(k:IntKind)(x y:Int):Option A:=
 match op with
 | .add=>some (.c (.d (.int k (k.wrap (x+y)))))
 | .sub=>some (.c (.d (.int k (k.wrap (x-y)))))
 | .mul=>some (.c (.d (.int k (k.wrap (x*y)))))
 | .quo=>if y=0 then none else some (.c (.d (.int k (k.wrap (x.tdiv y)))))
 | .rem=>if y=0 then none else some (.c (.d (.int k (k.wrap (x.tmod y)))))
 | .eql=>some (.c (.d (.bool (decide (x=y)))))
 | .neq=>some (.c (.d (.bool (!decide (x=y)))))
 | .lss=>some (.c (.d (.bool (decide (x<y)))))
 | .leq=>some (.c (.d (.bool (decide (x≤y)))))
 | .gtr=>some (.c (.d (.bool (decide (y<x)))))
 | .geq=>some (.c (.d (.bool (decide (y≤x)))))
 | _=>none
theorem fD(k:IntKind)(n:Int):k.min≤k.wrap n:=by
 cases k<;>simp[IntKind.wrap,IntKind.min,IntKind.signed,IntKind.bits]<;>(try split)<;>omega
theorem fE(k:IntKind)(n:Int):k.wrap n≤k.max:=by
 cases k<;>simp[IntKind.wrap,IntKind.max,IntKind.signed,IntKind.bits]<;>(try split)<;>omega
theorem l7(k:IntKind)(n:Int)(h1:k.min≤n)(h2:n≤k.max):k.wrap n=n:=by
 cases k<;>simp[IntKind.wrap,IntKind.min,IntKind.max,IntKind.signed,IntKind.bits]at* <;> (try split)<;>omega
theorem oy(k:IntKind)(x y:Int)(h1:k.min≤x)(h2:x≤k.max):k.min≤x.tmod y∧x.tmod y≤k.max:=by
 have hmin:k.min≤0:=by cases k<;>decide
 have hmax:0≤k.max:=by cases k<;>decide
 have h3:(x.tmod y).natAbs≤x.natAbs:=by
  rw[Int.natAbs_tmod];exact Nat.mod_le _ _
 rcases Int.le_total 0 x with hx|hx
 have:=Int.tmod_nonneg y hx
 omega
 have:x.tmod y≤0:=by
  have h4:=Int.tmod_nonneg y (show 0≤ -x by omega)
  rw[Int.neg_tmod]at h4;omega
 omega
theorem oN{P L w ok m}{op:BinOp}{t:Nat}{k:IntKind}{x y:Int}{v:A}(hx:k.min≤x∧x≤k.max)(h:rb op k x y=some v) :
  ∃u,(binOp op t (.int k x) (.int k y)).run P w= .ok u w∧RA L w ok m v u:=by
 unfold rb at h
 split at h
 simp at h;subst h
 exact⟨.int k (k.wrap (x+y)),by simp[binOp,Op.intArith],.c (.d (.int (fD _ _) (fE _ _)))⟩
 simp at h;subst h
 exact⟨.int k (k.wrap (x-y)),by simp[binOp,Op.intArith],.c (.d (.int (fD _ _) (fE _ _)))⟩
 simp at h;subst h
 exact⟨.int k (k.wrap (x*y)),by simp[binOp,Op.intArith],.c (.d (.int (fD _ _) (fE _ _)))⟩
 split at h
 cases h
 rename_i hy
 simp at h;subst h
 exact⟨.int k (k.wrap (x.tdiv y)),by simp[binOp,Op.intDiv,hy],.c (.d (.int (fD _ _) (fE _ _)))⟩
 split at h
 cases h
 rename_i hy
 simp at h;subst h
 have hr:=oy k x y hx.1 hx.2
 exact⟨.int k (x.tmod y),by simp[binOp,Op.intDiv,hy],.c (.d (by rw[l7 k _ hr.1 hr.2];exact .int hr.1 hr.2))⟩
 simp at h;subst h
 refine⟨.bool (x==y),by simp[binOp,Op.intCmp],.c (.d ?_)⟩
 rw[show(x==y)=decide (x=y) by rw[Bool.eq_iff_iff];simp];exact .bool
 simp at h;subst h
 refine⟨.bool (x != y),by simp[binOp,Op.intCmp],.c (.d ?_)⟩
 rw[show(x != y)= !decide (x=y) by rw[Bool.eq_iff_iff];simp];exact .bool
 simp at h;subst h
 exact⟨.bool (decide (x<y)),by simp[binOp,Op.intCmp],.c (.d .bool)⟩
 simp at h;subst h
 exact⟨.bool (decide (x≤y)),by simp[binOp,Op.intCmp],.c (.d .bool)⟩
 simp at h;subst h
 exact⟨.bool (decide (y<x)),by simp[binOp,Op.intCmp],.c (.d .bool)⟩
 simp at h;subst h
 exact⟨.bool (decide (y≤x)),by simp[binOp,Op.intCmp],.c (.d .bool)⟩
 cases h
def sJ(op:BinOp)(b:Bool):Option A:=
 match op with
 | .eql=>some (.c (.d (.bool b)))
 | .neq=>some (.c (.d (.bool !b)))
 | _=>none
def lj(tt:List (Nat×TI))(L:Nat)(op:BinOp)(t:Nat):A→A→Option A
 | .c (.d (.int k x)),.c (.d (.int k' y))=>if k=k' then rb op k x y else none
 | .c (.d (.bool x)),.c (.d (.bool y))=>match lk tt t with
  | some i=>bif Nat.beq i.kind 5 then sJ op (decide (x=y))else none
  | none=>none
 | .c (.d (.str x)),.c (.d (.str y))=>match op with
  | .add=>if x.size+y.size≤L∧L≤140737488355328 then some (.c (.d (.str (x++y))))else none
  | .eql=>some (.c (.d (.bool (decide (x.toList=y.toList)))))
  | .neq=>some (.c (.d (.bool (!decide (x.toList=y.toList)))))
  | .lss=>some (.c (.d (.bool (Op.bytesLess x.toList y.toList))))
  | .geq=>some (.c (.d (.bool (!Op.bytesLess x.toList y.toList))))
  | _=>none
 | .c (.rs _ _ (n+1)),.c (.d .nils)=>match lk tt t with
  | some i=>bif Nat.beq i.kind 1 then sJ op false else none
  | none=>none
 | .c (.d (.slc _ (_::_))),.c (.d .nils)=>match lk tt t with
  | some i=>bif Nat.beq i.kind 1 then sJ op false else none
  | none=>none
 | .c (.d .nils),.c (.d .nils)=>match lk tt t with
  | some i=>bif Nat.beq i.kind 1 then sJ op true else none
  | none=>none
 | .c (.pt _ _ _),.c (.d .nilp)=>match lk tt t with
  | some i=>bif Nat.beq i.kind 6 then sJ op false else none
  | none=>none
 | .c (.d (.ptr _ _)),.c (.d .nilp)=>match lk tt t with
  | some i=>bif Nat.beq i.kind 6 then sJ op false else none
  | none=>none
 | .c (.d .nilp),.c (.d .nilp)=>match lk tt t with
  | some i=>bif Nat.beq i.kind 6 then sJ op true else none
  | none=>none
 | _,_=>none

theorem TIok.isPtr{P:Program}{t:Nat}{i:TI}(h:TIok P t i)(hk:i.kind=6): ∃e,P.underlying t=some (.pointer e):=by
 have h1:=h.kind
 rw[hk]at h1
 unfold gY at h1
 split at h1<;>simp_all
theorem df{P:Program}{L w ok m}{op:BinOp}{t:Nat}{x y:Value}{b:Bool}{v:A}(heq:binOp .eql t x y=(do pure (.bool (←Op.equal t x y))))(hne:binOp .neq t x y=(do pure (.bool (!(←Op.equal t x y)))))
  (hr:(Op.equal t x y).run P w= .ok b w) (h:sJ op b=some v): ∃u,(binOp op t x y).run P w= .ok u w∧RA L w ok m v u:=by
 unfold sJ at h
 split at h
 simp at h;subst h
 exact⟨.bool b,by rw[heq];simp[hr],.c (.d .bool)⟩
 simp at h;subst h
 exact⟨.bool !b,by rw[hne];simp[hr],.c (.d .bool)⟩
 cases h
theorem dc{P:Program}{t:Nat}{x y:Value}{d:TypeDesc}{w:World}{b:Bool}(hu:P.underlying t=some d)
  (h: ∀n,(Op.equalIn (n+1) t x y).run P w= .ok b w):(Op.equal t x y).run P w= .ok b w:=h 9999

theorem oO{Γ m F s a w}(htt:TTok Γ.P Γ.tt)(hR:Rel0 Γ m F s a w){op:BinOp}{t:Nat}{x y v:A}{p q:Value}(hp:RA Γ.L w (Γ.ok F) m x p)(hq:RA Γ.L w (Γ.ok F) m y q)
  (h:lj Γ.tt Γ.L op t x y=some v): ∃u,(binOp op t p q).run Γ.P w= .ok u w∧RA Γ.L w (Γ.ok F) m v u:=by
 unfold lj at h
 split at h
 split at h
 rename_i hk
 subst hk
 cases hp with
 | c hp => cases hp with
  | d hp=>cases hp with
   | int a1 a2=>cases hq with
    | c hq=>cases hq with
     | d hq=>cases hq with
      | int b1 b2=>exact oN ⟨a1,a2⟩ h
 cases h
 rename_i bx bY
 cases hp with
 | c hp => cases hp with
  | d hp => cases hp;cases hq with
   | c hq=>cases hq with
    | d hq=>
     cases hq
     split at h
     ·
      rename_i i hi
      cases hk:Nat.beq i.kind 5 with
      | false=>simp[hk]at h
      | true=>
       simp only[hk,cond_true]at h
       have hu:=(htt.get hi).isBool (tN.1 hk)
       refine df (b:=decide (bx=bY)) Z Z ?_ h
       refine dc hu fun n=>?_
       unfold Op.equalIn
       simp[run_underlying hu]
       cases bx<;>cases bY<;>rfl
     ·
      cases h
 rename_i sx sy
 cases hp with
 | c hp => cases hp with
  | d hp => cases hp;cases hq with
   | c hq => cases hq with
    | d hq=>
     cases hq
     have hrun: ∀op,binOp op t (.string sx) (.string sy)=Op.stringOp op sx sy:=fun op=>by cases op<;>rfl
     split at h
     ·
      split at h
      ·
       rename_i hle
       simp at h;subst h
       refine⟨.string (sx++sy),?_,.c (.d (.str ?_))⟩
       ·
        rw[hrun]
        simp only[Op.stringOp]
        rw[if_neg (by simp;omega)]
        rfl
       ·
        rw[ByteArray.size_append];exact hle.1
      ·
       cases h
     ·
      simp at h;subst h
      refine⟨.bool (sx.toList==sy.toList),by rw[hrun];rfl,.c (.d ?_)⟩
      rw[show(sx.toList==sy.toList)=decide (sx.toList=sy.toList) by rw[Bool.eq_iff_iff];simp];exact .bool
     ·
      simp at h;subst h
      refine⟨.bool (!(sx.toList==sy.toList)),by rw[hrun];rfl,.c (.d ?_)⟩
      rw[show(sx.toList==sy.toList)=decide (sx.toList=sy.toList) by rw[Bool.eq_iff_iff];simp];exact .bool
     ·
      simp at h;subst h
      exact⟨_,by rw[hrun];rfl,.c (.d .bool)⟩
     ·
      simp at h;subst h
      exact⟨_,by rw[hrun];rfl,.c (.d .bool)⟩
     ·
      cases h
 split at h
 rename_i i hi
 cases hk:Nat.beq i.kind 1 with
 | false=>simp[hk]at h
 | true =>
  simp only[hk,cond_true]at h
  have hu:=(htt.get hi).isSlice (tN.1 hk)
  cases hp with
  | c hp=>cases hq with
   | c hq=>cases hq with
    | d hq=>cases hq;cases hp with
     | rs _ _ _ _=>
      refine df (b:=false) Z Z ?_ h
      refine dc hu fun n=>?_
      unfold Op.equalIn
      simp[run_underlying hu]
 cases h
 split at h
 rename_i i hi
 cases hk:Nat.beq i.kind 1 with
 | false=>simp[hk]at h
 | true =>
  simp only[hk,cond_true]at h
  have hu:=(htt.get hi).isSlice (tN.1 hk)
  cases hp with
  | c hp => cases hq with
   | c hq=>cases hq with
    | d hq=>cases hq;cases hp with
     | d hp=>cases hp with
      | slc _ _ _ _ _ _=>
       refine df (b:=false) Z Z ?_ h
       refine dc hu fun n=>?_
       unfold Op.equalIn
       simp[run_underlying hu]
 cases h
 split at h
 rename_i i hi
 cases hk:Nat.beq i.kind 1 with
 | false=>simp[hk]at h
 | true =>
  simp only[hk,cond_true]at h
  have hu:=(htt.get hi).isSlice (tN.1 hk)
  cases hp with
  | c hp=>cases hq with
   | c hq=>cases hq with
    | d hq=>cases hq;cases hp with
     | d hp=>
      cases hp
      refine df (b:=true) Z Z ?_ h
      refine dc hu fun n=>?_
      unfold Op.equalIn
      simp[run_underlying hu]
 cases h
 split at h
 rename_i i hi
 cases hk:Nat.beq i.kind 6 with
 | false=>simp[hk]at h
 | true =>
  simp only[hk,cond_true]at h
  obtain⟨e,hu⟩:=(htt.get hi).isPtr (tN.1 hk)
  cases hp with
  | c hp=>cases hq with
   | c hq=>cases hq with
    | d hq=>cases hq;cases hp with
     | pt _=>
      refine df (b:=false) Z Z ?_ h
      refine dc hu fun n=>?_
      unfold Op.equalIn
      simp[run_underlying hu]
     | pb _=>
      refine df (b:=false) Z Z ?_ h
      refine dc hu fun n=>?_
      unfold Op.equalIn
      simp[run_underlying hu]
 cases h
 split at h
 rename_i i hi
 cases hk:Nat.beq i.kind 6 with
 | false=>simp[hk]at h
 | true =>
  simp only[hk,cond_true]at h
  obtain⟨e,hu⟩:=(htt.get hi).isPtr (tN.1 hk)
  cases hp with
  | c hp => cases hq with
   | c hq=>cases hq with
    | d hq=>cases hq;cases hp with
     | d hp=>cases hp with
      | ptr _ _ _=>
       refine df (b:=false) Z Z ?_ h
       refine dc hu fun n=>?_
       unfold Op.equalIn
       simp[run_underlying hu]
 cases h
 split at h
 rename_i i hi
 cases hk:Nat.beq i.kind 6 with
 | false=>simp[hk]at h
 | true =>
  simp only[hk,cond_true]at h
  obtain⟨e,hu⟩:=(htt.get hi).isPtr (tN.1 hk)
  cases hp with
  | c hp=>cases hq with
   | c hq=>cases hq with
    | d hq=>cases hq;cases hp with
     | d hp=>
      cases hp
      refine df (b:=true) Z Z ?_ h
      refine dc hu fun n=>?_
      unfold Op.equalIn
      simp[run_underlying hu]
 cases h
 cases h
def xt:UnOp→A→Option A
 | .not,.c (.d (.bool b))=>some (.c (.d (.bool !b)))
 | .neg,.c (.d (.int k n))=>some (.c (.d (.int k (k.wrap (0-n)))))
 | _,_=>none
theorem qD{P:Program}{L w ok m}{op:UnOp}{x v:A}{p:Value}(hp:RA L w ok m x p)(h:xt op x=some v): ∃u,(Op.unary op p).run P w= .ok u w∧RA L w ok m v u:=by
 unfold xt at h
 split at h
 simp at h;subst h
 cases hp with
 | c hp=>cases hp with
  | d hp=>cases hp;exact⟨_,rfl,.c (.d .bool)⟩
 injection h with h;subst h
 cases hp with
 | c hp=>cases hp with
  | d hp=>cases hp;exact⟨_,rfl,.c (.d (.int (fD _ _) (fE _ _)))⟩
 cases h
def ov(tt:List (Nat×TI))(t f:Nat):A→Option A:=fun x=>
 match lk tt t with
 | none=>none
 | some i=>bif Nat.beq i.kind 3 then
   match i.fields[f]?,x with
   | some (o,n),.c (.pt l e j)=>bif Nat.beq n 0 then none else some (.c (.pt l e (j+o)))
   | some (o,n),.c (.d (.ptr cs j))=>bif Nat.beq n 0 then none else some (.c (.d (.ptr cs (j+o))))
   | _,_=>none
  else none
theorem mB{Γ m F s a w}(htt:TTok Γ.P Γ.tt)(hR:Rel0 Γ m F s a w){t f:Nat}{x v:A}{p:Value}(hp:RA Γ.L w (Γ.ok F) m x p)(h:ov Γ.tt t f x=some v) :
  ∃u,(Instr.fieldAt t p f).run Γ.P w= .ok u w∧RA Γ.L w (Γ.ok F) m v u:=by
 unfold ov at h
 split at h
 cases h
 rename_i i hi
 cases hk:Nat.beq i.kind 3 with
 | false=>simp[hk]at h
 | true =>
  simp only[hk,cond_true]at h
  obtain⟨fs,hu,hf⟩:=(htt.get hi).isStruct (tN.1 hk)
  have key: ∀o n,i.fields[f]? = some (o,n)→n≠0→∀(b j:Nat),(Instr.fieldAt t (.pointer (some ⟨b,j,none⟩)) f).run Γ.P w= .ok (.pointer (some ⟨b,j+o,none⟩)) w:=by
   intro o n hx hn b j
   have h1:(fs.toList.map (fun f=>(f.offset,(Γ.P.info? f.type).map (·.size))))[f]? = some (o,some n):=by rw[hf];simp[hx]
   simp only[List.getElem?_map,Option.map_eq_some_iff,Prod.mk.injEq]at h1
   obtain⟨fl,h2,h3,h4⟩:=h1
   have h2':fs[f]? = some fl:=by simpa using h2
   obtain⟨inf,h5,h6⟩:=h4
   simp[Instr.fieldAt,run_underlying hu,h2',Instr.sureAddr,fieldPlace,sizeOf,typeInfo,h5,h6,hn,h3,Addr.add_lit]
  split at h
  rename_i o n l e j hx
  cases hn:Nat.beq n 0 with
  | true=>simp[hn]at h
  | false=>
   simp only[hn,cond_false,el]at h
   subst h
   cases hp with
   | c hp=>cases hp with
    | pt hm=>
     refine⟨_,key o n hx (qC.1 hn) _ _,.c ?_⟩
     rw[Nat.add_assoc]
     exact .pt hm
    | pb hm=>exact⟨_,key o n hx (qC.1 hn) _ _,.c (.pb hm)⟩
  rename_i o n cs j hx
  cases hn:Nat.beq n 0 with
  | true=>simp[hn]at h
  | false=>
   simp only[hn,cond_false,el]at h
   subst h
   cases hp with
   | c hp=>cases hp with
    | d hp=>cases hp with
     | ptr h1 h2 h3=>
      refine⟨_,key o n hx (qC.1 hn) _ _,.c (.d ?_)⟩
      rw[Nat.add_assoc]
      exact .ptr h1 h2 h3
  cases h
def l6 (tt:List (Nat×TI))(s:St)(t:Nat):A→A→Option A:=fun x y=>
 match lk tt t with
 | none=>none
 | some i=>bif Nat.beq i.kind 1 then
   match x,y with
   | .c (.rs l off len),.c (.d (.int k n))=>
    if 0≤n∧n<(len:Int)then
     match lk s.H l,lk tt i.elem with
     | some (.row _ sz _),some e=>bif Nat.beq sz e.size then some (.c (.pt l (off+n.toNat) 0))else none
     | _,_=>none
    else none
   | .c (.d (.slc sz xs)),.c (.d (.int k n))=>
    match(if 0≤n then xs[n.toNat]? else none),lk tt i.elem with
    | some e,some j=>bif Nat.beq sz j.size then some (.c (.d (.ptr e 0)))else none
    | _,_=>none
   | _,_=>none
  else none
theorem mA {Γ m F s a w}(htt:TTok Γ.P Γ.tt)(hR:Rel0 Γ m F s a w){t:Nat}{x y v:A}{p q:Value}(hp:RA Γ.L w (Γ.ok F) m x p)(hq:RA Γ.L w (Γ.ok F) m y q)
  (h:l6 Γ.tt s t x y=some v): ∃u,(Instr.indexAt t p q).run Γ.P w= .ok u w∧RA Γ.L w (Γ.ok F) m v u:=by
 unfold l6 at h
 split at h
 cases h
 rename_i i hi
 cases hk:Nat.beq i.kind 1 with
 | false=>simp[hk]at h
 | true =>
  simp only[hk,cond_true]at h
  have hu:=(htt.get hi).isSlice (tN.1 hk)
  have key: ∀(b:Addr) (len cap:Nat) (k:IntKind) (n:Int) (e:TI),0≤n→n<len→lk Γ.tt i.elem=some e→
    (Instr.indexAt t (.slice (some b) len cap) (.int k n)).run Γ.P w= .ok (.pointer (some (b.add (n.toNat*e.size)))) w:=by
   intro b len cap k n e h0 h1 he
   simp[Instr.indexAt,run_underlying hu,asIntOf,h0,h1,(htt.get he).run_sizeOf]
  split at h
  rename_i l off len k n
  split at h
  rename_i hn
  split at h
  rename_i own sz xs e hl he
  cases hs:Nat.beq sz e.size with
  | false=>simp[hs]at h
  | true =>
   simp only[hs,cond_true,el]at h
   subst h
   have hsz:=tN.1 hs
   obtain⟨F1,hB,_⟩:=hR.H.get hl
   cases hp with
   | c hp => cases hq with
    | c hq => cases hq with
     | d hq => cases hq with
      | int _ _=>cases hp with
       | @rs _ _ _ b cap base c sz' hm h2 h3 h4=>
        rw[hm]at hB
        cases hB with
        | row _ _ _ _ _ _ _ _=>
         refine⟨_,key base len c _ n e hn.1 hn.2 he,.c ?_⟩
         have hc:c≠0:=by omega
         rcases h4 with h4|h4
         ·
          exact absurd h4 hc
         ·
          subst h4
          rw[Addr.add_lit,←hsz,←Nat.add_mul]
          exact .pt (j:=0) hm
       | rsNil _=>simp at hn;omega
  cases h
  cases h
  rename_i sz xs k n
  split at h
  rename_i e j hx hj
  cases hs:Nat.beq sz j.size with
  | false=>simp[hs]at h
  | true =>
   simp only[hs,cond_true,el]at h
   subst h
   have hsz:=tN.1 hs
   split at hx
   rename_i h0
   have hlt:=(List.getElem?_eq_some_iff.1 hx).1
   cases hp with
   | c hp => cases hq with
    | c hq => cases hq with
     | d hq => cases hq with
      | int _ _=>cases hp with
       | d hp=>cases hp with
        | slc0=>simp at hx
        | @slc _ _ b off cap h1 h2 h3 h4 h5 h6=>
         refine⟨_,key ⟨b,off,none⟩ xs.length cap _ n j h0 (by omega) hj,.c (.d ?_)⟩
         rw[Addr.add_lit]
         rw[db hx]at h6
         obtain⟨G1,G2,hG,h9,h10⟩:=h6.split
         obtain⟨rfl,rfl⟩:=List.append_eq_nil_iff.1 hG.symm
         obtain⟨G3,G4,hG',h11,h12⟩:=h10.split
         obtain⟨rfl,rfl⟩:=List.append_eq_nil_iff.1 hG'.symm
         have hlen:(xs.take n.toNat).flatten.length=n.toNat*sz:=by
          rw[br (fun e he=>h3 e (List.mem_of_mem_take he)),List.length_take]
          rw[Nat.min_eq_left (by omega)]
         rw[hlen]at h11
         rw[←hsz]
         exact .ptr (off:=0) h4 h5 h11
   cases hx
  cases h
  cases h
end Go.Al
/- The abstract logic, vp 4: more operations that yield a value and leave memory alone; all of them together. -/
namespace Go.Al

def nat?(m:Option A)(dflt:Nat):Option Nat:=
 match m with
 | none=>some dflt
 | some (.c (.d (.int _ n)))=>if 0≤n then some n.toNat else none
 | _=>none
def g9(tt:List (Nat×TI))(s:St)(t:Nat)(x:A)(lo hi:Option A)(three:Bool):Option A:=
 match lk tt t,three with
 | some i,true=>
  match x,nat? lo 0,nat? hi 1 with
  | .c (.d (.slc _ _)),some 0,some 0=>bif Nat.beq i.kind 1 then some (.c .ez)else none
  | .c (.rs l _ _),some 0,some 0=>match lk s.H l with
   | some (.row _ _ _)=>bif Nat.beq i.kind 1 then some (.c .ez)else none
   | _=>none
  | _,_,_=>none
 | some i,false=>
  match x with
  | .c (.rs l off len)=>
   match nat? lo 0,nat? hi len,lk s.H l,lk tt i.elem with
   | some a,some b,some (.row _ sz _),some e=>if a≤b∧b≤len then(bif Nat.beq i.kind 1&&Nat.beq sz e.size then some (.c (.rs l (off+a) (b-a)))else none)else none
   | _,_,_,_=>none
  | .c (.d (.slc sz xs))=>
   match nat? lo 0,nat? hi xs.length,lk tt i.elem with
   | some a,some b,some e=>if a≤b∧b≤xs.length then(bif Nat.beq i.kind 1&&Nat.beq sz e.size then some (.c (.d (.slc sz ((xs.drop a).take (b-a)))))else none)else none
   | _,_,_=>none
  | .c (.d (.str z))=>
   match nat? lo 0,nat? hi z.size with
   | some a,some b=>if a≤b∧b≤z.size then(bif Nat.beq i.kind 2 then some (.c (.d (.str (z.extract a b))))else none)else none
   | _,_=>none
  | _=>none
 | _,_=>none

theorem nat?_run{P:Program}{L w ok m}{x:Option A}{v:Option Value}{d n y:Nat}(hx:match x,v with|none,none=>True|some x,some v=>RA L w ok m x v|_,_=>False)
  (h:nat? x d=some n) (hy:n≤y) (code:BoundsCode):(match v with|some v=>Instr.sliceBound v y code|none=>pure d:Sem Nat).run P w= .ok n w:=by
 unfold nat? at h
 split at h
 cases v with
 | none=>simp at h;subst h;rfl
 | some v=>exact hx.elim
 rename_i k z
 cases v with
 | none=>exact hx.elim
 | some v=>
  split at h
  rename_i h0
  simp at h;subst h
  cases hx with
  | c hx=>cases hx with
   | d hx=>
    cases hx
    have:z≤(y:Int):=by omega
    simp[Instr.sliceBound,asIntOf,h0,this]
  cases h
 cases h
theorem kG{xs:List (List D)}{a n:Nat}:xs.flatten=(xs.take a).flatten++((xs.drop a).take n).flatten++((xs.drop a).drop n).flatten:=by
 conv=>lhs;rw[←List.take_append_drop a xs,←List.take_append_drop n (xs.drop a)]
 simp
theorem iZ{Γ m F s a w}(htt:TTok Γ.P Γ.tt)(hR:Rel0 Γ m F s a w){t:Nat}{x v:A}{lo hi:Option A}{vlo vhi vmx:Option Value}{p:Value}{three:Bool}
  (hp:RA Γ.L w (Γ.ok F) m x p)
  (hlo:match lo,vlo with|none,none=>True|some x,some v=>RA Γ.L w (Γ.ok F) m x v|_,_=>False)
  (hhi:match hi,vhi with|none,none=>True|some x,some v=>RA Γ.L w (Γ.ok F) m x v|_,_=>False)
  (h3:three=vmx.isSome) (h30:three=true→∃k,vmx=some (.int k 0)) (hel: ∀i,lk Γ.tt t=some i→three=true→(lk Γ.tt i.elem).isSome=true)
  (h:g9 Γ.tt s t x lo hi three=some v): ∃u,(Instr.sliceAt t p vlo vhi vmx).run Γ.P w= .ok u w∧RA Γ.L w (Γ.ok F) m v u:=by
 unfold g9 at h
 split at h
 rename_i i hi'
 obtain⟨k,hmx⟩:=h30 rfl
 obtain⟨e,he⟩:=Option.isSome_iff_exists.1 (hel i hi' rfl)
 subst hmx
 have hsl: ∀a len cap,Γ.P.underlying t=some (.slice i.elem)→nat? lo 0=some 0→nat? hi 1=some 0→
   (Instr.sliceAt t (.slice a len cap) vlo vhi (some (.int k 0))).run Γ.P w= .ok (.slice a 0 0) w:=by
  intro a len cap hu hl hr
  have rl:=nat?_run (P:=Γ.P) hlo hl (y:=0) (cm _)
  have rr:=nat?_run (P:=Γ.P) hhi hr (y:=0) (cm _)
  have rm: ∀c code,(Instr.sliceBound (.int k 0) c code).run Γ.P w= .ok 0 w:=fun c code=>by simp[Instr.sliceBound,asIntOf]
  simp only[Instr.sliceAt,Sem.run_bind,run_underlying hu,Result.andThen_ok,Instr.slice,Instr.sliceBounds]
  cases vhi with
  | none=>
   simp only[Sem.run_pure,Result.ok.injEq]at rr
   obtain⟨rr,_⟩:=rr .index
   cases rr
  | some vh=>
   simp only at rr
   cases vlo with
   | none=>simp[rm,rr,(htt.get he).run_sizeOf]
   | some vl=>
    simp only at rl
    simp[rm,rl,rr,(htt.get he).run_sizeOf]
 split at h
 rename_i hl hr
 cases hk:Nat.beq i.kind 1 with
 | false=>simp[hk]at h
 | true=>
  simp only[hk,cond_true,el]at h
  subst h
  have hu:=(htt.get hi').isSlice (tN.1 hk)
  cases hp with
  | c hp=>cases hp with
   | d hp=>cases hp with
    | slc0=>exact⟨_,hsl _ _ _ hu hl hr,.c .ez⟩
    | slc _ _ _ _ _ _=>exact⟨_,hsl _ _ _ hu hl hr,.c .ez⟩
 rename_i l off len hl hr
 split at h
 cases hk:Nat.beq i.kind 1 with
 | false=>simp[hk]at h
 | true=>
  simp only[hk,cond_true,el]at h
  subst h
  have hu:=(htt.get hi').isSlice (tN.1 hk)
  cases hp with
  | c hp=>
   rcases hp.rs_inv with⟨b,cap,base,c,sz',hm,hle,hcap,hbase,rfl⟩|⟨hm,rfl,rfl,_,rfl⟩
   exact⟨_,hsl _ _ _ hu hl hr,.c .ez⟩
   exact⟨_,hsl _ _ _ hu hl hr,.c .ez⟩
 cases h
 cases h
 rename_i i hi'
 have hmx:vmx=none:=by cases vmx with|none=>rfl|some _=>simp at h3
 subst hmx
 have hsl: ∀e a len cap l r n,Γ.P.underlying t=some (.slice i.elem)→lk Γ.tt i.elem=some e→nat? lo 0=some l→nat? hi len=some r→l≤r→r≤len→len≤cap→n=len→
   (Instr.sliceAt t (.slice a n cap) vlo vhi none).run Γ.P w= .ok (.slice (if cap=l then a else a.map (·.add (l*e.size))) (r-l) (cap-l)) w:=by
  intro e a len cap l r n hu he hl hr h1 h2 hc hn
  subst hn
  have rl:=nat?_run (P:=Γ.P) hlo hl (y:=r) h1
  have rr:=nat?_run (P:=Γ.P) hhi hr (y:=cap) (Nat.le_trans h2 hc)
  simp only[Instr.sliceAt,Sem.run_bind,run_underlying hu,Result.andThen_ok,Instr.slice,Instr.sliceBounds]
  cases vhi with
  | none=>
   simp only[Sem.run_pure,Result.ok.injEq]at rr
   obtain⟨rr,_⟩:=rr .index
   subst rr
   cases vlo with
   | none=>
    simp only[Sem.run_pure,Result.ok.injEq]at rl
    obtain⟨rl,_⟩:=rl .index
    subst rl
    simp[(htt.get he).run_sizeOf]
   | some vl=>
    simp only at rl
    simp[rl,(htt.get he).run_sizeOf]
  | some vh=>
   simp only at rr
   cases vlo with
   | none=>
    simp only[Sem.run_pure,Result.ok.injEq]at rl
    obtain⟨rl,_⟩:=rl .index
    subst rl
    simp[rr,(htt.get he).run_sizeOf]
   | some vl=>
    simp only at rl
    simp[rl,rr,(htt.get he).run_sizeOf]
 split at h
 rename_i l off len
 split at h
 rename_i la lb own sz xs e hla hlb hl he
 split at h
 rename_i hle
 cases hk:(Nat.beq i.kind 1&&Nat.beq sz e.size)with
 | false=>simp[hk]at h
 | true =>
  simp only[hk,cond_true,el]at h
  subst h
  simp only[bD]at hk
  have hu:=(htt.get hi').isSlice (tN.1 hk.1)
  have hsz:=tN.1 hk.2
  obtain⟨F1,hB,_⟩:=hR.H.get hl
  cases hp with
  | c hp => cases hp with
   | @rs _ _ _ b cap base c sz' hm h2 h3 h4=>
    rw[hm]at hB
    cases hB with
    | row _ _ _ _ _ _ _ _=>
     refine⟨_,hsl e (some base) len c la lb len hu he hla hlb hle.1 hle.2 h2 Z,?_⟩
     by_cases hcl:c=la
     ·
      rw[if_pos hcl]
      exact .c (.rs hm (by omega) (by omega) (.inl (by omega)))
     ·
      rw[if_neg hcl]
      simp only[Option.map_some]
      rcases h4 with h4|h4
      ·
       omega
      ·
       subst h4
       refine .c (.rs hm (by omega) (by omega) (.inr ?_))
       rw[Addr.add_lit,←hsz,←Nat.add_mul]
   | rsNil hm=>
    obtain rfl:la=0:=by omega
    obtain rfl:lb=0:=by omega
    refine⟨_,hsl e _ 0 0 0 0 0 hu he hla hlb (by omega) (by omega) (by omega) Z,?_⟩
    simp only[if_pos,Nat.sub_zero,Nat.add_zero]
    exact .c (.rsNil hm)
 cases h
 cases h
 rename_i sz xs
 split at h
 rename_i la lb e hla hlb he
 split at h
 rename_i hle
 cases hk:(Nat.beq i.kind 1&&Nat.beq sz e.size)with
 | false=>simp[hk]at h
 | true =>
  simp only[hk,cond_true,el]at h
  subst h
  simp only[bD]at hk
  have hu:=(htt.get hi').isSlice (tN.1 hk.1)
  have hsz:=tN.1 hk.2
  cases hp with
  | c hp => cases hp with
   | d hp=>cases hp with
    | @slc0 _ base cap=>
     simp at hle hlb
     obtain⟨rfl,rfl⟩:la=0∧lb=0:=by omega
     refine⟨_,hsl e base 0 cap 0 0 0 hu he hla (by simpa using hlb) (by omega) (by omega) (by omega) Z,?_⟩
     simp only[List.drop_nil,List.take_nil]
     exact .c (.d .slc0)
    | @slc _ _ b off cap h1 h2 h3 h4 h5 h6=>
     refine⟨_,hsl e (some ⟨b,off,none⟩) xs.length cap la lb xs.length hu he hla hlb hle.1 hle.2 h2 Z,?_⟩
     have hlen:((xs.drop la).take (lb-la)).length=lb-la:=by simp;omega
     by_cases hcl:cap=la
     ·
      rw[if_pos hcl]
      have h0:lb-la=0:=by omega
      rw[h0,List.take_zero]
      exact .c (.d .slc0)
     ·
      rw[if_neg hcl]
      simp only[Option.map_some,Addr.add_lit]
      rw[kG (a:=la) (n:=lb-la)]at h6
      obtain⟨G1,G2,hG,h9,h10⟩:=h6.split
      obtain⟨rfl,rfl⟩:=List.append_eq_nil_iff.1 hG.symm
      obtain⟨G3,G4,hG',h11,h12⟩:=h9.split
      obtain⟨rfl,rfl⟩:=List.append_eq_nil_iff.1 hG'.symm
      have hfl:(xs.take la).flatten.length=la*sz:=by
       rw[br (fun e he=>h3 e (List.mem_of_mem_take he)),List.length_take,Nat.min_eq_left (by omega)]
      rw[hfl]at h12
      rw[←hsz]
      have:=RD.slc (L:=Γ.L) (w:=w) (ok:=Γ.ok F) (sz:=sz) (xs:=(xs.drop la).take (lb-la)) (b:=b) (off:=off+la*sz) (cap:=cap-la) (by rw[hlen];omega) (by rw[hlen];omega)
       (fun e he=>h3 e (List.mem_of_mem_drop (List.mem_of_mem_take he))) h4 h5 h12
      rw[hlen]at this
      exact .c (.d this)
 cases h
 cases h
 rename_i z
 split at h
 rename_i la lb hla hlb
 split at h
 rename_i hle
 cases hk:Nat.beq i.kind 2 with
 | false=>simp[hk]at h
 | true =>
  simp only[hk,cond_true,el]at h
  subst h
  have hu:=(htt.get hi').isStr (tN.1 hk)
  cases hp with
  | c hp => cases hp with
   | d hp => cases hp with
    | str hz=>
     have rl:=nat?_run (P:=Γ.P) hlo hla (y:=lb) hle.1
     have rr:=nat?_run (P:=Γ.P) hhi hlb (y:=z.size) hle.2
     refine⟨.string (z.extract la lb),?_,.c (.d (.str ?_))⟩
     ·
      simp only[Instr.sliceAt,Sem.run_bind,run_underlying hu,Result.andThen_ok,Instr.slice,Instr.sliceBounds]
      cases vhi with
      | none=>
       simp only[Sem.run_pure,Result.ok.injEq]at rr
       obtain⟨rr,_⟩:=rr .index
       subst rr
       cases vlo with
       | none=>
        simp only[Sem.run_pure,Result.ok.injEq]at rl
        obtain⟨rl,_⟩:=rl .index
        subst rl
        simp
       | some vl=>
        simp only at rl
        simp[rl]
      | some vh=>
       simp only at rr
       cases vlo with
       | none=>
        simp only[Sem.run_pure,Result.ok.injEq]at rl
        obtain⟨rl,_⟩:=rl .index
        subst rl
        simp[rr]
       | some vl=>
        simp only at rl
        simp[rl,rr]
     ·
      rw[ByteArray.size_extract];omega
 cases h
 cases h
 cases h
 cases h
def kK(x:A)(n:Nat):Option A:=
 match x with
 | .tup vs=>vs[n]?
 | _=>none
theorem k9{P:Program}{L w ok m}{x v:A}{n:Nat}{p:Value}(hp:RA L w ok m x p)(h:kK x n=some v): ∃u,(Instr.extract p n).run P w= .ok u w∧RA L w ok m v u:=by
 unfold kK at h
 split at h
 cases hp with
 | tup hp=>
  obtain⟨u,h1,h2⟩:=hp.get h
  refine⟨u,?_,h2⟩
  simp[Instr.extract,h1]
 cases h
def vO:A→Option A
 | .c (.pt l i j)=>some (.c (.pt l i j))
 | .c (.d (.ptr cs o))=>some (.c (.d (.ptr cs o)))
 | .c (.fn f cs)=>some (.c (.fn f cs))
 | _=>none

def sP (tt:List (Nat×TI))(s:St)(t:Nat):A→Option A:=fun x=>
 match lk tt t with
 | none=>none
 | some i=>
  match x with
  | .c (.d (.str z))=>bif Nat.beq i.kind 2 then some (.c (.d (.int .i64 z.size)))else none
  | .c (.d (.slc _ xs))=>bif Nat.beq i.kind 1 then some (.c (.d (.int .i64 xs.length)))else none
  | .c (.d .nils)=>bif Nat.beq i.kind 1 then some (.c (.d (.int .i64 0)))else none
  | .c (.rs l _ n)=>match lk s.H l with
   | some (.row _ _ _)=>bif Nat.beq i.kind 1 then(if n≤9223372036854775807 then some (.c (.d (.int .i64 n)))else none)else none
   | _=>none
  | .c (.rp l e j)=>match lk s.H l with
   | some (.row _ _ xs)=>match xs[e]? with
    | some ds=>match ds[j]? with
     | some (.slc _ ys)=>bif Nat.beq i.kind 1 then some (.c (.d (.int .i64 ys.length)))else none
     | _=>none
    | none=>none
   | _=>none
  | _=>none
theorem gX{L w ok}(hL:L≤9223372036854775807)(n:Nat)(h:n≤L):RD L w ok (.int .i64 n) (.int .i64 n) []:=by
 refine .int ?_ ?_<;>simp[IntKind.min,IntKind.max,IntKind.signed,IntKind.bits]<;>omega
theorem gx{P:Program}{t:Nat}{e:Nat}{w:World}(h:P.underlying t=some (.slice e))(b:Option Addr)(n c ty:Nat):(Builtin.len_ #[t] ty #[.slice b n c]).run P w= .ok (.int .i64 n) w:=by
 simp[Builtin.len_,run_underlying h,goInt]
theorem oM{Γ m F s a w}(htt:TTok Γ.P Γ.tt)(hL:Γ.L≤9223372036854775807)(hR:Rel0 Γ m F s a w){t ty:Nat}{x v:A}{p:Value}(hp:RA Γ.L w (Γ.ok F) m x p)(h:sP Γ.tt s t x=some v) :
  ∃u,(Builtin.len_ #[t] ty #[p]).run Γ.P w= .ok u w∧RA Γ.L w (Γ.ok F) m v u:=by
 unfold sP at h
 split at h
 cases h
 rename_i i hi
 split at h
 rename_i z
 cases hk:Nat.beq i.kind 2 with
 | false=>simp[hk]at h
 | true=>
  simp only[hk,cond_true,el]at h
  subst h
  have hu:=(htt.get hi).isStr (tN.1 hk)
  cases hp with
  | c hp=>cases hp with
   | d hp=>cases hp with
    | str hz=>exact⟨.int .i64 z.size,by simp[Builtin.len_,run_underlying hu,goInt],.c (.d (gX hL _ hz))⟩
 rename_i sz xs
 cases hk:Nat.beq i.kind 1 with
 | false=>simp[hk]at h
 | true=>
  simp only[hk,cond_true,el]at h
  subst h
  have hu:=(htt.get hi).isSlice (tN.1 hk)
  cases hp with
  | c hp=>cases hp with
   | d hp=>cases hp with
    | slc0=>exact⟨_,gx hu _ _ _ _,.c (.d (gX hL 0 (co _)))⟩
    | slc h1 _ _ _ _ _=>exact⟨_,gx hu _ _ _ _,.c (.d (gX hL _ h1))⟩
 cases hk:Nat.beq i.kind 1 with
 | false=>simp[hk]at h
 | true=>
  simp only[hk,cond_true,el]at h
  subst h
  have hu:=(htt.get hi).isSlice (tN.1 hk)
  cases hp with
  | c hp=>cases hp with
   | d hp=>cases hp;exact⟨_,gx hu _ _ _ _,.c (.d (gX hL 0 (co _)))⟩
 rename_i l off n
 split at h
 cases hk:Nat.beq i.kind 1 with
 | false=>simp[hk]at h
 | true=>
  simp only[hk,cond_true]at h
  split at h
  rename_i hn
  simp only[el]at h
  subst h
  have hu:=(htt.get hi).isSlice (tN.1 hk)
  have key:RD Γ.L w (Γ.ok F) (.int .i64 n) (.int .i64 n) []:=by
   refine .int ?_ ?_<;>simp[IntKind.min,IntKind.max,IntKind.signed,IntKind.bits]<;>omega
  cases hp with
  | c hp=>cases hp with
   | rs _ _ _ _=>exact⟨_,gx hu _ _ _ _,.c (.d key)⟩
   | rsNil _=>exact⟨_,gx hu _ _ _ _,.c (.d key)⟩
  cases h
 cases h
 rename_i l e j
 split at h
 rename_i own sz xs hl
 split at h
 rename_i ds hds
 split at h
 rename_i sz2 ys hys
 cases hk:Nat.beq i.kind 1 with
 | false=>simp[hk]at h
 | true=>
  simp only[hk,cond_true,el]at h
  subst h
  have hu:=(htt.get hi).isSlice (tN.1 hk)
  obtain⟨F1,hB,_⟩:=hR.H.get hl
  cases hp with
  | c hp=>cases hp with
   | @rp _ _ _ b cap sz' x n c hm hc=>
    rw[hm]at hB
    cases hB with
    | row h1 h2 h3 h4 h5 h6 h7 h8=>
     obtain⟨v',F',h9,h10,_⟩:=h7.cell (gh h3 hds hys)
     rw[Nat.zero_add,hc]at h9
     simp at h9;subst h9
     refine⟨_,gx hu _ _ _ _,.c (.d ?_)⟩
     cases h10 with
     | slc0=>exact gX hL 0 (co _)
     | slc h1 _ _ _ _ _=>exact gX hL _ h1
     | own h1 _ _ _ _ _ _=>exact gX hL _ h1
 cases h
 cases h
 cases h
 cases h
end Go.Al
/- The abstract logic, vp 5: aggregates are built; all operations that yield a value and leave memory alone, together. -/
namespace Go.Al

def splice(cs:List M)(o:Nat)(ms:List M):List M:=cs.take o++(ms++cs.drop (o+ms.length))
def lx(fields:List (Nat×Nat)):List M→List (Nat×Option A)→Option (List M)
 | cs,[]=>some cs
 | cs,(i,some v)::r=>
  match fields[i]?,v.cells with
  | some (o,n),some ms=>if ms.length=n∧o+n≤cs.length then lx fields (splice cs o ms) r else none
  | _,_=>none
 | _,(_,none)::_=>none

theorem jD: ∀(vs:List Value) (k o:Nat) (cs:List Value),o+k+vs.length≤cs.length→
  (vs.zipIdx k).foldl (fun(cs:List Value) (x:Value×Nat)=>cs.set (o+x.2) x.1) cs=cs.take (o+k)++(vs++cs.drop (o+k+vs.length))
 | [],k,o,cs,h=>by simp
 | v :: vs,k,o,cs,h=>by
  simp only[dF]at h
  simp only[List.zipIdx_cons,List.foldl_cons]
  rw[jD vs (k+1) o (cs.set (o+k) v) (by simp;omega)]
  have h1:(cs.set (o+k) v).take (o+(k+1))=cs.take (o+k)++[v]:=by
   rw[←Nat.add_assoc,List.take_succ_eq_append_getElem (by simp;omega),List.take_set_of_le (by omega)]
   simp
  have h2:(cs.set (o+k) v).drop (o+(k+1)+vs.length)=cs.drop (o+k+(v::vs).length):=by
   rw[List.drop_set_of_lt (by omega)]
   congr 1
   simp only[dF];omega
  rw[h1,h2]
  simp
theorem iW(vs:Array Value)(o:Nat)(cs:Array Value)(h:o+vs.size≤cs.size) :
  (vs.zipIdx.foldl (fun(cs:Array Value) (x:Value×Nat)=>cs.setIfInBounds (o+x.2) x.1) cs).toList=cs.toList.take o++(vs.toList++cs.toList.drop (o+vs.size)):=by
 have key: ∀(l:List (Value×Nat)) (cs:Array Value),(l.foldl (fun(cs:Array Value) (x:Value×Nat)=>cs.setIfInBounds (o+x.2) x.1) cs).toList=l.foldl (fun(cs:List Value) (x:Value×Nat)=>cs.set (o+x.2) x.1) cs.toList:=by
  intro l
  induction l with
  | nil=>intro cs;rfl
  | cons x l ih=>intro cs;simp only[List.foldl_cons,ih];simp
 rw[←Array.foldl_toList,key]
 have:vs.zipIdx.toList=vs.toList.zipIdx 0:=by simp[Array.toList_zipIdx]
 rw[this,jD _ 0 o _ (by simpa using h)]
 simp
theorem RMs.splice{L w ok m}{cs ms:List M}{vs us:List Value}(h1:RMs L w ok m cs vs)(h2:RMs L w ok m ms us)(o:Nat):RMs L w ok m (Al.splice cs o ms) (vs.take o++(us++vs.drop (o+us.length))):=by
 unfold Al.splice
 rw[h2.length]
 exact(h1.take o).append (h2.append (h1.drop _))
inductive RParts(L:Nat)(w:World)(ok:Nat→Prop)(m:Nat→Loc):List (Nat×Option A)→List (Nat×Value)→Prop
 | nil:RParts L w ok m [] []
 | cons {i v x r r'}:RA L w ok m v x→RParts L w ok m r r'→RParts L w ok m ((i,some v)::r) ((i,x)::r')
 | none {i x r r'}:RParts L w ok m r r'→RParts L w ok m ((i,none)::r) ((i,x)::r')

theorem jP{L w ok m}{fields:List (Nat×Nat)}{place:Nat→Option (Nat×Nat)}(hp: ∀i:Nat,place i=fields[i]?): ∀{parts:List (Nat×Option A)} {parts':List (Nat×Value)} {cs:List M} {bO:Array Value} {cs':List M},
  RMs L w ok m cs bO.toList→RParts L w ok m parts parts'→lx fields cs parts=some cs'→∃arr',Instr.fill place bO parts'=some arr'∧RMs L w ok m cs' arr'.toList
 | _,_,cs,bO,cs',h1,.nil,h3=>by simp[lx]at h3;subst h3;exact⟨bO,rfl,h1⟩
 | _,_,cs,bO,cs',h1,.cons (i:=i) (v:=v) (x:=x) hv hr,h3=>by
  unfold lx at h3
  split at h3
  rename_i o n ms hf hc
  split at h3
  rename_i hn
  have hx:=hv.cells hc
  have hlen:=hx.length
  have hl1:=h1.length
  have hsz:x.cells.size=n:=by rw[←hn.1,hlen];simp
  have hle:o+x.cells.size≤bO.size:=by rw[hsz];rw[←Array.length_toList,←hl1];exact hn.2
  have hset:=iW x.cells o bO hle
  have hnew:=h1.splice hx o
  rw[Array.length_toList,←hset]at hnew
  obtain⟨arr',h4,h5⟩:=jP hp hnew hr h3
  refine⟨arr',?_,h5⟩
  unfold Instr.fill
  rw[hp,hf]
  simp only[hsz,ne_eq,not_true_eq_false,decide_false,Bool.false_or,decide_eq_true_eq]
  rw[if_neg (by rw[←hsz];omega)]
  exact h4
  cases h3
  cases h3
 | _,_,cs,bO,cs',h1,.none _,h3=>by simp[lx]at h3
def ow(tt:List (Nat×TI))(s:St)(t:Nat)(parts:List (Nat×Operand)):Option A:=
 match lk tt t with
 | some i=>bif Nat.beq i.kind 3 then(lx i.fields (i.zero.map .d) (parts.map fun x=>(x.1,ev s x.2))).map .agg else none
 | none=>none

theorem kv{L w ok m}: ∀{zs:List D},zs.all D.plain=true→RMs L w ok m (zs.map .d) (zs.map D.val)
 | [],_=>.nil
 | z::zs,h=>by
  simp only[List.all_cons,bD]at h
  exact .cons (.d (eX h.1)) (kv h.2)
def TTplain:List (Nat×TI)→Bool
 | []=>true
 | (_,i)::r=>i.zero.all D.plain&&TTplain r
theorem TTplain.get: ∀{tt:List (Nat×TI)},TTplain tt=true→∀{t i},lk tt t=some i→i.zero.all D.plain=true
 | [],_,t,i,h=>by simp[aU]at h
 | (k,x)::r,h,t,i,hh=>by
  simp only[TTplain,bD]at h
  rw[aw]at hh
  split at hh
  simp at hh;subst hh;exact h.1
  exact TTplain.get h.2 hh
theorem RParts.of{Γ m F s a w}(hL:4096≤Γ.L)(hR:Rel0 Γ m F s a w): ∀(parts:List (Nat×Operand)),parts.all (fun x=>Al.Operand.short x.2)=true→
  RParts Γ.L w (Γ.ok F) m (parts.map fun x=>(x.1,ev s x.2)) (parts.map fun x=>(x.1,a.eval x.2))
 | [],_=>.nil
 | (i,x)::r,h=>by
  simp only[List.all_cons,bD]at h
  simp only[List.map_cons]
  cases hx:Al.ev s x with
  | none=>exact .none (RParts.of hL hR r h.2)
  | some v=>exact .cons (hR.ev hL h.1 hx) (RParts.of hL hR r h.2)
theorem jI{P:Program}: ∀{fs:List Field} {l:List (Nat×Nat)},fs.map (fun f=>(f.offset,(P.info? f.type).map (·.size)))=l.map (fun x=>(x.1,some x.2))→
  fs.mapM (fun f=>(P.info? f.type).map fun i=>(f.offset,i.size))=some l
 | [],l,h=>by cases l with|nil=>rfl|cons _ _=>simp at h
 | f :: fs,l,h=>by
  cases l with
  | nil=>simp at h
  | cons x l=>
   simp only[List.map_cons,List.cons.injEq,Prod.mk.injEq]at h
   have ih:=jI h.2
   obtain⟨i,h1,h2⟩:=Option.map_eq_some_iff.1 h.1.2
   simp[List.mapM_cons,h1,ih,h.1.1,h2]
theorem mC{Γ m F s a w}(htt:TTok Γ.P Γ.tt)(hz:TTplain Γ.tt=true)(hL:4096≤Γ.L)(hR:Rel0 Γ m F s a w){t:Nat}{parts:List (Nat×Operand)}(hs:parts.all (fun x=>Al.Operand.short x.2)=true){v:A}
  (h:ow Γ.tt s t parts=some v): ∃u,(Instr.build t (parts.map fun x=>(x.1,a.eval x.2)).toArray).run Γ.P w= .ok u w∧RA Γ.L w (Γ.ok F) m v u:=by
 unfold ow at h
 split at h
 rename_i i hi
 cases hk:Nat.beq i.kind 3 with
 | false=>simp[hk]at h
 | true=>
  simp only[hk,cond_true,Option.map_eq_some_iff]at h
  obtain⟨cs',hf,rfl⟩:=h
  obtain⟨x,hx,hsz,hby,z,hzz,hzl⟩:=(htt.get hi).info
  obtain⟨fs,hu,hfs⟩:=(htt.get hi).isStruct (tN.1 hk)
  have hpl:=jI hfs
  have h0:=kv (L:=Γ.L) (w:=w) (ok:=Γ.ok F) (m:=m) (TTplain.get hz hi)
  rw[←hzl]at h0
  obtain⟨arr',h1,h2⟩:=jP (place:=(i.fields.toArray[·]?)) (fun i=>by simp) h0 (RParts.of hL hR parts hs) hf
  refine⟨.agg arr',?_,?_⟩
  refine run_build w t _ arr' ?_
  unfold Program.built
  simp only[hx,hu,hzz,hpl]
  exact h1
  have:=RA.agg (L:=Γ.L) (w:=w) (ok:=Γ.ok F) (m:=m) h2
  simpa using this
 cases h
def rn(tt:List (Nat×TI))(t:Nat)(x y:A):Option A:=
 match lk tt t,x,y with
 | some i,.c (.d (.str z)),.c (.d (.int _ n))=>bif Nat.beq i.kind 2 then
   match(if 0≤n then z.toList[n.toNat]? else none)with
   | some b=>some (.c (.d (.int .u8 b.toNat)))
   | none=>none
  else none
 | _,_,_=>none
theorem sZ(z:ByteArray)(n:Nat):z.toList[n]? = z[n]? := by
 rw[ByteArray.toList_eq]
 by_cases h:n<z.size
 rw[getElem?_pos z n h,List.getElem?_eq_getElem (by simpa using h)];rfl
 rw[getElem?_neg z n h,List.getElem?_eq_none (by simp;omega)]
theorem nM{Γ m F s a w}(htt:TTok Γ.P Γ.tt)(hR:Rel0 Γ m F s a w){t:Nat}{x y v:A}{p q:Value}(hp:RA Γ.L w (Γ.ok F) m x p)(hq:RA Γ.L w (Γ.ok F) m y q)
  (h:rn Γ.tt t x y=some v): ∃u,(Instr.index t p q).run Γ.P w= .ok u w∧RA Γ.L w (Γ.ok F) m v u:=by
 unfold rn at h
 split at h
 rename_i i z k n hi
 cases hk:Nat.beq i.kind 2 with
 | false=>simp[hk]at h
 | true =>
  simp only[hk,cond_true]at h
  have hu:=(htt.get hi).isStr (tN.1 hk)
  split at h
  rename_i b hb
  simp only[el]at h;subst h
  cases hp with
  | c hp => cases hp with
   | d hp => cases hp;cases hq with
    | c hq=>cases hq with
     | d hq=>
      cases hq
      split at hb
      ·
       rename_i h0
       rw[sZ]at hb
       refine⟨.int .u8 b.toNat,?_,.c (.d (.int ?_ ?_))⟩
       ·
        simp[Instr.index,asIntOf,run_underlying hu,h0,hb]
       ·
        simp[IntKind.min,IntKind.signed]
       ·
        have:=b.toNat_lt
        simp[IntKind.max,IntKind.signed,IntKind.bits];omega
      ·
       cases hb
  cases h
 cases h
def pc(mx:Bool):List A→Option A
 | [.c (.d (.int k x)),.c (.d (.int k' y))]=>if k=k' then some (.c (.d (.int k (bif mx then(if y>x then y else x)else(if y<x then y else x)))))else none
 | _=>none

def iv(s:St):List Operand→Option (List A)
 | []=>some []
 | x::r=>match ev s x,iv s r with
  | some v,some vs=>some (v::vs)
  | _,_=>none
def fS:List A→Option (List M)
 | []=>some []
 | .c m::r=>(fS r).map (m:: ·)
 | _=>none
theorem gH{Γ m F s a w}(hL:4096≤Γ.L)(hR:Rel0 Γ m F s a w): ∀{xs:List Operand} {vs:List A},xs.all Al.Operand.short=true→iv s xs=some vs→RAs Γ.L w (Γ.ok F) m vs (xs.map a.eval)
 | [],vs,_,h=>by simp[iv]at h;subst h;exact .nil
 | x::xs,vs,hs,h=>by
  simp only[List.all_cons,bD]at hs
  unfold iv at h
  split at h
  rename_i v vs' h1 h2
  simp at h;subst h
  exact .cons (hR.ev hL hs.1 h1) (gH hL hR hs.2 h2)
  cases h
theorem iX{L w ok m}: ∀{vs:List A} {ms:List M} {us:List Value},RAs L w ok m vs us→fS vs=some ms→RMs L w ok m ms us
 | [],ms,us,h,hc=>by simp[fS]at hc;subst hc;cases h;exact .nil
 | v :: vs,ms,us,h,hc=>by
  cases h with
  | cons h1 h2=>
   cases h1 with
   | c h1=>
    simp only[fS,Option.map_eq_some_iff]at hc
    obtain⟨ms',hc,rfl⟩:=hc
    exact .cons h1 (iX h2 hc)
   | agg _=>simp[fS]at hc
   | tup _=>simp[fS]at hc
   | junk=>simp[fS]at hc
   | un=>simp[fS]at hc
def opt(s:St):Option Operand→Option (Option A)
 | none=>some none
 | some x=>(ev s x).map some

def fd(tt:List (Nat×TI))(L:Nat)(s:St)(o:Oper):Option A:=
 match o.op with
 | .move x| .assign x=>ev s x
 | .pick c x y=>match ev s c with
  | some (.c (.d (.bool b)))=>bif b then ev s x else ev s y
  | _=>none
 | .load t x=>match ev s x with
  | some v=>mQ tt s t v
  | none=>none
 | .nilCheck x=>match ev s x with
  | some v=>vO v
  | none=>none
 | .binOp op t x y _=>match ev s x,ev s y with
  | some u,some v=>lj tt L op t u v
  | _,_=>none
 | .unOp op _ x=>match ev s x with
  | some v=>xt op v
  | none=>none
 | .slice t x lo hi mx=>match ev s x,opt s lo,opt s hi with
  | some v,some l,some h=>match mx with
   | none=>g9 tt s t v l h false
   | some m=>match ev s m,lk tt t with
    | some (.c (.d (.int _ n))),some i=>if n=0 then(bif (lk tt i.elem).isSome then g9 tt s t v l h true else none)else none
    | _,_=>none
  | _,_,_=>none
 | .fieldAddr t x f=>match ev s x with
  | some v=>ov tt t f v
  | none=>none
 | .indexAddr t x y=>match ev s x,ev s y with
  | some u,some v=>l6 tt s t u v
  | _,_=>none
 | .index t x y=>match ev s x,ev s y with
  | some u,some v=>rn tt t u v
  | _,_=>none
 | .extract x n=>match ev s x with
  | some v=>kK v n
  | none=>none
 | .build t parts=>ow tt s t parts.toList
 | .makeFunc (.func f) first caps=>match first.toList,iv s caps.toList with
  | [],some vs=>(fS vs).map fun ms=>.c (.fn f ms)
  | _,_=>none
 | .call c=>match c.callee,c.args.toList,c.argTypes.toList with
  | .builtin .len,[x],[t]=>match ev s x with
   | some v=>sP tt s t v
   | none=>none
  | .builtin .max,xs,_=>match iv s xs with
   | some vs=>pc true vs
   | none=>none
  | .builtin .min,xs,_=>match iv s xs with
   | some vs=>pc false vs
   | none=>none
  | _,_,_=>none
 | _=>none

def Oper.shorts(o:Oper):Bool:=o.op.operands.toList.all Al.Operand.short

theorem oI{op:BinOp}{t:Nat}{x y:Operand}{p q:Value}{L w ok m}{u v r:A}{tt:List (Nat×TI)}(hp:RA L w ok m u p)(hq:RA L w ok m v q)(h:lj tt L op t u v=some r):eqGuard op t x y p q=pure ():=by
 unfold lj at h
 split at h<;>first|(cases h;done)|skip
 all_goals
  cases hp with
  | c hp=>first
   | (cases hp with
    | d hp=>cases hp<;>simp[go_sem])
   | (cases hp<;>simp[go_sem])

set_option maxHeartbeats 1000000 in
theorem oK {Γ m F s a w}(htt:TTok Γ.P Γ.tt)(hz:TTplain Γ.tt=true)(hL:4096≤Γ.L)(hL2:Γ.L≤9223372036854775807)(hR:Rel0 Γ m F s a w){o:Oper}(hs:Al.Oper.shorts o=true){v:A}
  (h:fd Γ.tt Γ.L s o=some v): ∃u,(execOp a.eval o).run Γ.P w= .ok (.value u) w∧RA Γ.L w (Γ.ok F) m v u:=by
 have sh: ∀x∈o.op.operands.toList,Al.Operand.short x=true:=List.all_eq_true.1 hs
 have E: ∀{x u},x∈o.op.operands.toList→Al.ev s x=some u→RA Γ.L w (Γ.ok F) m u (a.eval x):=fun hx hu=>hR.ev hL (sh _ hx) hu
 unfold fd at h
 unfold execOp
 cases hop:o.op<;>simp only[hop]at h E sh ⊢ <;> try (cases h;done)
 case move x=>exact⟨a.eval x,by simp,E (by simp[Op.operands]) h⟩
 case assign x=>exact⟨a.eval x,by simp,E (by simp[Op.operands]) h⟩
 case pick c x y=>
  split at h
  ·
   rename_i b hc
   have h1:=E (by simp[Op.operands]) hc
   cases h1 with
   | c h1=>cases h1 with
    | d h1=>
     generalize he:a.eval c=ec at h1
     cases h1
     cases b with
     | true=>exact⟨a.eval x,by simp[asBool],E (by simp[Op.operands]) h⟩
     | false=>exact⟨a.eval y,by simp[asBool],E (by simp[Op.operands]) h⟩
  ·
   cases h
 case load t x=>
  split at h
  ·
   rename_i u hx
   obtain⟨y,h1,h2⟩:=jO htt hR (E (by simp[Op.operands]) hx) h
   exact⟨y,by simp[h1],h2⟩
  ·
   cases h
 case nilCheck x=>
  split at h
  ·
   rename_i u hx
   have h1:=E (by simp[Op.operands]) hx
   unfold vO at h
   split at h
   ·
    simp at h;subst h
    cases h1 with
    | c h1=>
     generalize he:a.eval x=ex at h1
     cases h1 with
     | pt hm=>exact⟨_,by simp,.c (.pt hm)⟩
     | pb hm=>exact⟨_,by simp,.c (.pb hm)⟩
   ·
    simp at h;subst h
    cases h1 with
    | c h1=>
     generalize he:a.eval x=ex at h1
     cases h1 with
     | d h1=>cases h1 with
      | ptr a1 a2 a3=>exact⟨_,by simp,.c (.d (.ptr a1 a2 a3))⟩
   ·
    simp at h;subst h
    cases h1 with
    | c h1=>
     generalize he:a.eval x=ex at h1
     cases h1 with
     | fn h1=>exact⟨_,by simp,.c (.fn h1)⟩
   ·
    cases h
  ·
   cases h
 case binOp op t x y yt=>
  split at h
  ·
   rename_i u v' hx hy
   have h1:=E (by simp[Op.operands]) hx
   have h2:=E (by simp[Op.operands]) hy
   obtain⟨z,h3,h4⟩:=oO htt hR h1 h2 h
   exact⟨z,by simp[oI h1 h2 h,h3],h4⟩
  ·
   cases h
 case unOp op t x=>
  split at h
  ·
   rename_i u hx
   obtain⟨y,h1,h2⟩:=qD (P:=Γ.P) (E (by simp[Op.operands]) hx) h
   exact⟨y,by simp[h1],h2⟩
  ·
   cases h
 case build t parts=>
  obtain⟨u,h1,h2⟩:=mC htt hz hL hR (parts:=parts.toList) (List.all_eq_true.2 fun x hx=>sh x.2 (by simp[Op.operands];exact⟨x.1,by simpa using hx⟩)) h
  refine⟨u,?_,h2⟩
  have e:(parts.map fun x=>(x.1,a.eval x.2))=(parts.toList.map fun x=>(x.1,a.eval x.2)).toArray:=by
   apply Array.ext';simp
  show Sem.run Γ.P (do pure (Next.value (←Instr.build t (parts.map fun x=>(x.1,a.eval x.2))))) w=_
  rw[e];simp[h1]
 case makeFunc fn first caps=>
  cases fn<;>simp only at h<;>try (cases h;done)
  ·
   rename_i f
   split at h
   ·
    rename_i vs hf hc
    simp only[Option.map_eq_some_iff]at h
    obtain⟨ms,h1,rfl⟩:=h
    have h2:=gH hL hR (xs:=caps.toList) (List.all_eq_true.2 fun x hx=>sh x (by simp[Op.operands];exact .inr (by simpa using hx))) hc
    have h3:=iX h2 h1
    refine⟨_,?_,.c (.fn h3)⟩
    have hf':first= #[]:=by apply Array.ext';simpa using hf
    simp[Instr.makeFunc,hf']
    apply Array.ext';simp
   ·
    cases h
 case slice t x lo hi mx=>
  split at h
  ·
   rename_i v' l hh hx hlo hhi
   have h1:=E (by simp[Op.operands]) hx
   have key: ∀{y:Option Operand} {z:Option A},(∀q,y=some q→q∈(Op.slice t x lo hi mx).operands.toList)→Al.opt s y=some z→(match z,y.map a.eval with|none,none=>True|some x,some v=>RA Γ.L w (Γ.ok F) m x v|_,_=>False):=by
    intro y z hy hz
    cases y with
    | none=>simp[Al.opt]at hz;subst hz;trivial
    | some q=>
     simp only[Al.opt,Option.map_eq_some_iff]at hz
     obtain⟨u,hu,rfl⟩:=hz
     exact E (hy q Z) hu
   cases mx with
   | none=>
    obtain⟨u,h2,h3⟩:=iZ htt hR (vmx:=none) h1 (key (fun q hq=>by simp[Op.operands,hq]) hlo) (key (fun q hq=>by simp[Op.operands,hq]) hhi) rfl (by simp) (by simp) h
    exact⟨u,by simp[h2],h3⟩
   | some mm=>
    simp only at h
    split at h
    ·
     rename_i k n i hm hi
     have hme:=E (by simp[Op.operands]) hm
     split at h
     ·
      rename_i hn
      subst hn
      cases hb:(lk Γ.tt i.elem).isSome with
      | false=>rw[hb]at h;cases h
      | true=>
       rw[hb]at h
       simp only[cond_true]at h
       have hval:a.eval mm= .int k 0:=by
        cases hme with
        | c hme=>cases hme with
         | d hme=>
          generalize a.eval mm=q at hme
          cases hme;rfl
       obtain⟨u,h2,h3⟩:=iZ htt hR (vmx:=some (.int k 0)) h1 (key (fun q hq=>by simp[Op.operands,hq]) hlo) (key (fun q hq=>by simp[Op.operands,hq]) hhi) rfl (fun _=>⟨k,rfl⟩)
        (fun i' hi' _=>by rw[hi]at hi';simp at hi';subst hi';exact hb) h
       exact⟨u,by simp[hval,h2],h3⟩
     ·
      cases h
    ·
     cases h
  ·
   cases h
 case fieldAddr t x f=>
  split at h
  ·
   rename_i u hx
   obtain⟨y,h1,h2⟩:=mB htt hR (E (by simp[Op.operands]) hx) h
   exact⟨y,by simp[h1],h2⟩
  ·
   cases h
 case indexAddr t x y=>
  split at h
  ·
   rename_i u v' hx hy
   obtain⟨z,h1,h2⟩:=mA htt hR (E (by simp[Op.operands]) hx) (E (by simp[Op.operands]) hy) h
   exact⟨z,by simp[h1],h2⟩
  ·
   cases h
 case index t x y=>
  split at h
  ·
   rename_i u v' hx hy
   obtain⟨z,h1,h2⟩:=nM htt hR (E (by simp[Op.operands]) hx) (E (by simp[Op.operands]) hy) h
   exact⟨z,by simp[h1],h2⟩
  ·
   cases h
 case extract x n=>
  split at h
  ·
   rename_i u hx
   obtain⟨y,h1,h2⟩:=k9 (P:=Γ.P) (E (by simp[Op.operands]) hx) h
   exact⟨y,by simp[h1],h2⟩
  ·
   cases h
 case call c =>
  obtain⟨callee,args,argTypes⟩:=c
  simp only at h
  have hargs: ∀xs,args.toList=xs→xs.all Al.Operand.short=true:=fun xs hx=>List.all_eq_true.2 fun x hx'=>sh x (by subst hx;simp[Op.operands,Call.operands];exact .inr (by simpa using hx'))
  have most : ∀(mx:Bool) xs vs,args.toList=xs→iv s xs=some vs→pc mx vs=some v→∃u,(bif mx then Builtin.max_ argTypes o.type (args.map a.eval)else Builtin.min_ argTypes o.type (args.map a.eval)).run Γ.P w= .ok u w∧RA Γ.L w (Γ.ok F) m v u:=by
   intro mx xs vs hx hv hm
   have h2:=gH hL hR (hargs xs hx) hv
   have ha:(args.map a.eval).toList=xs.map a.eval:=by rw[←hx];simp
   unfold pc at hm
   split at hm
   ·
    rename_i k p k' q
    split at hm
    ·
     rename_i hkk
     subst hkk
     simp at hm;subst hm
     generalize hus:xs.map a.eval=us at h2 ha
     cases h2 with
     | cons g1 g2=>cases g2 with
      | cons g2 g3=>
       cases g3
       cases g1 with
       | c g1 => cases g1 with
        | d g1 => cases g1 with
         | int a1 a2=>cases g2 with
          | c g2=>cases g2 with
           | d g2=>cases g2 with
            | int b1 b2=>
             cases mx with
             | true=>exact⟨.int k (if q>p then q else p),by simp only[cond_true];unfold Builtin.max_;rw[ha];simp[Builtin.max2],.c (.d (.int (by simp only[cond_true];split<;>assumption) (by simp only[cond_true];split<;>assumption)))⟩
             | false=>exact⟨.int k (if q<p then q else p),by simp only[cond_false];unfold Builtin.min_;rw[ha];simp[Builtin.min2],.c (.d (.int (by simp only[cond_false];split<;>assumption) (by simp only[cond_false];split<;>assumption)))⟩
    ·
     cases hm
   ·
    cases hm
  split at h
  ·
   rename_i x t hx ht
   have hx':args= #[x]:=by apply Array.ext';simpa using hx
   have ht':argTypes= #[t]:=by apply Array.ext';simpa using ht
   subst hx';subst ht'
   split at h
   ·
    rename_i u hu
    obtain⟨y,h1,h2⟩:=oM (ty:=o.type) htt hL2 hR (E (by simp[Op.operands,Call.operands]) hu) h
    exact⟨y,by simp[resolve,invoke,builtin,h1],h2⟩
   ·
    cases h
  ·
   split at h
   ·
    rename_i vs hvs
    obtain⟨u,h1,h2⟩:=most true _ _ rfl hvs h
    exact⟨u,by simp only[cond_true]at h1;simp[resolve,invoke,builtin,h1],h2⟩
   ·
    cases h
  ·
   split at h
   ·
    rename_i vs hvs
    obtain⟨u,h1,h2⟩:=most false _ _ rfl hvs h
    exact⟨u,by simp only[cond_false]at h1;simp[resolve,invoke,builtin,h1],h2⟩
   ·
    cases h
  ·
   cases h
end Go.Al
/- The abstract logic, vp 6: blocks are made, taken, given, written. -/
namespace Go.Al

def fM(m:Nat→Loc)(l:Nat)(loc:Loc)(k:Nat):Loc:=if k=l then loc else m k
theorem bV(m:Nat→Loc)(l:Nat)(loc:Loc):fM m l loc l=loc:=by simp[fM]
theorem bj{m:Nat→Loc}{l k:Nat}{loc:Loc}(h:k≠l):fM m l loc k=m k:=by simp[fM,h]

structure Rel1(Γ:Ctx)(m:Nat→Loc)(F E:List Nat)(s:St)(a:Act)(w:World):Prop where
 H: ∃FH,RH Γ.L w (Γ.ok F) m s.H FH∧F.Perm (FH++E)
 nodup:F.Nodup
 lt: ∀b∈F,b<w.heap.size
 own: ∀b∈F,Γ.w0.heap.size≤b∨b∈Γ.Fin
 env: ∀t v,lk s.env t=some v→RA Γ.L w (Γ.ok F) m v (a.tmps.getD t undef)
 size:a.tmps.size=Γ.nt
 defers:a.defers=[]
 frame:Frame Γ.w0 w Γ.Fin
 keep: ∀l,l∈Γ.ins→(lk s.H l).isSome=true→m l=Γ.m0 l

theorem nS{Γ:Ctx}{F F':List Nat}(h:F.Perm F'):Γ.ok F=Γ.ok F':=by
 funext b
 simp only[Ctx.ok,h.mem_iff]
theorem Keep.refl(w:World)(ok:Nat→Prop):Keep w w ok ok:=⟨cm _,fun b _ h=>⟨h,rfl⟩⟩

theorem RH.lt{L w ok m}: ∀{H F},RH L w ok m H F→∀b∈F,b<w.heap.size
 | _,_,.nil,b,hb=>by cases hb
 | _,_,.cons h1 h2,b,hb=>by
  rcases List.mem_append.1 hb with hb|hb
  exact h1.lt b hb
  exact RH.lt h2 b hb
theorem Rel0.to1{Γ m F s a w}(h:Rel0 Γ m F s a w):Rel1 Γ m F [] s a w:=
 ⟨⟨F,h.H,by simp⟩,h.nodup,h.H.lt,h.own,h.env,h.size,h.defers,h.frame,h.keep⟩
theorem Rel1.to0{Γ m F s a w}(h:Rel1 Γ m F [] s a w)(hd: ∀l b cap sz,m l= .at b cap sz→(lk s.H l).isSome=true): ∃F',Rel0 Γ m F' s a w∧F.Perm F':=by
 obtain⟨FH,h1,h2⟩:=h.H
 rw[List.append_nil]at h2
 have e:=nS (Γ:=Γ) h2
 refine⟨FH,⟨e ▸ h1,h2.nodup_iff.1 h.nodup,fun b hb=>h.own b (h2.mem_iff.2 hb),fun t v hv=>e ▸ h.env t v hv,h.size,h.defers,h.frame,h.keep,hd⟩,h2⟩
mutual
theorem RM.over{L w w' ok ok' m}(h:Keep w w' ok ok')
  (hp: ∀k b cap sz i j x n c,m k= .at b cap sz→w.cell? ⟨b,i*sz+j,none⟩=some (.slice x n c)→w'.cell? ⟨b,i*sz+j,none⟩=some (.slice x n c)) :
  ∀{x v},RM L w ok m x v→RM L w' ok' m x v
 | _,_,.d h1=>.d (h1.mono h.imm h.size (by simp))
 | _,_,.rs h1 h2 h3 h4=>.rs h1 h2 h3 h4
 | _,_,.rsNil h1=>.rsNil h1
 | _,_,.rp h1 h2=>.rp h1 (hp _ _ _ _ _ _ _ _ _ h1 h2)
 | _,_,.pt h1=>.pt h1
 | _,_,.pb h1=>.pb h1
 | _,_,.mp h1=>.mp h1
 | _,_,.fn h1=>.fn (RMs.over h hp h1)
 | _,_,.fb h1=>.fb (RMs.over h hp h1)
 | _,_,.ez=>.ez
 | _,_,.junk h1=>.junk h1
theorem RMs.over{L w w' ok ok' m}(h:Keep w w' ok ok')
  (hp: ∀k b cap sz i j x n c,m k= .at b cap sz→w.cell? ⟨b,i*sz+j,none⟩=some (.slice x n c)→w'.cell? ⟨b,i*sz+j,none⟩=some (.slice x n c)) :
  ∀{xs vs},RMs L w ok m xs vs→RMs L w' ok' m xs vs
 | _,_,.nil=>.nil
 | _,_,.cons h1 h2=>.cons (RM.over h hp h1) (RMs.over h hp h2)
end
mutual
theorem RA.over{L w w' ok ok' m}(h:Keep w w' ok ok')
  (hp: ∀k b cap sz i j x n c,m k= .at b cap sz→w.cell? ⟨b,i*sz+j,none⟩=some (.slice x n c)→w'.cell? ⟨b,i*sz+j,none⟩=some (.slice x n c)) :
  ∀{x v},RA L w ok m x v→RA L w' ok' m x v
 | _,_,.c h1=>.c (h1.over h hp)
 | _,_,.agg h1=>.agg (h1.over h hp)
 | _,_,.tup h1=>.tup (RAs.over h hp h1)
 | _,_,.junk=>.junk
 | _,_,.un=>.un
theorem RAs.over{L w w' ok ok' m}(h:Keep w w' ok ok')
  (hp: ∀k b cap sz i j x n c,m k= .at b cap sz→w.cell? ⟨b,i*sz+j,none⟩=some (.slice x n c)→w'.cell? ⟨b,i*sz+j,none⟩=some (.slice x n c)) :
  ∀{xs vs},RAs L w ok m xs vs→RAs L w' ok' m xs vs
 | _,_,.nil=>.nil
 | _,_,.cons h1 h2=>.cons (RA.over h hp h1) (RAs.over h hp h2)
end
theorem RB.over{L w w' ok ok' m}(h:Keep w w' ok ok')
  (hp: ∀k b cap sz i j x n c,m k= .at b cap sz→w.cell? ⟨b,i*sz+j,none⟩=some (.slice x n c)→w'.cell? ⟨b,i*sz+j,none⟩=some (.slice x n c))
  {blk loc F} (hb:RB L w ok m blk loc F) (hF: ∀b∈F,Same w w' b):RB L w' ok' m blk loc F:=by
 cases hb with
 | nil=>exact .nil
 | row h1 h2 h3 h4 h5 h6 h7 h8=>
  exact .row h1 h2 h3 ((hF _ (by simp)).trans h4) h5 h6 (h7.mono (fun b hb hok=>⟨⟨hok.1,(h.imm b hb hok.2).1⟩,(h.imm b hb hok.2).2⟩) h.size (hF _ (by simp)) (fun b hb=>hF b (by simp[hb]))) h8
 | box h1 h2=>exact .box ((hF _ (by simp)).trans h1) (h2.over h hp)
 | map h1 h2=>exact .map ((hF _ (by simp)).trans h1) (h2.mono h.imm h.size)
theorem RH.over{L w w' ok ok' m}(h:Keep w w' ok ok')
  (hp: ∀k b cap sz i j x n c,m k= .at b cap sz→w.cell? ⟨b,i*sz+j,none⟩=some (.slice x n c)→w'.cell? ⟨b,i*sz+j,none⟩=some (.slice x n c)) :
  ∀{H F},RH L w ok m H F→(∀b∈F,Same w w' b)→RH L w' ok' m H F
 | _,_,.nil,_=>.nil
 | _,_,.cons h1 h2,hF=>.cons (h1.over h hp (fun b hb=>hF b (by simp[hb]))) (RH.over h hp h2 (fun b hb=>hF b (by simp[hb])))
theorem RH.taken{L w ok m}: ∀{H F},RH L w ok m H F→∀{l blk},lk H l=some blk→∃Fl Fr G,RB L w ok m blk (m l) Fl∧RH L w ok m (dG H l) Fr∧F.Perm (Fl++(Fr++G))
 | _,_,.nil,l,blk,h=>by simp[aU]at h
 | _, _,.cons (l:=k) (r:=r) (F1:=G1) (F2:=G2) h1 h2,l,blk,h=>by
  rw[aw]at h
  unfold dG
  by_cases hk:k=l
  subst hk
  rw[if_pos Z]at h
  simp at h;subst h
  simp only[tN.2 Z,cond_true]
  cases hr:lk r k with
  | none=>
   have hdel: ∀{r:List (Nat×B)},lk r k=none→dG r k=r:=by
    intro r
    induction r with
    | nil=>intro _;rfl
    | cons x r ih=>
     obtain⟨k',v'⟩:=x
     intro hh
     rw[aw]at hh
     by_cases hk':k'=k
     rw[if_pos hk']at hh;cases hh
     rw[if_neg hk']at hh
     unfold dG
     rw[qC.2 hk']
     simp only[cond_false]
     rw[ih hh]
   rw[hdel hr]
   exact⟨G1,G2,[],h1,h2,by simp⟩
  | some blk'=>
   obtain⟨Fl,Fr,G,h3,h4,h5⟩:=RH.taken h2 hr
   refine⟨G1,Fr,Fl++G,h1,h4,?_⟩
   refine List.Perm.append_left G1 (h5.trans ?_)
   rw[←dO,←dO]
   exact List.perm_append_comm.append_right G
  rw[if_neg hk]at h
  rw[qC.2 hk]
  simp only[cond_false]
  obtain⟨Fl,Fr,G,h3,h4,h5⟩:=RH.taken h2 h
  refine⟨Fl,G1++Fr,G,h3,.cons h1 h4,?_⟩
  refine(h5.append_left G1).trans ?_
  rw[←dO,dO G1 Fr G,←dO Fl]
  exact(List.perm_append_comm.append_right (Fr++G))
theorem Rel1.take{Γ m F E s a w}(h:Rel1 Γ m F E s a w){l:Nat}{blk:B}(hl:lk s.H l=some blk) :
  ∃Fl G,RB Γ.L w (Γ.ok F) m blk (m l) Fl∧Rel1 Γ m F (Fl++(G++E)) ⟨s.env,dG s.H l⟩ a w:=by
 obtain⟨FH,h1,h2⟩:=h.H
 obtain⟨Fl,Fr,G,h3,h4,h5⟩:=h1.taken hl
 refine⟨Fl,G,h3,⟨⟨Fr,h4,?_⟩,h.nodup,h.lt,h.own,h.env,h.size,h.defers,h.frame,fun k hk hs=>?_⟩⟩
 refine h2.trans ((h5.append_right E).trans ?_)
 rw[dO,dO]
 rw[←dO Fl Fr (G++E),←dO Fr Fl (G++E)]
 exact List.perm_append_comm.append_right (G++E)
 refine h.keep k hk ?_
 simp only[cW]at hs
 split at hs
 simp at hs
 exact hs
theorem Rel1.drop{Γ m F E1 E2 s a w}(h:Rel1 Γ m F (E1++E2) s a w): ∃F',Rel1 Γ m F' E2 s a w∧(∀b,b∈F'→b∈F)∧(∀b∈E1,b ∉ F'):=by
 obtain⟨FH,h1,h2⟩:=h.H
 have hp:F.Perm (E1++(FH++E2)):=by
  refine h2.trans ?_
  rw[←dO,←dO]
  exact List.perm_append_comm.append_right E2
 have hnd:(E1++(FH++E2)).Nodup:=hp.nodup_iff.1 h.nodup
 have hsub: ∀b,b∈FH++E2→b∈F:=fun b hb=>hp.mem_iff.2 (List.mem_append_right _ hb)
 have hk:Keep w w (Γ.ok F) (Γ.ok (FH++E2)):=⟨cm _,fun b _ hok=>⟨⟨fun hb=>hok.1 (hsub b hb),hok.2⟩,rfl⟩⟩
 refine⟨FH++E2,⟨⟨FH,h1.over hk (fun _ _ _ _ _ _ _ _ _ _ h=>h) (fun _ _=>rfl),.refl _⟩,(List.nodup_append.1 hnd).2.1,fun b hb=>h.lt b (hsub b hb),fun b hb=>h.own b (hsub b hb),
  fun t v hv=>(h.env t v hv).over hk (fun _ _ _ _ _ _ _ _ _ _ h=>h),h.size,h.defers,h.frame,h.keep⟩,hsub,fun b hb hb'=>?_⟩
 exact(List.nodup_append.1 hnd).2.2 b hb b hb' Z
theorem Rel1.alloc{Γ m F E s a w}(h:Rel1 Γ m F E s a w)(o:Obj):Rel1 Γ m (w.heap.size::F) (w.heap.size::E) s a (w.alloc o):=by
 obtain⟨FH,h1,h2⟩:=h.H
 have same: ∀b,b<w.heap.size→Same w (w.alloc o) b:=fun b hb=>by
  show(w.heap.push o)[b]? = w.heap[b]?
  rw[Array.getElem?_push,if_neg (by omega)]
 have hk:Keep w (w.alloc o) (Γ.ok F) (Γ.ok (w.heap.size::F)):=⟨by simp,fun b hb hok=>⟨⟨fun hm=>by
  rcases List.mem_cons.1 hm with rfl|hm
  ·
   exact Nat.lt_irrefl _ hb
  ·
   exact hok.1 hm,hok.2⟩,same b hb⟩⟩
 have hp: ∀k b cap sz i j x n c,m k=Loc.at b cap sz→w.cell? ⟨b,i*sz+j,none⟩=some (.slice x n c)→(w.alloc o).cell? ⟨b,i*sz+j,none⟩=some (.slice x n c):=fun k b cap sz i j x n c _ hc=>
  (same b (block_lt_of_cell hc)).cell.trans hc
 refine⟨⟨FH,h1.over hk hp (fun b hb=>same b (h1.lt b hb)),?_⟩,List.nodup_cons.2 ⟨fun hb=>Nat.lt_irrefl _ (h.lt _ hb),h.nodup⟩,fun b hb=>?_,fun b hb=>?_,fun t v hv=>(h.env t v hv).over hk hp,h.size,h.defers,
  ⟨h.frame.os,h.frame.tape,h.frame.output,by simp;have:=h.frame.size;omega,fun b hb hn=>(same b (by have:=h.frame.size;omega)).trans (h.frame.block b hb hn)⟩,h.keep⟩
 exact(h2.cons _).trans List.perm_middle.symm
 rcases List.mem_cons.1 hb with rfl|hb
 simp
 have:=h.lt b hb;simp;omega
 rcases List.mem_cons.1 hb with rfl|hb
 exact .inl h.frame.size
 exact h.own b hb
theorem Rel1.drew{Γ m F E s a w}(h:Rel1 Γ m F E s a w):Rel1 Γ m F E s a w.drew:=by
 obtain⟨FH,h1,h2⟩:=h.H
 have hk:Keep w w.drew (Γ.ok F) (Γ.ok F):=⟨cm _,fun b _ hok=>⟨hok,rfl⟩⟩
 have hp: ∀k b cap sz i j x n c,m k=Loc.at b cap sz→w.cell? ⟨b,i*sz+j,none⟩=some (.slice x n c)→w.drew.cell? ⟨b,i*sz+j,none⟩=some (.slice x n c):=fun k b cap sz i j x n c _ hc=>hc
 exact⟨⟨FH,h1.over hk hp (fun _ _=>rfl),h2⟩,h.nodup,h.lt,h.own,fun t v hv=>(h.env t v hv).over hk hp,h.size,h.defers,⟨h.frame.os,h.frame.tape,h.frame.output,h.frame.size,h.frame.block⟩,h.keep⟩
theorem Rel1.write{Γ m F E s a w w'}(h:Rel1 Γ m F E s a w)(hos:w'.os=w.os)(ht:w'.tape=w.tape)(ho:w'.output=w.output)(hz:w'.heap.size=w.heap.size)(hs: ∀b,b ∉ E→Same w w' b)
  (hp: ∀k b cap sz i j x n c,b∈E→m k= .at b cap sz→w.cell? ⟨b,i*sz+j,none⟩=some (.slice x n c)→w'.cell? ⟨b,i*sz+j,none⟩=some (.slice x n c)):Rel1 Γ m F E s a w':=by
 obtain⟨FH,h1,h2⟩:=h.H
 have hE: ∀b,b∈E→b∈F:=fun b hb=>h2.mem_iff.2 (List.mem_append_right _ hb)
 have hk:Keep w w' (Γ.ok F) (Γ.ok F):=⟨by omega,fun b _ hok=>⟨hok,hs b (fun hb=>hok.1 (hE b hb))⟩⟩
 have hp': ∀k b cap sz i j x n c,m k=Loc.at b cap sz→w.cell? ⟨b,i*sz+j,none⟩=some (.slice x n c)→w'.cell? ⟨b,i*sz+j,none⟩=some (.slice x n c):=fun k b cap sz i j x n c hm hc=>by
  by_cases hb:b∈E
  ·
   exact hp k b cap sz i j x n c hb hm hc
  ·
   exact(hs b hb).cell.trans hc
 have hnd:(FH++E).Nodup:=h2.nodup_iff.1 h.nodup
 refine⟨⟨FH,h1.over hk hp' (fun b hb=>hs b (fun hb'=>(List.nodup_append.1 hnd).2.2 b hb b hb' Z)),h2⟩,h.nodup,fun b hb=>by rw[hz];exact h.lt b hb,h.own,fun t v hv=>(h.env t v hv).over hk hp',h.size,h.defers,
  ⟨hos.trans h.frame.os,ht.trans h.frame.tape,ho.trans h.frame.output,by rw[hz];exact h.frame.size,fun b hb hn=>(hs b (fun hb'=>?_)).trans (h.frame.block b hb hn)⟩,h.keep⟩
 rcases h.own b (hE b hb')with h3|h3
 omega
 exact hn h3
theorem Rel1.give{Γ m F E1 E2 s a w}(h:Rel1 Γ m F (E1++E2) s a w){l:Nat}(hf:s.free l=true)(hi:l ∉ Γ.ins){blk:B}{loc:Loc}(hB:RB Γ.L w (Γ.ok F) (fM m l loc) blk loc E1) :
  Rel1 Γ (fM m l loc) F E2 ⟨s.env,ins s.H l blk⟩ a w:=by
 obtain⟨FH,h1,h2⟩:=h.H
 simp only[St.free,bD,Option.isNone_iff_eq_none]at hf
 have hk:=Keep.refl w (Γ.ok F)
 have h3:=h1.keep hk (l:=l) (m':=fM m l loc) (fun k hk=>bj hk) (fun _ _ _ _ _ _ _ _ _ _ _ h=>h) hf.2.2 hf.1 (fun _ _=>rfl)
 obtain⟨F',h4,h5⟩:=h3.inserted (l:=l) (blk:=blk) (F1:=E1) hf.1 (by rw[bV];exact hB)
 refine⟨⟨F',h4,?_⟩,h.nodup,h.lt,h.own,fun t v hv=>(h.env t v hv).keep hk (l:=l) (fun k hk=>bj hk) (fun _ _ _ _ _ _ _ _ _ _ _ h=>h) (eV hf.2.1 hv),h.size,h.defers,h.frame,fun k hk' hs=>?_⟩
 refine h2.trans ?_
 refine List.Perm.trans ?_ ((h5.append_right E2).symm)
 rw[←dO]
 exact List.perm_append_comm.append_right E2
 have hne:k≠l:=fun e=>hi (e ▸ hk')
 rw[bj hne]
 refine h.keep k hk' ?_
 simp only[dn]at hs
 rwa[if_neg (Ne.symm hne)]at hs
theorem Rel1.back{Γ m F E1 E2 s a w}(h:Rel1 Γ m F (E1++E2) s a w){l:Nat}(hn:lk s.H l=none){blk:B}(hB:RB Γ.L w (Γ.ok F) m blk (m l) E1)(hk:l∈Γ.ins→m l=Γ.m0 l) :
  Rel1 Γ m F E2 ⟨s.env,ins s.H l blk⟩ a w:=by
 obtain⟨FH,h1,h2⟩:=h.H
 obtain⟨F',h4,h5⟩:=h1.inserted (l:=l) (blk:=blk) (F1:=E1) hn hB
 refine⟨⟨F',h4,?_⟩,h.nodup,h.lt,h.own,h.env,h.size,h.defers,h.frame,fun k hk' hs=>?_⟩
 refine h2.trans ?_
 refine List.Perm.trans ?_ ((h5.append_right E2).symm)
 rw[←dO]
 exact List.perm_append_comm.append_right E2
 by_cases e:k=l
 subst e;exact hk hk'
 refine h.keep k hk' ?_
 simp only[dn]at hs
 rwa[if_neg (Ne.symm e)]at hs
theorem eH(l:Nat)(H:List (Nat×B))(k:Nat):lk (b9 l H) k=if l=k then none else(lk H k).map (B.purge l):=by
 induction H with
 | nil=>simp[b9,aU]
 | cons x r ih=>
  obtain⟨k',v⟩:=x
  unfold b9
  by_cases h:k'=l
  subst h
  simp only[tN.2 Z,cond_true,ih,aw]
  by_cases h2:k'=k<;>simp[h2]
  rw[qC.2 h]
  simp only[cond_false,aw,ih]
  by_cases h2:k'=k
  subst h2;simp[Ne.symm h]
  simp[h2]
theorem Rel1.purge{Γ m F E s a w}(h:Rel1 Γ m F E s a w)(l:Nat)(loc:Loc)(hi:l ∉ Γ.ins): ∃G,Rel1 Γ (fM m l loc) F (G++E) (s.purge l) a w:=by
 obtain⟨FH,h1,h2⟩:=h.H
 obtain⟨F',h3,h4⟩:=h1.purged (l:=l) (m':=fM m l loc) (fun k hk=>bj hk)
 obtain⟨G,h5⟩: ∃G,FH.Perm (F'++G):=by
  clear h3 h1 h2
  induction h4 with
  | slnil=>exact⟨[],.refl _⟩
  | cons a _ ih=>obtain⟨G,hG⟩:=ih;exact⟨a::G,(hG.cons a).trans List.perm_middle.symm⟩
  | cons_cons a _ ih=>obtain⟨G,hG⟩:=ih;exact⟨G,hG.cons a⟩
 refine⟨G,⟨⟨F',h3,?_⟩,h.nodup,h.lt,h.own,fun t v hv=>?_,h.size,h.defers,h.frame,fun k hk hs=>?_⟩⟩
 refine h2.trans ((h5.append_right E).trans ?_)
 rw[dO]
 simp only[St.purge,gl,Option.map_eq_some_iff]at hv
 obtain⟨u,hu,rfl⟩:=hv
 exact(h.env t u hu).purged (fun k hk=>bj hk)
 have hne:k≠l:=fun e=>hi (e ▸ hk)
 rw[bj hne]
 refine h.keep k hk ?_
 simp only[St.purge,eH]at hs
 rw[if_neg (Ne.symm hne)]at hs
 simpa using hs
theorem Rel1.put{Γ m F E s a w}(h:Rel1 Γ m F E s a w){dst:Option Nat}{v:A}{x:Value}(hv:RA Γ.L w (Γ.ok F) m v x){s':St}(hs:put Γ.nt s dst v=some s') :
  Rel1 Γ m F E s' (a.put dst x) w:=by
 cases dst with
 | none=>simp[Al.put]at hs;subst hs;exact h
 | some d=>
  unfold Al.put at hs
  simp only at hs
  cases hd:Nat.blt d Γ.nt with
  | false=>simp[hd]at hs
  | true=>
   simp[hd]at hs
   subst hs
   refine⟨h.H,h.nodup,h.lt,h.own,fun t u hu=>?_,by simp[Act.put,h.size],h.defers,h.frame,h.keep⟩
   simp only[aw]at hu
   have hlt:=gA.1 hd
   split at hu
   rename_i e;subst e
   simp at hu;subst hu
   simpa[Act.put,Array.getElem?_setIfInBounds,h.size,hlt]using hv
   rename_i hne
   have:=h.env t u hu
   simpa[Act.put,Array.getElem?_setIfInBounds,hne]using this
end Go.Al
/- The abstract logic, vp 7: the operations that make or write blocks. -/
namespace Go.Al

theorem Rel0.rebase{Γ m F s a w}(h:Rel0 Γ m F s a w){l:Nat}(hf:s.free l=true)(hi:l ∉ Γ.ins)(b:Nat):Rel0 Γ (fM m l (.bx b)) F s a w:=by
 simp only[St.free,bD,Option.isNone_iff_eq_none]at hf
 have hk:=Keep.refl w (Γ.ok F)
 exact⟨h.H.keep hk (l:=l) (fun k hk=>bj hk) (fun _ _ _ _ _ _ _ _ _ _ _ h=>h) hf.2.2 hf.1 (fun _ _=>rfl),h.nodup,h.own,
  fun t v hv=>(h.env t v hv).keep hk (l:=l) (fun k hk=>bj hk) (fun _ _ _ _ _ _ _ _ _ _ _ h=>h) (eV hf.2.1 hv),h.size,h.defers,h.frame,fun k hk' hs=>by
  have hne:k≠l:=fun e=>hi (e ▸ hk')
  rw[bj hne];exact h.keep k hk' hs,fun k b' cap sz hk'=>by
  by_cases e:k=l
  ·
   subst e;rw[bV]at hk';cases hk'
  ·
   rw[bj e]at hk';exact h.dom k b' cap sz hk'⟩
theorem Rel1.rebase{Γ m F E s a w}(h:Rel1 Γ m F E s a w){l:Nat}(hf:s.free l=true)(hi:l ∉ Γ.ins)(loc:Loc):Rel1 Γ (fM m l loc) F E s a w:=by
 simp only[St.free,bD,Option.isNone_iff_eq_none]at hf
 have hk:=Keep.refl w (Γ.ok F)
 obtain⟨FH,h1,h2⟩:=h.H
 exact⟨⟨FH,h1.keep hk (l:=l) (fun k hk=>bj hk) (fun _ _ _ _ _ _ _ _ _ _ _ h=>h) hf.2.2 hf.1 (fun _ _=>rfl),h2⟩,h.nodup,h.lt,h.own,
  fun t v hv=>(h.env t v hv).keep hk (l:=l) (fun k hk=>bj hk) (fun _ _ _ _ _ _ _ _ _ _ _ h=>h) (eV hf.2.1 hv),h.size,h.defers,h.frame,fun k hk' hs=>by
  have hne:k≠l:=fun e=>hi (e ▸ hk')
  rw[bj hne];exact h.keep k hk' hs⟩
theorem iT(w:World)(o:Obj):(w.alloc o).heap[w.heap.size]? = some o:=by
 show(w.heap.push o)[w.heap.size]? = some o
 simp
theorem fV(w:World)(o:Obj)(b:Nat)(hb:b<w.heap.size):Same w (w.alloc o) b:=by
 show(w.heap.push o)[b]? = w.heap[b]?
 rw[Array.getElem?_push,if_neg (by omega)]
theorem kS{Γ:Ctx}{F:List Nat}(w:World)(o:Obj):Keep w (w.alloc o) (Γ.ok F) (Γ.ok (w.heap.size::F)):=
 ⟨by simp,fun b hb hok=>⟨⟨fun hm'=>by
 rcases List.mem_cons.1 hm' with rfl|hm'
 exact Nat.lt_irrefl _ hb
 exact hok.1 hm',hok.2⟩,fV w o b hb⟩⟩
theorem my{m:Nat→Loc}(w:World)(o:Obj): ∀k b cap sz i j x n c,m k=Loc.at b cap sz→w.cell? ⟨b,i*sz+j,none⟩=some (.slice x n c)→(w.alloc o).cell? ⟨b,i*sz+j,none⟩=some (.slice x n c):=
 fun k b cap sz i j x n c _ hc=>(fV w o b (block_lt_of_cell hc)).cell.trans hc

def St.fresh(s:St)(σ:Sg)(l:Nat):Bool:=s.free l&& !(σ.ins.contains l)
theorem bo{s:St}{σ:Sg}{l:Nat}(h:s.fresh σ l=true):s.free l=true∧l ∉ σ.ins:=by
 simp only[St.fresh,bD,Bool.not_eq_true']at h
 exact⟨h.1,by simpa using h.2⟩
def sQ(σ:Sg)(s:St)(dst:Option Nat)(ms:List M):Option St:=
 match dst with
 | some d=>bif s.fresh σ d then put σ.nt ⟨s.env,ins s.H d (.box ms)⟩ (some d) (.c (.pt d 0 0))else none
 | none=>none

theorem kW{Γ m F s a w}(hR:Rel0 Γ m F s a w){d:Nat}{ms:List M}{bO:Array Value}(hd:m d= .bx w.heap.size)(hm:RMs Γ.L w (Γ.ok F) m ms bO.toList){T:Nat}{s':St}(h:sQ Γ.toSg s (some d) ms=some s') :
  fz Γ s' (a.put (some d) (.pointer (some ⟨w.heap.size,0,none⟩))) (w.alloc (.cells bO T)):=by
 unfold sQ at h
 simp only at h
 cases hc:s.fresh Γ.toSg d with
 | false=>rw[hc]at h;cases h
 | true=>
  rw[hc]at h
  simp only[cond_true]at h
  obtain⟨hf,hi⟩:=bo hc
  simp only[St.free,bD,Option.isNone_iff_eq_none]at hf
  have h1:=hR.to1.alloc (.cells bO T)
  have hB:RB Γ.L (w.alloc (.cells bO T)) (Γ.ok (w.heap.size::F)) m (.box ms) (m d) [w.heap.size]:=by
   rw[hd]
   exact .box (iT w _) (hm.over (kS w _) (my w _))
  have h2:=Rel1.back (E1:=[w.heap.size]) (E2:=[]) h1 hf.1 hB (fun e=>absurd e hi)
  have h3:=h2.put (x:=.pointer (some ⟨w.heap.size,0,none⟩)) (.c (.pb hd)) h
  obtain⟨F',h4,_⟩:=h3.to0 (fun l b cap sz hl=>by
   have h5:l≠d:=fun e=>by subst e;rw[hd]at hl;cases hl
   unfold Al.put at h
   simp only at h
   cases hlt:Nat.blt d Γ.nt with
   | false=>rw[hlt]at h;cases h
   | true=>
    rw[hlt]at h
    simp only[cond_true,el]at h
    subst h
    simp only[dn,if_neg (Ne.symm h5)]
    exact hR.dom l b cap sz hl)
  exact⟨m,F',h4⟩
def D.scalar:D→Bool
 | .slc _ (_::_)=>false
 | .ptr _ _=>false
 | _=>true
theorem cr{L w ok ok'}{d:D}{v F}(hs:d.scalar=true)(h:RD L w ok d v F):RD L w ok' d v []:=by
 cases h with
 | int a b=>exact .int a b
 | bool=>exact .bool
 | str a=>exact .str a
 | nils=>exact .nils
 | nilp=>exact .nilp
 | nilf=>exact .nilf
 | nilm=>exact .nilm
 | slc0=>exact .slc0
 | @slc _ xs _ _ _ h1 _ _ _ _ _=>cases xs with|nil=>exact .slc0|cons _ _=>simp[D.scalar]at hs
 | @own _ xs _ _ _ _ _ h1 _ _ _ _ _ _=>cases xs with|nil=>exact .slc0|cons _ _=>simp[D.scalar]at hs
 | ptr _ _ _=>simp[D.scalar]at hs
 | any h1 h2=>exact .any h1 h2
def cu:St→List M→Option (List D×St)
 | s,[]=>some ([],s)
 | s,.d x::r=>bif x.scalar then(cu s r).map fun y=>(x::y.1,y.2)else none
 | s,.rs l off len::r=>
  match lk s.H l with
  | some (.row true sz xs)=>bif Nat.beq off 0&&Nat.beq len xs.length then(cu (s.purge l) r).map fun y=>(.slc sz xs::y.1,y.2)else none
  | _=>none
 | _,_=>none
def gB:St→List (List M)→Option (List (List D)×St)
 | s,[]=>some ([],s)
 | s,e::r=>match cu s e with
  | some (ds,s')=>(gB s' r).map fun y=>(ds::y.1,y.2)
  | none=>none
def cV:List M→Option (List D)
 | []=>some []
 | .d x::r=>(cV r).map (x:: ·)
 | _=>none
def eD:List (List M)→Option (List (List D))
 | []=>some []
 | e::r=>match cV e,eD r with
  | some x,some y=>some (x::y)
  | _,_=>none

inductive RDL(L:Nat)(w:World)(ok:Nat→Prop):List D→List Value→List Nat→Prop
 | nil:RDL L w ok [] [] []
 | cons {d ds v vs F1 F2}:RD L w ok d v F1→RDL L w ok ds vs F2→RDL L w ok (d::ds) (v::vs) (F1++F2)
theorem RDL.length{L w ok}: ∀{ds vs F},RDL L w ok ds vs F→ds.length=vs.length
 | _,_,_,.nil=>rfl
 | _,_,_,.cons _ h=>by simp[RDL.length h]
theorem RDL.append{L w ok}: ∀{ds vs F es us G},RDL L w ok ds vs F→RDL L w ok es us G→RDL L w ok (ds++es) (vs++us) (F++G)
 | _,_,_,_,_,_,.nil,h=>h
 | _,_,_,_,_,_,.cons h1 h2,h=>by rw[dO];exact .cons h1 (RDL.append h2 h)
theorem RDL.oneCell{L w ok}: ∀{ds vs F},RDL L w ok ds vs F→∀v∈vs,v.oneCell'=true
 | _,_,_,.cons h1 h2,v,hv=>by
  rcases List.mem_cons.1 hv with rfl|hv
  exact h1.oneCell
  exact RDL.oneCell h2 v hv
theorem RDL.lt{L w ok}: ∀{ds vs F},RDL L w ok ds vs F→∀b∈F,b<w.heap.size
 | _,_,_,.cons h1 h2,b,hb=>by
  rcases List.mem_append.1 hb with hb|hb
  exact h1.lt b hb
  exact RDL.lt h2 b hb
theorem RDL.mono{L w w' ok ok'}(h: ∀b,b<w.heap.size→ok b→ok' b∧Same w w' b)(hz:w.heap.size≤w'.heap.size): ∀{ds vs F},RDL L w ok ds vs F→(∀b∈F,Same w w' b)→RDL L w' ok' ds vs F
 | _,_,_,.nil,_=>.nil
 | _,_,_,.cons h1 h2,hF=>.cons (h1.mono h hz (fun b hb=>hF b (by simp[hb]))) (RDL.mono h hz h2 (fun b hb=>hF b (by simp[hb])))
theorem RDL.at{L w ok}: ∀{ds vs F b o},RDL L w ok ds vs F→cw w b o vs→RDs L w ok ds b o F
 | _,_,_,b,o,.nil,_=>.nil
 | _,_,_,b,o,.cons (vs:=vs) h1 h2,hc=>.cons (by simpa using hc 0 _ Z) h1 (RDL.at h2 (fun j v hj=>by have:=hc (j+1) v (by simpa using hj);rwa[show o+(j+1)=o+1+j by omega]at this))
theorem RDL.of{L w ok}: ∀{ds b o F},RDs L w ok ds b o F→∃vs,cw w b o vs∧RDL L w ok ds vs F
 | _,b,o,_,.nil=>⟨[],fun j v h=>by simp at h,.nil⟩
 | _,b,o,_,.cons (v:=v) h1 h2 h3=>by
  obtain⟨vs,h4,h5⟩:=RDL.of h3
  refine⟨v::vs,fun k u hk=>?_,.cons h2 h5⟩
  cases k with
  | zero=>simp at hk;subst hk;exact h1
  | succ k=>have:=h4 k u (by simpa using hk);rwa[show o+1+k=o+(k+1) by omega]at this
theorem lM(H:List (Nat×B))(l:Nat):b9 l (dG H l)=b9 l H:=by
 induction H with
 | nil=>rfl
 | cons x r ih=>
  obtain⟨k,v⟩:=x
  have e1:dG ((k,v)::r) l=bif Nat.beq k l then dG r l else(k,v)::dG r l:=rfl
  have e2: ∀r',b9 l ((k,v)::r')=bif Nat.beq k l then b9 l r' else(k,B.purge l v)::b9 l r':=fun _=>rfl
  rw[e1]
  cases h:Nat.beq k l with
  | true=>rw[e2,h];exact ih
  | false=>simp only[cond_false];rw[e2,e2,h];simp only[cond_false];rw[ih]
theorem Rel1.takeAll{Γ m F E s a w}(h:Rel1 Γ m F E s a w){l:Nat}{blk:B}(hl:lk s.H l=some blk)(hi:l ∉ Γ.ins) :
  ∃Fl G,RB Γ.L w (Γ.ok F) m blk (m l) Fl∧Rel1 Γ (fM m l .nil) F (Fl++(G++E)) (s.purge l) a w:=by
 obtain⟨Fl,G,h1,h2⟩:=h.take hl
 obtain⟨G',h3⟩:=h2.purge l .nil hi
 have e:St.purge l ⟨s.env,dG s.H l⟩=s.purge l:=by simp[St.purge,lM]
 rw[e]at h3
 refine⟨Fl,G'++G,h1,?_⟩
 obtain⟨FH,h4,h5⟩:=h3.H
 refine⟨⟨FH,h4,h5.trans (List.Perm.append_left FH ?_)⟩,h3.nodup,h3.lt,h3.own,h3.env,h3.size,h3.defers,h3.frame,h3.keep⟩
 rw[←dO,←dO,dO G' G E,←dO Fl G' (G++E)]
 rw[dO (G'++Fl) G E]
 exact List.perm_append_comm.append_right (G++E)
def Dom(m:Nat→Loc)(s:St):Prop:= ∀l b cap sz,m l= .at b cap sz→(lk s.H l).isSome=true
theorem Dom.purge{m:Nat→Loc}{s:St}(h:Dom m s)(l:Nat):Dom (fM m l .nil) (s.purge l):=by
 intro k b cap sz hk
 by_cases e:k=l
 subst e;rw[bV]at hk;cases hk
 rw[bj e]at hk
 have:=h k b cap sz hk
 simp only[St.purge,eH,if_neg (Ne.symm e)]
 simpa using this
theorem Dom.ins{m:Nat→Loc}{s:St}(h:Dom m s)(l:Nat)(loc:Loc)(blk:B)(env:List (Nat×A)):Dom (fM m l loc) ⟨env,Al.ins s.H l blk⟩:=by
 intro k b cap sz hk
 simp only[dn]
 by_cases e:k=l
 subst e;simp
 rw[bj e]at hk
 rw[if_neg (Ne.symm e)]
 exact h k b cap sz hk
theorem Dom.put{m:Nat→Loc}{nt:Nat}{s s':St}{dst:Option Nat}{v:A}(h:Dom m s)(hs:Al.put nt s dst v=some s'):Dom m s':=by
 cases dst with
 | none=>simp[Al.put]at hs;subst hs;exact h
 | some d=>
  unfold Al.put at hs
  simp only at hs
  cases hd:Nat.blt d nt with
  | false=>rw[hd]at hs;cases hs
  | true=>
   rw[hd]at hs
   simp only[cond_true,el]at hs
   subst hs
   exact h
theorem Rel1.permE{Γ m F E E' s a w}(h:Rel1 Γ m F E s a w)(hp:E.Perm E'):Rel1 Γ m F E' s a w:=by
 obtain⟨FH,h1,h2⟩:=h.H
 exact⟨⟨FH,h1,h2.trans (hp.append_left FH)⟩,h.nodup,h.lt,h.own,h.env,h.size,h.defers,h.frame,h.keep⟩
def fB(σ:Sg):List M→Bool
 | []=>true
 | .rs l _ _::r=>!(σ.ins.contains l)&&fB σ r
 | _::r=>fB σ r

theorem fZ{Γ:Ctx}{m0:Nat→Loc}{a:Act}{w:World}{F:List Nat}: ∀{ms:List M} {vs:List Value} {s s':St} {ds:List D} {E:List Nat} {m:Nat→Loc},Rel1 Γ m F E s a w→Dom m s→
  (∀k,(lk s.H k).isSome=true→m k=m0 k)→RMs Γ.L w (Γ.ok F) m0 ms vs→fB Γ.toSg ms=true→
  cu s ms=some (ds,s')→∃Fd G m',RDL Γ.L w (fun _=>False) ds vs Fd∧Rel1 Γ m' F (Fd++(G++E)) s' a w∧Dom m' s'∧(∀k,(lk s'.H k).isSome=true→m' k=m0 k)
 | [],vs,s,s',ds,E,m,hR,hD,hA,hm,_,h=>by
  cases hm
  simp[cu]at h
  obtain⟨rfl,rfl⟩:=h
  exact⟨[],[],m,.nil,hR,hD,hA⟩
 | x :: r,vs,s,s',ds,E,m,hR,hD,hA,hm,hi,h=>by
  cases hm with
  | @cons _ _ v vs h1 h2=>
   unfold cu at h
   split at h
   rename_i heq;cases heq
   rename_i s x' r' heq
   cases heq
   cases hs:x'.scalar with
   | false=>rw[hs]at h;cases h
   | true=>
    rw[hs]at h
    simp only[cond_true,Option.map_eq_some_iff]at h
    obtain⟨⟨ds',s''⟩,h3,h4⟩:=h
    simp only[Prod.mk.injEq]at h4
    obtain⟨rfl,rfl⟩:=h4
    obtain⟨Fd,G,m',h5,h6,h7⟩:=fZ hR hD hA h2 (by simpa[fB]using hi) h3
    cases h1 with
    | d h1=>exact⟨Fd,G,m',.cons (F1:=[]) (cr hs h1) h5,h6,h7⟩
   rename_i s1 st lst l off len r' heq
   cases heq
   simp only[fB,bD,Bool.not_eq_true']at hi
   have hni:l ∉ Γ.ins:=by simpa using hi.1
   split at h
   rename_i sz xs hl
   cases hc:(Nat.beq off 0&&Nat.beq len xs.length)with
   | false=>rw[hc]at h;cases h
   | true=>
    rw[hc]at h
    simp only[cond_true,Option.map_eq_some_iff]at h
    simp only[bD]at hc
    obtain⟨⟨ds',s''⟩,h3,h4⟩:=h
    simp only[Prod.mk.injEq]at h4
    obtain⟨rfl,rfl⟩:=h4
    have ho:=tN.1 hc.1
    have hlen:=tN.1 hc.2
    subst ho;subst hlen
    obtain⟨Fl,G,h5,h6⟩:=hR.takeAll hl hni
    have hA': ∀k,(lk (St.purge l s1).H k).isSome=true→fM m l .nil k=m0 k:=fun k hk=>by
     simp only[St.purge,eH]at hk
     by_cases e:l=k
     ·
      rw[if_pos e]at hk;cases hk
     ·
      rw[if_neg e]at hk
      rw[bj (Ne.symm e)]
      exact hA k (by simpa using hk)
    obtain⟨Fd,G',m',h7,h8,h8'⟩:=fZ h6 (hD.purge l) hA' h2 hi.2 h3
    have hml:=hA l (by rw[hl];rfl)
    have key: ∃Fv G'',RD Γ.L w (fun _=>False) (.slc sz xs) v Fv∧Fl.Perm (Fv++G''):=by
     rcases h1.rs_inv with⟨b,cap,base,c,sz',hm,hle,hcap,hbase,rfl⟩|⟨hm,_,hlen,_,rfl⟩
     rw[hml,hm]at h5
     cases h5 with
     | @row _ _ _ _ _ bO T F2 g1 g2 g3 g4 g5 g6 g7 g8=>
      rcases hbase with hb|hb
      subst hb
      have hx:xs=[]:=List.eq_nil_of_length_eq_zero (by omega)
      subst hx
      exact⟨[],_,.slc0,.refl _⟩
      subst hb
      have hcs:c*sz≤bO.size:=Nat.le_trans (Nat.mul_le_mul_right sz (by omega)) g5
      refine⟨_,[],?_,by rw[List.append_nil]⟩
      rw[Nat.zero_mul]
      exact RD.own g1 hle g3 g4 hcs (by omega) (g7.mono (fun b _ hb=>absurd hb.1 (by simp)) (cm _) Z (fun _ _=>rfl))
     have hx:xs=[]:=List.eq_nil_of_length_eq_zero (by omega)
     subst hx
     exact⟨[],Fl,.slc0,.refl _⟩
    obtain⟨Fv,G'',h9,h10⟩:=key
    refine⟨Fv++Fd,G'++(G''++G),m',.cons h9 h7,h8.permE ?_,h8'⟩
    refine(List.Perm.append_left Fd (List.Perm.append_left G' (h10.append_right (G++E)))).trans ?_
    simp only[←dO]
    refine List.Perm.append_right E (List.Perm.append_right G (List.Perm.append_right G'' ?_))
    rw[dO Fd G' Fv]
    refine(List.Perm.append_left Fd List.perm_append_comm).trans ?_
    rw[←dO]
    exact List.perm_append_comm.append_right G'
   cases h
   cases h
theorem eG{L w ok m}: ∀{ms:List M} {vs:List Value} {ds:List D},RMs L w ok m ms vs→cV ms=some ds→RDL L w ok ds vs []
 | [],vs,ds,h,hp=>by cases h;simp[cV]at hp;subst hp;exact .nil
 | x :: r,vs,ds,h,hp=>by
  cases h with
  | cons h1 h2=>
   cases h1 with
   | d h1=>
    simp only[cV,Option.map_eq_some_iff]at hp
    obtain⟨ds',h3,rfl⟩:=hp
    exact .cons (F1:=[]) (F2:=[]) h1 (eG h2 h3)
   | _=>simp[cV]at hp
theorem fY: ∀{es:List (List M)} {xs:List (List D)},eD es=some xs→cV es.flatten=some xs.flatten∧xs.map List.length=es.map List.length
 | [],xs,h=>by simp[eD]at h;subst h;exact⟨rfl,rfl⟩
 | e :: r,xs,h=>by
  unfold eD at h
  split at h
  rename_i x y h1 h2
  simp at h;subst h
  obtain⟨h3,h4⟩:=fY h2
  have app: ∀{a b:List M} {c d:List D},cV a=some c→cV b=some d→cV (a++b)=some (c++d)∧c.length=a.length:=by
   intro a
   induction a with
   | nil=>intro b c d ha hb;simp[cV]at ha;subst ha;exact⟨hb,rfl⟩
   | cons q a ih=>
    intro b c d ha hb
    cases q<;>simp[cV]at ha
    obtain⟨c',h5,rfl⟩:=ha
    obtain⟨h6,h7⟩:=ih h5 hb
    exact⟨by simp[cV,h6],by simp[h7]⟩
  obtain⟨h5,h6⟩:=app h1 h3
  exact⟨by simpa using h5,by simp[h6,h4]⟩
  cases h
theorem iY: ∀{es:List (List M)} {s s':St} {xs:List (List D)},gB s es=some (xs,s')→cu s es.flatten=some (xs.flatten,s')∧xs.map List.length=es.map List.length
 | [],s,s',xs,h=>by simp[gB]at h;obtain⟨rfl,rfl⟩:=h;exact⟨rfl,rfl⟩
 | e :: r,s,s',xs,h=>by
  unfold gB at h
  split at h
  rename_i ds s1 h1
  simp only[Option.map_eq_some_iff]at h
  obtain⟨⟨ys,s2⟩,h2,h3⟩:=h
  simp only[Prod.mk.injEq]at h3
  obtain⟨rfl,rfl⟩:=h3
  obtain⟨h4,h5⟩:=iY h2
  have app: ∀{a b:List M} {c d:List D} {s s1 s2:St},cu s a=some (c,s1)→cu s1 b=some (d,s2)→cu s (a++b)=some (c++d,s2)∧c.length=a.length:=by
   intro a
   induction a with
   | nil=>intro b c d s s1 s2 ha hb;simp[cu]at ha;obtain⟨rfl,rfl⟩:=ha;exact⟨hb,rfl⟩
   | cons q a ih=>
    intro b c d s s1 s2 ha hb
    cases q with
    | d x=>
     simp only[cu]at ha
     cases hs:x.scalar with
     | false=>rw[hs]at ha;cases ha
     | true=>
      rw[hs]at ha
      simp only[cond_true,Option.map_eq_some_iff]at ha
      obtain⟨⟨c',s1'⟩,h6,h7⟩:=ha
      simp only[Prod.mk.injEq]at h7
      obtain⟨rfl,rfl⟩:=h7
      obtain⟨h8,h9⟩:=ih h6 hb
      exact⟨by simp[cu,hs,h8],by simp[h9]⟩
    | rs l off len=>
     simp only[cu]at ha
     split at ha
     rename_i sz xs hl
     cases hc:(Nat.beq off 0&&Nat.beq len xs.length)with
     | false=>rw[hc]at ha;cases ha
     | true=>
      rw[hc]at ha
      simp only[cond_true,Option.map_eq_some_iff]at ha
      obtain⟨⟨c',s1'⟩,h6,h7⟩:=ha
      simp only[Prod.mk.injEq]at h7
      obtain⟨rfl,rfl⟩:=h7
      obtain⟨h8,h9⟩:=ih h6 hb
      refine⟨?_,by simp[h9]⟩
      simp only[List.cons_append,cu,hl,hc,cond_true,h8,Option.map_some]
     cases ha
    | _=>simp[cu]at ha
  obtain⟨h6,h7⟩:=app h1 h4
  exact⟨by simpa using h6,by simp[h7,h5]⟩
  cases h
end Go.Al
/- The abstract logic, vp 8: rows are made; slices out of literals, by make, by append; stores. -/
namespace Go.Al

theorem Rel1.toRel{Γ m F E s a w}(h:Rel1 Γ m F E s a w)(hD:Dom m s):fz Γ s a w:=by
 have h':Rel1 Γ m F (E++[]) s a w:=by rwa[List.append_nil]
 obtain⟨F',h1,_⟩:=h'.drop
 obtain⟨F'',h2,_⟩:=h1.to0 hD
 exact⟨m,F'',h2⟩
theorem Rel1.newRow{Γ m F Fd E s a w}(h:Rel1 Γ m F (Fd++E) s a w)(hD:Dom m s){d:Nat}{own:Bool}{sz cap T:Nat}{xs:List (List D)}{vs:List Value}{bO:Array Value}(hd:s.fresh Γ.toSg d=true)
  (hx:RDL Γ.L w (fun b=>own=false∧Γ.ok F b) xs.flatten vs Fd) (hF:own=false→Fd=[]) (hl:xs.length≤Γ.L) (hc:xs.length≤cap) (he: ∀e∈xs,e.length=sz)
  (ha: ∀(j:Nat) v,vs[j]? = some v→bO[j]? = some v) (hs:cap*sz≤bO.size) (hm:cap≤maxLen) {s':St}
  (hp:Al.put Γ.nt ⟨s.env,ins s.H d (.row own sz xs)⟩ (some d) (.c (.rs d 0 xs.length))=some s') :
  fz Γ s' (a.put (some d) (.slice (some ⟨w.heap.size,0,none⟩) xs.length cap)) (w.alloc (.cells bO T)):=by
 obtain⟨hf,hi⟩:=bo hd
 have hn:lk s.H d=none:=by
  simp only[St.free,bD,Option.isNone_iff_eq_none]at hf
  exact hf.1
 have h1:=(h.rebase hf hi (.at w.heap.size cap sz)).alloc (.cells bO T)
 have hmd:fM m d (.at w.heap.size cap sz) d= .at w.heap.size cap sz:=bV _ _ _
 have hB:RB Γ.L (w.alloc (.cells bO T)) (Γ.ok (w.heap.size::F)) (fM m d (.at w.heap.size cap sz)) (.row own sz xs) (fM m d (.at w.heap.size cap sz) d) (w.heap.size::Fd):=by
  rw[hmd]
  refine .row hl hc he (iT w _) hs hm ?_ hF
  refine(hx.mono (fun b hb hok=>⟨⟨hok.1,((kS w (.cells bO T)).imm b hb hok.2).1⟩,fV w _ b hb⟩) (by simp) (fun b hb=>fV w _ b (hx.lt b hb))).at ?_
  intro j v hj
  rw[Nat.zero_add,cell_of_row _ _ _ bO T _ (iT w _)]
  exact ha j v hj
 have h2:=Rel1.back (E1:=w.heap.size::Fd) (E2:=E) h1 hn hB (fun e=>absurd e hi)
 have h3:=h2.put (x:=.slice (some ⟨w.heap.size,0,none⟩) xs.length cap) (.c (.rs hmd hc (by omega) (.inr (by simp)))) hp
 exact h3.toRel ((hD.ins d _ _ _).put hp)
def dr:Nat→List (Nat×Option A)→Option (List (List M))
 | _,[]=>some []
 | k,(i,some v)::r=>bif Nat.beq i k then(match v.cells,dr (k+1) r with
   | some ms,some es=>some (ms::es)
   | _,_=>none)else none
 | _,(_,none)::_=>none
def sizes(n:Nat):List (List M)→Bool
 | []=>true
 | e::r=>Nat.beq e.length n&&sizes n r
def jg(σ:Sg):List (List M)→Bool
 | []=>true
 | e::r=>fB σ e&&jg σ r

theorem gp{L w ok m}{sz:Nat}: ∀{k:Nat} {parts:List (Nat×Option A)} {parts':List (Nat×Value)} {es:List (List M)} {bO:Array Value},RParts L w ok m parts parts'→dr k parts=some es→sizes sz es=true→
  (k+es.length)*sz≤bO.size→∃vs arr',Instr.fill (fun i=>some (i*sz,sz)) bO parts'=some arr'∧arr'.toList=bO.toList.take (k*sz)++(vs++bO.toList.drop ((k+es.length)*sz))∧RMs L w ok m es.flatten vs
 | k,[],_,es,bO,.nil,h,hs,hle=>by
  simp[dr]at h;subst h
  exact⟨[],bO,Z,by simp,.nil⟩
 | k,_,_,es,bO,.none hr,h,hs,hle=>by simp[dr]at h
 | k, _,_,es,bO,.cons (i:=i) (v:=v) (x:=x) hv hr,h,hs,hle=>by
  unfold dr at h
  cases hik:Nat.beq i k with
  | false=>rw[hik]at h;cases h
  | true=>
   rw[hik]at h
   have hik':=tN.1 hik
   subst hik'
   simp only[cond_true]at h
   split at h
   rename_i ms es' hc he
   simp at h;subst h
   simp only[sizes,bD]at hs
   have hx:=hv.cells hc
   have hlen:x.cells.size=sz:=by rw[←tN.1 hs.1,hx.length];simp
   simp only[dF]at hle
   have hle1:i*sz+x.cells.size≤bO.size:=by
    rw[hlen]
    have:(i+1)*sz≤(i+(es'.length+1))*sz:=Nat.mul_le_mul_right _ (by omega)
    rw[Nat.add_mul]at this;omega
   have hset:=iW x.cells (i*sz) bO hle1
   have hsize:(x.cells.zipIdx.foldl (fun(cs:Array Value) (y:Value×Nat)=>cs.setIfInBounds (i*sz+y.2) y.1) bO).size=bO.size:=by
    have q:=congrArg List.length hset
    simp only[Array.length_toList,cG,List.length_take,List.length_drop]at q
    omega
   obtain⟨vs,arr',h1,h2,h3⟩:=gp (sz:=sz) (bO:=x.cells.zipIdx.foldl (fun(cs:Array Value) (y:Value×Nat)=>cs.setIfInBounds (i*sz+y.2) y.1) bO) hr he hs.2 (by rw[hsize];rw[show i+1+es'.length=i+(es'.length+1) by omega];exact hle)
   refine⟨x.cells.toList++vs,arr',?_,?_,by rw[List.flatten_cons];exact hx.append h3⟩
   unfold Instr.fill
   simp only[hlen,ne_eq,not_true_eq_false,decide_false,Bool.false_or,decide_eq_true_eq]
   rw[if_neg (by have q:=hle1;rw[hlen]at q;omega)]
   exact h1
   rw[h2,hset]
   have e1:(bO.toList.take (i*sz)++(x.cells.toList++bO.toList.drop (i*sz+x.cells.size))).take ((i+1)*sz)=bO.toList.take (i*sz)++x.cells.toList:=by
    rw[←dO,List.take_append_of_le_length (by simp;rw[Nat.add_mul];omega)]
    rw[List.take_of_length_le (by simp;rw[Nat.add_mul];omega)]
   have e2:(bO.toList.take (i*sz)++(x.cells.toList++bO.toList.drop (i*sz+x.cells.size))).drop ((i+1+es'.length)*sz)=bO.toList.drop ((i+(es'.length+1))*sz):=by
    rw[←dO,List.drop_append]
    have hl1:(bO.toList.take (i*sz)++x.cells.toList).length=(i+1)*sz:=by simp;rw[Nat.add_mul];omega
    rw[hl1,List.drop_eq_nil_of_le (by rw[hl1];exact Nat.mul_le_mul_right _ (by omega)),List.nil_append,List.drop_drop]
    congr 1
    rw[hlen]
    have q1:(i+1+es'.length)*sz=(i+1)*sz+es'.length*sz:=by rw[Nat.add_mul]
    have q2:(i+(es'.length+1))*sz=i*sz+(es'.length*sz+sz):=by rw[Nat.add_mul,Nat.add_mul,Nat.one_mul]
    have q3:(i+1)*sz=i*sz+sz:=by rw[Nat.add_mul,Nat.one_mul]
    omega
   rw[e1,e2]
   simp
   cases h
def sO (σ:Sg)(s:St)(dst:Option Nat)(t n:Nat)(parts:List (Nat×Operand)):Option St:=
 match dst,lk σ.tt t with
 | some d,some i=>bif Nat.beq i.kind 1 then
   match lk σ.tt i.elem,dr 0 (parts.map fun x=>(x.1,ev s x.2))with
   | some e,some es=>bif Nat.beq es.length n&&sizes e.size es&&Nat.ble n 4096&&Nat.ble (n*e.size) 16777216&&jg σ es then
     match gB s es with
     | some (xs,s')=>bif s'.fresh σ d then put σ.nt ⟨s'.env,ins s'.H d (.row true e.size xs)⟩ (some d) (.c (.rs d 0 n))else none
     | none=>match eD es with
      | some xs=>bif s.fresh σ d then put σ.nt ⟨s.env,ins s.H d (.row false e.size xs)⟩ (some d) (.c (.rs d 0 n))else none
      | none=>none
    else none
   | _,_=>none
  else none
 | _,_=>none

theorem gD{n:Nat}: ∀{es:List (List M)},sizes n es=true→∀k∈es.map List.length,k=n
 | [],_,k,hk=>by simp at hk
 | e::r,h,k,hk=>by
  simp only[sizes,bD]at h
  simp only[List.map_cons,List.mem_cons]at hk
  rcases hk with rfl|hk
  exact tN.1 h.1
  exact gD h.2 k hk
theorem hY{n:Nat}: ∀{es:List (List M)},sizes n es=true→es.flatten.length=es.length*n
 | [],_=>by simp
 | y::es,h=>by
  simp only[sizes,bD]at h
  simp only[List.flatten_cons,cG,dF,hY h.2,tN.1 h.1]
  rw[Nat.add_mul,Nat.one_mul,Nat.add_comm]
theorem jG{σ:Sg}: ∀{es:List (List M)},jg σ es=true→fB σ es.flatten=true
 | [],_=>rfl
 | e :: r,h=>by
  simp only[jg,bD]at h
  have ih:=jG h.2
  have app: ∀{a b:List M},fB σ a=true→fB σ b=true→fB σ (a++b)=true:=by
   intro a
   induction a with
   | nil=>intro b _ hb;exact hb
   | cons x a ih=>
    intro b ha hb
    cases x<;>simp only[fB,List.cons_append,bD]at ha ⊢ <;> first|exact ih ha hb|exact⟨ha.1,ih ha.2 hb⟩
  rw[List.flatten_cons]
  exact app h.1 ih
theorem oL{Γ m F s a w}(htt:TTok Γ.P Γ.tt)(hz:TTplain Γ.tt=true)(hL:4096≤Γ.L)(hR:Rel0 Γ m F s a w){dst:Option Nat}{t n:Nat}{parts:List (Nat×Operand)}(hs:parts.all (fun x=>Al.Operand.short x.2)=true){s':St}
  (h:sO Γ.toSg s dst t n parts=some s'): ∃x w',(Instr.buildSlice t n (parts.map fun x=>(x.1,a.eval x.2)).toArray).run Γ.P w= .ok x w'∧fz Γ s' (a.put dst x) w':=by
 unfold sO at h
 split at h
 rename_i d i hi
 cases hk:Nat.beq i.kind 1 with
 | false=>rw[hk]at h;cases h
 | true=>
  rw[hk]at h
  simp only[cond_true]at h
  have hu:=(htt.get hi).isSlice (tN.1 hk)
  split at h
  rename_i e es he hes
  cases hc:(Nat.beq es.length n&&sizes e.size es&&Nat.ble n 4096&&Nat.ble (n*e.size) 16777216&&jg Γ.toSg es)with
  | false=>rw[hc]at h;cases h
  | true=>
   rw[hc]at h
   simp only[cond_true]at h
   simp only[bD]at hc
   obtain⟨⟨⟨⟨hc1,hc2⟩,hc3⟩,hc4⟩,hc5⟩:=hc
   have hn:=tN.1 hc1
   have h4:n≤4096:=Nat.le_of_ble_eq_true hc3
   have h5:n*e.size≤16777216:=Nat.le_of_ble_eq_true hc4
   obtain⟨x,hx,hsz,hby,z,hzz,hzl⟩:=(htt.get he).info
   -- what the machine does
   have hsize0:(((Array.range (n*e.size)).map (fun k=>(if n*e.size=0 then #[]else z.cells)[k%(if n*e.size=0 then #[]else z.cells).size]!)):Array Value).size=n*e.size:=by simp
   obtain⟨vs,arr',h6,h7,h8⟩:=gp (k:=0) (bO:=(Array.range (n*e.size)).map (fun k=>(if n*e.size=0 then #[]else z.cells)[k%(if n*e.size=0 then #[]else z.cells).size]!))
    (RParts.of hL hR parts hs) hes hc2 (by rw[hsize0,Nat.zero_add,hn];exact cm _)
   have hdrop:((Array.range (n*e.size)).map (fun k=>(if n*e.size=0 then #[]else z.cells)[k%(if n*e.size=0 then #[]else z.cells).size]!)).toList.drop ((0+es.length)*e.size)=[]:=by
    apply List.drop_eq_nil_of_le
    rw[Array.length_toList,hsize0,Nat.zero_add,hn];exact cm _
   rw[hdrop]at h7
   simp only[Nat.zero_mul,List.take_zero,List.nil_append,List.append_nil]at h7
   have hrun:(Instr.buildSlice t n (parts.map fun x=>(x.1,a.eval x.2)).toArray).run Γ.P w= .ok (.slice (some ⟨w.heap.size,0,none⟩) n n) (w.alloc (.cells arr' i.elem)):=by
    have h6':Instr.fill (fun i=>some (i*e.size,e.size)) ((Array.range (n*e.size)).map (fun k=>(if n*e.size=0 then #[]else z.cells)[k%(if n*e.size=0 then #[]else z.cells).size]!)) (parts.map fun x=>(x.1,a.eval x.2))=some arr':=h6
    unfold Instr.buildSlice
    have hng: ¬2^24<n*e.size:=by omega
    by_cases h0:n*e.size=0
    simp only[h0,if_true]at h6'
    simp[run_underlying hu,(htt.get he).run_sizeOf,h0,newRow,newObj,Sem.run]
    simp at h6'
    rw[h6']
    simp[newRow,newObj,Sem.run]
    simp only[h0,if_false]at h6'
    simp[run_underlying hu,(htt.get he).run_sizeOf,h0,hng,zeroValue,typeInfo,hx,hzz]
    rw[h6']
    simp[newRow,newObj,Sem.run]
   have hlen:vs.length=n*e.size:=by
    have q:=h8.length
    rw[←q,hY hc2,hn]
   have harr: ∀(j:Nat) v,vs[j]? = some v→arr'[j]? = some v:=fun j v hj=>by rw[←h7]at hj;simpa using hj
   have hcap:n*e.size≤arr'.size:=by rw[←Array.length_toList,h7,hlen];exact cm _
   have hmax:n≤maxLen:=by unfold maxLen;omega
   split at h
   rename_i xs s1 hab
   cases hfr:s1.fresh Γ.toSg d with
   | false=>rw[hfr]at h;cases h
   | true=>
    rw[hfr]at h
    simp only[cond_true]at h
    obtain⟨h9,h10⟩:=iY hab
    obtain⟨Fd,G,m',h11,h12,h13,h14⟩:=fZ hR.to1 hR.dom (fun _ _=>rfl) h8 (jG hc5) h9
    have hxl:xs.length=n:=by
     have:=congrArg List.length h10
     simpa[hn]using this
    have hxe: ∀e'∈xs,e'.length=e.size:=fun e' he'=>gD hc2 _ (h10 ▸ List.mem_map.2 ⟨e',he',rfl⟩)
    refine⟨_,_,hrun,?_⟩
    have:=Rel1.newRow (T:=i.elem) (bO:=arr') (cap:=n) h12 h13 hfr (own:=true) (h11.mono (fun b _ hb=>hb.elim) (cm _) (fun _ _=>rfl)) (by simp) (by omega) (by omega) hxe harr hcap hmax (by rw[hxl];exact h)
    rwa[hxl]at this
   split at h
   rename_i xs hpl
   cases hfr:s.fresh Γ.toSg d with
   | false=>rw[hfr]at h;cases h
   | true=>
    rw[hfr]at h
    simp only[cond_true]at h
    obtain⟨h9,h10⟩:=fY hpl
    have h11:=eG h8 h9
    have hxl:xs.length=n:=by
     have:=congrArg List.length h10
     simpa[hn]using this
    have hxe: ∀e'∈xs,e'.length=e.size:=fun e' he'=>gD hc2 _ (h10 ▸ List.mem_map.2 ⟨e',he',rfl⟩)
    refine⟨_,_,hrun,?_⟩
    have:=Rel1.newRow (Fd:=[]) (E:=[]) (T:=i.elem) (bO:=arr') (cap:=n) hR.to1 hR.dom hfr (own:=false) (h11.mono (fun b _ hb=>⟨⟨rfl,hb⟩,rfl⟩) (cm _) (fun _ _=>rfl)) (by simp) (by omega) (by omega) hxe harr hcap hmax (by rw[hxl];exact h)
    rwa[hxl]at this
   cases h
  cases h
 cases h
end Go.Al
/- The abstract logic, vp 9: what a piece of code comes to, told of abstract states: control. -/
namespace Go.Al

class SgOk (σ:Sg):Prop where
 tt:TTok σ.P σ.tt
 plain:TTplain σ.tt=true
 lo:4096≤σ.L
 hi:σ.L≤9223372036854775807
 mix:σ.P.follows .mixedOrders=true

abbrev b0:=Exit→St→Prop
def lh(Γ:Ctx)(Q:b0):Exit→Act→World→Prop:=fun e a w=> ∃s,fz Γ s a w∧Q e s
def AWP(σ:Sg)(c:Code)(Q:b0)(s:St):Prop:= ∀Γ:Ctx,Γ.toSg=σ→∀a w,fz Γ s a w→c.wp σ.P (lh Γ Q) a w
def AOps(σ:Sg)(all:Array Oper)(Q:b0)(l:List Oper)(s:St):Prop:= ∀Γ:Ctx,Γ.toSg=σ→∀a w,fz Γ s a w→wpList σ.P all (lh Γ Q) l a w
def Ent(σ:Sg)(s s':St):Prop:= ∀Γ:Ctx,Γ.toSg=σ→∀a w,fz Γ s a w→fz Γ s' a w
theorem Ent.refl{σ:Sg}{s:St}:Ent σ s s:=fun _ _ _ _ h=>h
theorem Ent.trans{σ:Sg}{s s' s'':St}(h:Ent σ s s')(h':Ent σ s' s''):Ent σ s s'':=fun Γ e a w hR=>h' Γ e a w (h Γ e a w hR)

section
variable{σ:Sg}{Q:b0}{s s':St}
theorem tV{c:Code}(h:Ent σ s s')(h':AWP σ c Q s'):AWP σ c Q s:=fun Γ e a w hR=>h' Γ e a w (h Γ e a w hR)
theorem kL{all:Array Oper}{l:List Oper}(h:Ent σ s s')(h':AOps σ all Q l s'):AOps σ all Q l s:=fun Γ e a w hR=>h' Γ e a w (h Γ e a w hR)
theorem AWP.mono{c:Code}{Q':b0}(h:AWP σ c Q s)(hQ: ∀e s,Q e s→Q' e s):AWP σ c Q' s:=
 fun Γ e a w hR=>wp_mono (h Γ e a w hR) fun e a w ⟨s,h1,h2⟩=>⟨s,h1,hQ e s h2⟩
def jz(next:St→Prop)(Q:b0):b0
 | .normal,s=>next s
 | e,s=>Q e s
theorem AWP.seq{x y:Code}(h:AWP σ x (jz (AWP σ y Q) Q) s):AWP σ (.seq x y) Q s:=fun Γ e a w hR=>by
 refine wp_seq (wp_mono (h Γ e a w hR) fun x a w ⟨s,h1,h2⟩=>?_)
 cases x with
 | normal=>exact h2 Γ e a w h1
 | _=>exact⟨s,h1,h2⟩
theorem AWP.skip(h:Q .normal s):AWP σ .skip Q s:=fun Γ e a w hR=>wp_skip ⟨s,hR,h⟩
theorem AWP.exit{id:Nat}(h:Q (.exit id) s):AWP σ (.exit id) Q s:=fun Γ e a w hR=>wp_exit ⟨s,hR,h⟩
theorem AWP.ret(h:Q .ret s):AWP σ .ret Q s:=fun Γ e a w hR=>wp_ret ⟨s,hR,h⟩
def kD(id:Nat)(Q:b0):b0
 | .exit id',s=>bif Nat.beq id' id then Q .normal s else Q (.exit id') s
 | e,s=>Q e s
theorem AWP.block{id:Nat}{c:Code}(h:AWP σ c (kD id Q) s):AWP σ (.block id c) Q s:=fun Γ e a w hR=>by
 refine wp_block (wp_mono (h Γ e a w hR) fun x a w ⟨s,h1,h2⟩=>?_)
 cases x with
 | exit id'=>
  simp only[Exit.inBlock,kD]at h2 ⊢
  split
  rename_i h3;rw[tN.2 h3]at h2;exact⟨s,h1,h2⟩
  rename_i h3;rw[qC.2 h3]at h2;exact⟨s,h1,h2⟩
 | _=>exact⟨s,h1,h2⟩
theorem AWP.cond(hσ:SgOk σ){c:Operand}{x y:Code}{b:Bool}(hc:ev s c=some (.c (.d (.bool b))))(ho:Operand.short c=true)(ht:b=true→AWP σ x Q s)(hf:b=false→AWP σ y Q s) :
  AWP σ (.cond c x y) Q s:=fun Γ e a w hR=>by
 subst e
 obtain⟨m,F,hR0⟩:=hR
 have h1:=hR0.ev hσ.lo ho hc
 have h2:a.eval c= .bool b:=by
  generalize a.eval c=v at h1
  cases h1 with|c h1=>cases h1 with|d h1=>cases h1;rfl
 exact wp_cond_split h2 (fun h=>ht h Γ Z a w ⟨m,F,hR0⟩) (fun h=>hf h Γ Z a w ⟨m,F,hR0⟩)
theorem AWP.region{id:Nat}{l:List Oper}(h:AOps σ l.toArray Q l s):AWP σ (.region id l.toArray false) Q s:=fun Γ e a w hR=>wp_region_lit (h Γ e a w hR)
theorem AOps.nil{all:Array Oper}(h:Q .normal s):AOps σ all Q [] s:=fun Γ e a w hR=>⟨s,hR,h⟩
theorem AWP.loop{c:Code}{X:Type}(I:X→St)(μ:X→Nat)(x:X)(h0:Ent σ s (I x))(h: ∀x,AWP σ c (jz (fun s'=> ∃y,Ent σ s' (I y)∧μ y<μ x) Q) (I x)):AWP σ (.loop c) Q s:=fun Γ e a w hR=>by
 classical
 have hmin: ∀a w,(∃x,fz Γ (I x) a w)→∃x,fz Γ (I x) a w∧∀y,fz Γ (I y) a w→μ x≤μ y:=by
  intro a w ⟨x,hx⟩
  generalize hn:μ x=n
  induction n using Nat.strongRecOn generalizing x with
  | _ n ih=>
   by_cases hy: ∃y,fz Γ (I y) a w∧μ y<μ x
   obtain⟨y,hy,hlt⟩:=hy
   exact ih (μ y) (hn ▸ hlt) y hy Z
   exact⟨x,hx,fun y hy'=>Nat.le_of_not_lt fun hlt=>hy ⟨y,hy',hlt⟩⟩
 let M:Act→World→Nat:=fun a w=>if h: ∃x,fz Γ (I x) a w then μ (Classical.choose (hmin a w h))else 0
 have hM: ∀a w,(∃x,fz Γ (I x) a w)→∃x,fz Γ (I x) a w∧M a w=μ x∧∀y,fz Γ (I y) a w→μ x≤μ y:=by
  intro a w hx
  refine⟨Classical.choose (hmin a w hx),(Classical.choose_spec (hmin a w hx)).1,?_,(Classical.choose_spec (hmin a w hx)).2⟩
  simp only[M,dif_pos hx]
 refine wp_loop (fun a w=> ∃x,fz Γ (I x) a w) M ⟨x,h0 Γ e a w hR⟩ fun a w hI=>?_
 obtain⟨x,hx,hMx,_⟩:=hM a w hI
 refine wp_mono (h x Γ e a w hx) fun ex a' w' ⟨s',h1,h2⟩=>?_
 cases ex with
 | normal=>
  obtain⟨y,h3,h4⟩:=h2
  have hy:=h3 Γ e a' w' h1
  refine⟨⟨y,hy⟩,?_⟩
  obtain⟨z,_,hMz,hle⟩:=hM a' w' ⟨y,hy⟩
  rw[hMx,hMz]
  exact Nat.lt_of_le_of_lt (hle y hy) h4
 | _=>exact⟨s',h1,h2⟩
end

def envSub(e:List (Nat×A)):List (Nat×A)→Prop
 | []=>True
 | (t,v)::r=>lk e t=some v∧envSub e r
theorem envSub.get{e:List (Nat×A)}: ∀{e':List (Nat×A)},envSub e e'→∀{t v},lk e' t=some v→lk e t=some v
 | [],_,t,v,h=>by simp[aU]at h
 | (k,u)::r,h,t,v,hh=>by
  rw[aw]at hh
  split at hh
  rename_i e;subst e;simp at hh;subst hh;exact h.1
  exact envSub.get h.2 hh
theorem Ent.env{σ:Sg}{e e':List (Nat×A)}{H:List (Nat×B)}(h:envSub e e'):Ent σ ⟨e,H⟩ ⟨e',H⟩:=fun Γ _ a w ⟨m,F,hR⟩=>
 ⟨m,F,hR.H,hR.nodup,hR.own,fun t v hv=>hR.env t v (h.get hv),hR.size,hR.defers,hR.frame,hR.keep,hR.dom⟩
end Go.Al
/- The abstract logic, vp 10: contracts of functions, and how a body proves one. -/
namespace Go.Al

def mL(R:Value→World→Prop):Ending→World→Prop
 | .returned v,w=>R v w
 | _,_=>False

def fJ(P:Program)(f:Nat):Prop:= ∃fn c,P.funcs[f]? = some fn∧(fn.name== "runtime.NumGoroutine")=false∧fn.body=some c

def MC(P:Program)(L:Nat)(f:Nat)(args:List A)(Hin:List (Nat×B))(Q:A→List (Nat×B)→Prop):Prop:=
 fJ P f∧∀(w:World) (m:Nat→Loc) (F:List Nat) (ok:Nat→Prop) (vs:List Value),
  GOk P w ok→RH L w ok m Hin F→F.Nodup→(∀b∈F,¬ok b)→Dom m ⟨[],Hin⟩→RAs L w ok m args vs→
  Calls P f vs.toArray w (mL fun v w'=> ∃res H' m' F',Q res H'∧
   RH L w' (fun b=>b ∉ F'∧(ok b∨w.heap.size≤b∨b∈F)) m' H' F'∧F'.Nodup∧(∀b∈F',w.heap.size≤b∨b∈F)∧
   RA L w' (fun b=>b ∉ F'∧(ok b∨w.heap.size≤b∨b∈F)) m' res v∧Frame w w' F∧
   (∀l,l∈Hin.map (·.1)→(lk H' l).isSome=true→m' l=m l)∧Dom m' ⟨[],H'⟩)

theorem MC.mono{P:Program}{L f:Nat}{args:List A}{Hin:List (Nat×B)}{Q Q':A→List (Nat×B)→Prop}(h:MC P L f args Hin Q)(hQ: ∀a H,Q a H→Q' a H):MC P L f args Hin Q':=by
 refine⟨h.1,fun w m F ok vs h0 h1 h2 h3 h4 h5=>Calls.mono (h.2 w m F ok vs h0 h1 h2 h3 h4 h5) fun e w' he=>?_⟩
 cases e with
 | returned v=>obtain⟨r,H',m',F',a1,a2⟩:=he;exact⟨r,H',m',F',hQ _ _ a1,a2⟩
 | _=>exact he
def bN:Nat→List A→List (Nat×A)
 | _,[]=>[]
 | k,a::r=>(k,a)::bN (k+1) r
theorem jJ: ∀{as:List A} {k t:Nat} {v:A},lk (bN k as) t=some v→k≤t∧as[t-k]? = some v
 | [],k,t,v,h=>by simp[bN,aU]at h
 | a::r,k,t,v,h=>by
  unfold bN at h
  rw[aw]at h
  split at h
  rename_i e;subst e;simp at h;subst h;simp
  rename_i hne
  obtain⟨h1,h2⟩:=jJ h
  refine⟨by omega,?_⟩
  rw[show t-k=(t-(k+1))+1 by omega]
  simpa using h2
def vM(tt:List (Nat×TI))(s:St):ResultVar→Option A
 | .tmp t=>lk s.env t
 | .cell a t=>match lk s.env a with
  | some v=>mQ tt s t v
  | none=>none
def lw(tt:List (Nat×TI))(s:St):List ResultVar→Option (List A)
 | []=>some []
 | r::rs=>match vM tt s r,lw tt s rs with
  | some v,some vs=>some (v::vs)
  | _,_=>none
def dw(tt:List (Nat×TI))(s:St)(rs:List ResultVar):Option A:=
 match lw tt s rs with
 | some [v]=>some v
 | some vs=>some (.tup vs)
 | none=>none

theorem nK{P:Program}{t:Nat}{p y:Value}{w w':World}(h:(Instr.loadAt t p).run P w= .ok y w'): ∃a,p= .pointer (some a)∧(loadVar t a).run P w= .ok y w':=by
 cases p with
 | pointer a=>
  cases a with
  | none=>simp[Instr.loadAt,Instr.sureAddr]at h
  | some a=>exact⟨a,Z,by simpa[Instr.loadAt,Instr.sureAddr]using h⟩
 | _=>simp[Instr.loadAt,Instr.sureAddr]at h
theorem jN{Γ m F s a w}(htt:TTok Γ.P Γ.tt)(hR:Rel0 Γ m F s a w){g:ResultVar→Sem Value}(g1: ∀t,g (.tmp t)=pure (a.tmps.getD t undef))(g2: ∀x t,g (.cell x t)=do loadVar t (←asAddr (a.tmps.getD x undef))) :
  ∀{rs:List ResultVar} {vs:List A},lw Γ.tt s rs=some vs→∃us,(rs.mapM g).run Γ.P w= .ok us w∧RAs Γ.L w (Γ.ok F) m vs us
 | [],vs,h=>by simp[lw]at h;subst h;exact⟨[],by simp,.nil⟩
 | r :: rs,vs,h=>by
  unfold lw at h
  split at h
  rename_i v vs' h1 h2
  simp at h;subst h
  obtain⟨us,h3,h4⟩:=jN htt hR g1 g2 h2
  cases r with
  | tmp t=>
   refine⟨a.tmps.getD t undef::us,?_,.cons (hR.env t v h1) h4⟩
   rw[List.mapM_cons]
   simp only[g1,Sem.run_bind,Sem.run_pure,Result.andThen_ok,h3]
  | cell x t=>
   simp only[vM]at h1
   split at h1
   rename_i u hu
   obtain⟨y,h5,h6⟩:=jO htt hR (hR.env x u hu) h1
   obtain⟨ad,h7,h8⟩:=nK h5
   refine⟨y::us,?_,.cons h6 h4⟩
   rw[List.mapM_cons]
   have hx:asAddr (a.tmps.getD x undef)=pure ad:=by rw[h7];rfl
   simp only[g2,Sem.run_bind,Sem.run_pure,hx,Result.andThen_ok,h8,h3]
   cases h1
  cases h
theorem k8{Γ m F s a w}(htt:TTok Γ.P Γ.tt)(hR:Rel0 Γ m F s a w){fn:Func}{res:A}(h:dw Γ.tt s fn.results.toList=some res): ∃v,(results fn a.tmps).run Γ.P w= .ok v w∧RA Γ.L w (Γ.ok F) m res v:=by
 unfold dw at h
 have key: ∀vs,lw Γ.tt s fn.results.toList=some vs→∃us:List Value,RAs Γ.L w (Γ.ok F) m vs us∧(results fn a.tmps).run Γ.P w= .ok (if h:us.toArray.size=1 then us.toArray[0]else .tuple us.toArray) w:=by
  intro vs hv
  unfold results
  rw[←Array.toArray_toList (xs:=fn.results),List.mapM_toArray]
  simp only[map_eq_pure_bind,Sem.run_bind]
  obtain⟨us,h1,h2⟩:=jN htt hR (g:=fun| .tmp t=>pure (a.tmps.getD t undef)| .cell a_1 t=>do loadVar t (←asAddr (a.tmps.getD a_1 undef))) (fun _=>rfl) (fun _ _=>rfl) hv
  refine⟨us,h2,?_⟩
  erw[h1]
  simp only[Result.andThen_ok,Sem.run_pure]
 split at h
 rename_i v hv
 simp at h;subst h
 obtain⟨us,h1,h2⟩:=key _ hv
 cases h1 with
 | cons h1 h3=>cases h3;exact⟨_,by rw[h2];rfl,h1⟩
 rename_i vs hne hv
 simp at h;subst h
 obtain⟨us,h1,h2⟩:=key _ hv
 refine⟨.tuple us.toArray,?_,.tup h1⟩
 rw[h2,dif_neg]
 intro h4
 have hl:=h1.length
 simp at h4
 obtain⟨x,rfl⟩:=List.length_eq_one_iff.1 (hl.trans h4)
 exact hne x Z
 cases h
theorem MC.intro{σ:Sg}(hσ:SgOk σ){f:Nat}{fn:Func}{c:Code}{args:List A}{Hin:List (Nat×B)}{Q:A→List (Nat×B)→Prop}(hf:σ.P.funcs[f]? = some fn)(hn:(fn.name== "runtime.NumGoroutine")=false)(hb:fn.body=some c)
  (hnt:fn.ntmps=σ.nt) (hi:σ.ins=Hin.map (·.1)) (ha:args.length≤σ.nt)
  (h:AWP σ c (fun e s=>(e= .ret∨e= .normal)∧∃s2,Ent σ s s2∧∃res,dw σ.tt s2 fn.results.toList=some res∧Q res s2.H) ⟨bN 0 args,Hin⟩):MC σ.P σ.L f args Hin Q:=by
 refine⟨⟨fn,c,hf,hn,hb⟩,fun w m F ok vs h0 h1 h2 h3 h4 h5=>?_⟩
 refine calls_of_wp hf hb ?_
 let Γ:Ctx:={toSg:=σ,w0:=w,Fin:=F,ok0:=ok,m0:=m,good:=h0,fin:=h3}
 have hk:Keep w w ok (Γ.ok F):=⟨cm _,fun b _ hok=>⟨⟨fun hb=>h3 b hb hok,.inl hok⟩,rfl⟩⟩
 have hlen:=h5.length
 have hsz:(vs.toArray++Array.replicate (fn.ntmps-vs.toArray.size) undef).size=σ.nt:=by simp;omega
 have hR:fz Γ ⟨bN 0 args,Hin⟩ {tmps:=vs.toArray++Array.replicate (fn.ntmps-vs.toArray.size) undef,defers:=[]} w:=by
  refine⟨m,F,h1.over hk (fun _ _ _ _ _ _ _ _ _ _ h=>h) (fun _ _=>rfl),h2,fun b hb=>.inr hb,fun t v hv=>?_,hsz,Z,⟨Z,Z,Z,cm _,fun _ _ _=>rfl⟩,fun l hl hs=>rfl,h4⟩
  obtain⟨_,hv⟩:=jJ hv
  obtain⟨u,hu,hr⟩:=h5.get hv
  have hr':=hr.over hk (fun _ _ _ _ _ _ _ _ _ _ h=>h)
  have:(vs.toArray++Array.replicate (fn.ntmps-vs.toArray.size) undef).getD t undef=u:=by
   have hlt:t<vs.length:=(List.getElem?_eq_some_iff.1 (by simpa using hu)).1
   have e:vs[t]? = some u:=by simpa using hu
   rw[Array.getD_eq_getD_getElem?,Array.getElem?_append_left (by simpa using hlt)]
   simp[e]
  rw[this];exact hr'
 refine wp_mono (h Γ Z _ w hR) fun e a w' ⟨s,hs,he,s2,hE,res,hres,hQ⟩=>?_
 obtain⟨m',F',hR'⟩:=hE Γ rfl a w' hs
 obtain⟨v,hv,hrv⟩:=k8 hσ.tt hR' hres
 have:a.defers=[]∧∃v,(results fn a.tmps).run σ.P w'= .ok v w'∧mL (fun v w'=> ∃res H' m' F',Q res H'∧
   RH σ.L w' (fun b=>b ∉ F'∧(ok b∨w.heap.size≤b∨b∈F)) m' H' F'∧F'.Nodup∧(∀b∈F',w.heap.size≤b∨b∈F)∧
   RA σ.L w' (fun b=>b ∉ F'∧(ok b∨w.heap.size≤b∨b∈F)) m' res v∧Frame w w' F∧
   (∀l,l∈Hin.map (·.1)→(lk H' l).isSome=true→m' l=m l)∧Dom m' ⟨[],H'⟩) (.returned v) w':=
  ⟨hR'.defers,v,hv,res,s2.H,m',F',hQ,hR'.H,hR'.nodup,hR'.own,hrv,hR'.frame,fun l hl hs=>hR'.keep l (by show l∈σ.ins;rw[hi];exact hl) hs,hR'.dom⟩
 rcases he with rfl|rfl
 exact this
 exact this
end Go.Al
/- The abstract logic, vp 11: calls. Arguments are looked at as data while the call lasts; what comes back gets labels of its own. -/
namespace Go.Al

mutual
inductive VM(H:List (Nat×B)):M→M→Prop
 | d {x}:VM H (.d x) (.d x)
 | nils {sz}:VM H (.d .nils) (.d (.slc sz []))
 | ez {sz}:VM H .ez (.d (.slc sz []))
 | rs {l off len own sz xs}:lk H l=some (.row own sz xs)→off+len≤xs.length→VM H (.rs l off len) (.d (.slc sz ((xs.drop off).take len)))
 | whole {l len own sz xs}:lk H l=some (.row own sz xs)→len=xs.length→VM H (.rs l 0 len) (.d (.slc sz xs))
 | rp {l i j own sz xs e z ys}:lk H l=some (.row own sz xs)→xs[i]? = some e→e[j]? = some (.slc z ys)→VM H (.rp l i j) (.d (.slc z ys))
 | pe {l i j own sz xs e}:lk H l=some (.row own sz xs)→xs[i]? = some e→VM H (.pt l i j) (.d (.ptr e j))
 | pb {l j ms cs}:lk H l=some (.box ms)→VMs H ms (cs.map .d)→VM H (.pt l 0 j) (.d (.ptr cs j))
 | fn {f caps caps'}:VMs H caps caps'→VM H (.fn f caps) (.fn f caps')
 | fb {f caps caps'}:VMs H caps caps'→VM H (.fb f caps) (.fb f caps')
 | sub {cs j ds}:(cs.drop j).take ds.length=ds→VM H (.d (.ptr cs j)) (.d (.ptr ds 0))
inductive VMs(H:List (Nat×B)):List M→List M→Prop
 | nil:VMs H [] []
 | cons {x xs y ys}:VM H x y→VMs H xs ys→VMs H (x::xs) (y::ys)
end
inductive VA(H:List (Nat×B)):A→A→Prop
 | c {x y}:VM H x y→VA H (.c x) (.c y)
 | agg {x y}:VMs H x y→VA H (.agg x) (.agg y)
inductive VAs(H:List (Nat×B)):List A→List A→Prop
 | nil:VAs H [] []
 | cons {x xs y ys}:VA H x y→VAs H xs ys→VAs H (x::xs) (y::ys)

theorem mv{L w ok m}: ∀{cs:List D} {vs:List Value} {b o:Nat},RMs L w ok m (cs.map .d) vs→cw w b o vs→RDs L w ok cs b o []
 | [],vs,b,o,h,_=>.nil
 | d::cs,_,b,o,.cons (.d h1) h2,hc=>.cons (F1:=[]) (F2:=[]) (by simpa using hc 0 _ Z) h1 (mv h2 (fun j v hj=>by have:=hc (j+1) v (by simpa using hj);rwa[show o+(j+1)=o+1+j by omega]at this))
section
variable{L:Nat}{w:World}{ok okc:Nat→Prop}{m m':Nat→Loc}{H:List (Nat×B)}{F:List Nat}
theorem RB.row_inv{own sz xs loc G}(h:RB L w ok m (.row own sz xs) loc G):(loc= .nil∧xs=[])∨∃b cap bO T G',loc= .at b cap sz∧xs.length≤L∧xs.length≤cap∧(∀e∈xs,e.length=sz)∧w.heap[b]? = some (.cells bO T (0,0))∧
  RDs L w (fun b=>own=false∧ok b) xs.flatten b 0 G'∧G=b::G':=by
 cases h with
 | nil=>exact .inl ⟨Z,Z⟩
 | row h1 h2 h3 h4 h5 h6 h7 h8=>exact .inr ⟨_,_,_,_,_,Z,h1,h2,h3,h4,h7,Z⟩
theorem RM.view(hH:RH L w ok m H F)(h1: ∀b,ok b→okc b)(h2: ∀b∈F,okc b){x y}(hv:VM H x y): ∀v,RM L w ok m x v→RM L w okc m' y v:=by
 refine VM.rec (motive_1:=fun x y _=> ∀v,RM L w ok m x v→RM L w okc m' y v) (motive_2:=fun xs ys _=> ∀vs,RMs L w ok m xs vs→RMs L w okc m' ys vs) ?d ?nils ?ez ?rs ?whole ?rp ?pe ?pb ?fn ?fb ?sub ?nil ?cons hv
 case d=>intro x v h;cases h with|d h=>exact .d (h.freeze (fun b _ hb=>h1 b hb) (by simp))
 case nils=>intro sz v h;cases h with|d h=>cases h;exact .d .slc0
 case ez=>intro sz v h;cases h;exact .d .slc0
 case rs=>
  intro l off len own sz xs hl hle v h
  obtain⟨G,hB,hG⟩:=hH.get hl
  obtain⟨b,cap,base,c,sz',a1,a2,a3,a4,rfl⟩|⟨a1,rfl,rfl,_,rfl⟩:=h.rs_inv
  ·
   rw[a1]at hB
   rcases hB.row_inv with⟨e,_⟩|⟨b',cap',bO,T,G',e,b1,b2,b3,b4,b5,rfl⟩
   ·
    cases e
   ·
    cases e
    have hlen:((xs.drop off).take len).length=len:=by simp;omega
    by_cases hz:len=0
    ·
     subst hz;rw[List.take_zero];exact .d .slc0
    ·
     rcases a4 with a4|rfl
     ·
      omega
     ·
      have hb:b∈F:=hG.subset (by simp)
      have b6:=b5.freeze (ok':=okc) (fun x _ hx=>h1 x hx.2) (fun x hx=>h2 x (hG.subset (by simp[hx])))
      rw[kG (a:=off) (n:=len)]at b6
      obtain⟨F1,F2,e1,c1,c2⟩:=b6.split
      obtain⟨rfl,rfl⟩:=List.append_eq_nil_iff.1 e1.symm
      obtain⟨F3,F4,e2,c3,c4⟩:=c1.split
      obtain⟨rfl,rfl⟩:=List.append_eq_nil_iff.1 e2.symm
      rw[br (fun e he=>b3 e (List.mem_of_mem_take he)),List.length_take,Nat.min_eq_left (by omega),Nat.zero_add]at c4
      have:=RD.slc (L:=L) (sz:=sz) (xs:=(xs.drop off).take len) (cap:=c) (off:=off*sz) (by rw[hlen];omega) (by rw[hlen];exact a2) (fun e he=>b3 e (List.mem_of_mem_drop (List.mem_of_mem_take he))) (h2 b hb) (Array.getElem?_eq_some_iff.1 b4).1 c4
      rw[hlen]at this
      exact .d this
  ·
   rw[List.take_zero];exact .d .slc0
 case whole=>
  intro l len own sz xs hl hle v h
  subst hle
  obtain⟨G,hB,hG⟩:=hH.get hl
  obtain⟨b,cap,base,c,sz',a1,a2,a3,a4,rfl⟩|⟨a1,_,hz,_,rfl⟩:=h.rs_inv
  ·
   rw[a1]at hB
   rcases hB.row_inv with⟨e,_⟩|⟨b',cap',bO,T,G',e,b1,b2,b3,b4,b5,rfl⟩
   ·
    cases e
   ·
    cases e
    by_cases hz:xs=[]
    ·
     subst hz;exact .d .slc0
    ·
     rcases a4 with a4|rfl
     ·
      have:xs.length=0:=by omega
      exact absurd (List.eq_nil_of_length_eq_zero this) hz
     ·
      have hb:b∈F:=hG.subset (by simp)
      have b6:=b5.freeze (ok':=okc) (fun x _ hx=>h1 x hx.2) (fun x hx=>h2 x (hG.subset (by simp[hx])))
      exact .d (.slc b1 a2 b3 (h2 b hb) (Array.getElem?_eq_some_iff.1 b4).1 (by simpa using b6))
  ·
   have:=List.eq_nil_of_length_eq_zero hz
   subst this;exact .d .slc0
 case rp=>
  intro l i j own sz xs e z ys hl hi hj v h
  cases h with
  | rp a1 a2=>
   obtain⟨G,hB,hG⟩:=hH.get hl
   rw[a1]at hB
   rcases hB.row_inv with⟨e,_⟩|⟨b',cap',bO,T,G',e,b1,b2,b3,b4,b5,rfl⟩
   ·
    cases e
   ·
    cases e
    have b6:=b5.freeze (ok':=okc) (fun x _ hx=>h1 x hx.2) (fun x hx=>h2 x (hG.subset (by simp[hx])))
    obtain⟨u,c1,c2⟩:=b6.get rfl (gh b3 hi hj)
    rw[Nat.zero_add,a2]at c1
    cases c1
    exact .d c2
 case pe=>
  intro l i j own sz xs e hl hi v h
  obtain⟨G,hB,hG⟩:=hH.get hl
  cases h with
  | pt a1=>
   rw[a1]at hB
   rcases hB.row_inv with⟨e,_⟩|⟨b',cap',bO,T,G',e,b1,b2,b3,b4,b5,rfl⟩
   ·
    cases e
   ·
    injection e with e1 e2 e3;subst e1;subst e2;subst e3
    have hb:=h2 _ (hG.subset (List.mem_cons_self ..))
    have b6:=b5.freeze (ok':=okc) (fun x _ hx=>h1 x hx.2) (fun x hx=>h2 x (hG.subset (by simp[hx])))
    have hlt:=(List.getElem?_eq_some_iff.1 hi).1
    rw[db hi]at b6
    obtain⟨F1,F2,e1,c1,c2⟩:=b6.split
    obtain⟨rfl,rfl⟩:=List.append_eq_nil_iff.1 e1.symm
    obtain⟨F3,F4,e2,c3,c4⟩:=c2.split
    obtain⟨rfl,rfl⟩:=List.append_eq_nil_iff.1 e2.symm
    rw[br (fun e he=>b3 e (List.mem_of_mem_take he)),List.length_take,Nat.min_eq_left (by omega),Nat.zero_add]at c3
    exact .d (.ptr hb (Array.getElem?_eq_some_iff.1 b4).1 c3)
  | pb a1=>rw[a1]at hB;cases hB
 case pb=>
  intro l j ms cs hl hc ih v h
  obtain⟨G,hB,hG⟩:=hH.get hl
  cases h with
  | pt a1=>rw[a1]at hB;cases hB
  | pb a1=>
   rw[a1]at hB
   cases hB with
   | box c1 c2=>
    rename_i b bO T
    have c3:=ih _ c2
    have:=mv (b:=b) (o:=0) c3 (fun j v hj=>by
     rw[Nat.zero_add]
     simp[World.cell?,c1]
     simpa using hj)
    have hb:b∈F:=hG.subset (by simp)
    have:=RD.ptr (off:=j) (h2 b hb) (Array.getElem?_eq_some_iff.1 c1).1 this
    rw[Nat.zero_add]at this
    exact .d this
 case fn=>intro f caps caps' hc ih v h;cases h with|fn h=>exact .fn (ih _ h)
 case fb=>intro f caps caps' hc ih v h;cases h with|fb h=>exact .fb (ih _ h)
 case sub=>
  intro cs j ds hd v h
  cases h with
  | d h=>
   cases h with
   | @ptr _ _ b o a1 a2 a3=>
    have a4:=a3.mono (ok':=okc) (w':=w) (fun b _ hb=>⟨h1 b hb,rfl⟩) (cm _) rfl (fun b hb=>by cases hb)
    have e:cs=cs.take j++((cs.drop j).take ds.length++(cs.drop j).drop ds.length):=by rw[List.take_append_drop,List.take_append_drop]
    rw[e]at a4
    obtain⟨F1,F2,e1,c1,c2⟩:=a4.split
    obtain⟨rfl,rfl⟩:=List.append_eq_nil_iff.1 e1.symm
    obtain⟨F3,F4,e2,c3,c4⟩:=c2.split
    obtain⟨rfl,rfl⟩:=List.append_eq_nil_iff.1 e2.symm
    rw[hd]at c3
    by_cases hj:j≤cs.length
    ·
     rw[List.length_take,Nat.min_eq_left hj]at c3
     have:=RD.ptr (off:=0) (h1 b a1) a2 c3
     rw[Nat.add_zero]at this
     exact .d this
    ·
     have hd':ds=[]:=by rw[←hd,List.drop_of_length_le (by omega)];simp
     subst hd'
     have:=RD.ptr (L:=L) (w:=w) (cs:=[]) (off:=0) (o:=o+j) (h1 b a1) a2 .nil
     rw[Nat.add_zero]at this
     exact .d this
 case nil=>intro vs h;cases h;exact .nil
 case cons=>intro x xs y ys a b ia ib vs h;cases h with|cons h1 h2=>exact .cons (ia _ h1) (ib _ h2)
theorem RMs.view(hH:RH L w ok m H F)(h1: ∀b,ok b→okc b)(h2: ∀b∈F,okc b): ∀{xs ys vs},RMs L w ok m xs vs→VMs H xs ys→RMs L w okc m' ys vs
 | _,_,_,.nil,.nil=>.nil
 | _,_,_,.cons a1 a2,.cons b1 b2=>.cons (RM.view hH h1 h2 b1 _ a1) (RMs.view hH h1 h2 a2 b2)
theorem RA.view(hH:RH L w ok m H F)(h1: ∀b,ok b→okc b)(h2: ∀b∈F,okc b){x y v}(h:RA L w ok m x v)(hv:VA H x y):RA L w okc m' y v:=by
 cases hv with
 | c hv=>cases h with|c h=>exact .c (RM.view hH h1 h2 hv _ h)
 | agg hv=>cases h with|agg h=>exact .agg (RMs.view hH h1 h2 h hv)
theorem RAs.view(hH:RH L w ok m H F)(h1: ∀b,ok b→okc b)(h2: ∀b∈F,okc b): ∀{xs ys vs},RAs L w ok m xs vs→VAs H xs ys→RAs L w okc m' ys vs
 | _,_,_,.nil,.nil=>.nil
 | _,_,_,.cons a1 a2,.cons b1 b2=>.cons (a1.view hH h1 h2 b1) (RAs.view hH h1 h2 a2 b2)
end

mutual
def M.ren(B0:Nat):M→M
 | .rs l a b=>.rs (B0+l) a b
 | .rp l i j=>.rp (B0+l) i j
 | .pt l i j=>.pt (B0+l) i j
 | .mp l=>.mp (B0+l)
 | .fn f caps=>.fn f (Ms.ren B0 caps)
 | .fb f caps=>.fb f (Ms.ren B0 caps)
 | .d x=>.d x
 | .ez=>.ez
 | .junk=>.junk
def Ms.ren(B0:Nat):List M→List M
 | []=>[]
 | x::r=>M.ren B0 x::Ms.ren B0 r
end
mutual
def A.ren(B0:Nat):A→A
 | .c x=>.c (M.ren B0 x)
 | .agg ms=>.agg (Ms.ren B0 ms)
 | .tup vs=>.tup (As.ren B0 vs)
 | .junk=>.junk
 | .un=>.un
def As.ren(B0:Nat):List A→List A
 | []=>[]
 | x::r=>A.ren B0 x::As.ren B0 r
end
def B.ren(B0:Nat):B→B
 | .row a b c=>.row a b c
 | .box ms=>.box (Ms.ren B0 ms)
 | .map es=>.map es
def fP(B0:Nat):List (Nat×B)→List (Nat×B)
 | []=>[]
 | (k,v)::r=>(B0+k,B.ren B0 v)::fP B0 r

section
variable{L:Nat}{w:World}{ok ok':Nat→Prop}{m m':Nat→Loc}{B0:Nat}
mutual
theorem RM.ren(hm: ∀k,m' (B0+k)=m k): ∀{x v},RM L w ok m x v→RM L w ok m' (x.ren B0) v
 | _,_,.d h1=>.d h1
 | _,_,.rs h1 h2 h3 h4=>.rs ((hm _).trans h1) h2 h3 h4
 | _,_,.rsNil h1=>.rsNil ((hm _).trans h1)
 | _,_,.rp h1 h2=>.rp ((hm _).trans h1) h2
 | _,_,.pt h1=>.pt ((hm _).trans h1)
 | _,_,.pb h1=>.pb ((hm _).trans h1)
 | _,_,.mp h1=>.mp ((hm _).trans h1)
 | _,_,.fn h1=>.fn (RMs.ren hm h1)
 | _,_,.fb h1=>.fb (RMs.ren hm h1)
 | _,_,.ez=>.ez
 | _,_,.junk h1=>.junk h1
theorem RMs.ren(hm: ∀k,m' (B0+k)=m k): ∀{xs vs},RMs L w ok m xs vs→RMs L w ok m' (Ms.ren B0 xs) vs
 | _,_,.nil=>.nil
 | _,_,.cons h1 h2=>.cons (RM.ren hm h1) (RMs.ren hm h2)
end
mutual
theorem RA.ren(hm: ∀k,m' (B0+k)=m k): ∀{x v},RA L w ok m x v→RA L w ok m' (x.ren B0) v
 | _,_,.c h1=>.c (h1.ren hm)
 | _,_,.agg h1=>.agg (RMs.ren hm h1)
 | _,_,.tup h1=>.tup (RAs.ren hm h1)
 | _,_,.junk=>.junk
 | _,_,.un=>.un
theorem RAs.ren(hm: ∀k,m' (B0+k)=m k): ∀{xs vs},RAs L w ok m xs vs→RAs L w ok m' (As.ren B0 xs) vs
 | _,_,.nil=>.nil
 | _,_,.cons h1 h2=>.cons (RA.ren hm h1) (RAs.ren hm h2)
end
theorem RB.ren(hm: ∀k,m' (B0+k)=m k){blk loc F}(h:RB L w ok m blk loc F):RB L w ok m' (blk.ren B0) loc F:=by
 cases h with
 | nil=>exact .nil
 | row h1 h2 h3 h4 h5 h6 h7 h8=>exact .row h1 h2 h3 h4 h5 h6 h7 h8
 | box h1 h2=>exact .box h1 (RMs.ren hm h2)
 | map h1 h2=>exact .map h1 h2
theorem RH.ren(hm: ∀k,m' (B0+k)=m k): ∀{H F},RH L w ok m H F→RH L w ok m' (fP B0 H) F
 | _,_,.nil=>.nil
 | _,_,.cons h1 h2=>.cons (by rw[hm];exact h1.ren hm) (RH.ren hm h2)
theorem tq{H:List (Nat×B)}{k:Nat}:(lk (fP B0 H) (B0+k)).isSome=(lk H k).isSome:=by
 induction H with
 | nil=>rfl
 | cons x r ih=>
  obtain⟨j,v⟩:=x
  simp only[fP,aw]
  by_cases h:j=k
  subst h;simp
  rw[if_neg h,if_neg (by omega)];exact ih
theorem oD{H:List (Nat×B)}{k:Nat}(hk:k<B0):lk (fP B0 H) k=none:=by
 induction H with
 | nil=>rfl
 | cons x r ih=>
  obtain⟨j,v⟩:=x
  simp only[fP,aw]
  rw[if_neg (by omega)];exact ih
end

mutual
def M.under(n:Nat):M→Bool
 | .rs k _ _=>Nat.blt k n
 | .rp k _ _=>Nat.blt k n
 | .pt k _ _=>Nat.blt k n
 | .mp k=>Nat.blt k n
 | .fn _ caps=>Ms.under n caps
 | .fb _ caps=>Ms.under n caps
 | _=>true
def Ms.under(n:Nat):List M→Bool
 | []=>true
 | x::r=>M.under n x&&Ms.under n r
end
mutual
def A.under(n:Nat):A→Bool
 | .c x=>M.under n x
 | .agg ms=>Ms.under n ms
 | .tup vs=>As.under n vs
 | _=>true
def As.under(n:Nat):List A→Bool
 | []=>true
 | x::r=>A.under n x&&As.under n r
end
def B.under(n:Nat):B→Bool
 | .row _ _ _=>true
 | .box ms=>Ms.under n ms
 | .map _=>true
def dY(n:Nat):List (Nat×A)→Bool
 | []=>true
 | (_,v)::r=>A.under n v&&dY n r
def dq(n:Nat):List (Nat×B)→Bool
 | []=>true
 | (k,v)::r=>Nat.blt k n&&(B.under n v&&dq n r)
def St.under(n:Nat)(s:St):Bool:=dY n s.env&&dq n s.H
def bz(n:Nat):List Nat→Bool
 | []=>true
 | k::r=>Nat.blt k n&&bz n r
theorem fv{n:Nat}: ∀{l:List Nat},bz n l=true→∀k∈l,k<n
 | [],_,k,hk=>by cases hk
 | x::r,h,k,hk=>by
  simp only[bz,bD,gA]at h
  rcases List.mem_cons.1 hk with rfl|hk
  exact h.1
  exact fv h.2 k hk
theorem jM{n:Nat}{e:List (Nat×A)}(h:dY n e=true){t:Nat}{v:A}(hv:lk e t=some v):A.under n v=true:=by
 induction e with
 | nil=>simp[aU]at hv
 | cons x r ih=>
  obtain⟨k,u⟩:=x
  simp only[dY,bD]at h
  rw[aw]at hv
  split at hv
  simp at hv;subst hv;exact h.1
  exact ih h.2 hv
theorem qG{n:Nat}{H:List (Nat×B)}(h:dq n H=true){k:Nat}(hk:(lk H k).isSome=true):k<n:=by
 induction H with
 | nil=>simp[aU]at hk
 | cons x r ih=>
  obtain⟨j,u⟩:=x
  simp only[dq,bD,gA]at h
  rw[aw]at hk
  split at hk
  rename_i e;subst e;exact h.1
  exact ih h.2.2 hk
section
variable{L:Nat}{w w':World}{ok ok':Nat→Prop}{m m':Nat→Loc}{n:Nat}
mutual
theorem RM.reach(h:Keep w w' ok ok')(hm: ∀k,k<n→m' k=m k)
  (hp: ∀k b cap sz i j x n c,m k= .at b cap sz→w.cell? ⟨b,i*sz+j,none⟩=some (.slice x n c)→w'.cell? ⟨b,i*sz+j,none⟩=some (.slice x n c)) :
  ∀{x v},RM L w ok m x v→M.under n x=true→RM L w' ok' m' x v
 | _,_,.d h1,_=>.d (h1.mono h.imm h.size (by simp))
 | _,_,.rs h1 h2 h3 h4,hf=>.rs ((hm _ (by simpa[M.under]using hf)).trans h1) h2 h3 h4
 | _,_,.rsNil h1,hf=>.rsNil ((hm _ (by simpa[M.under]using hf)).trans h1)
 | _,_,.rp h1 h2,hf=>.rp ((hm _ (by simpa[M.under]using hf)).trans h1) (hp _ _ _ _ _ _ _ _ _ h1 h2)
 | _,_,.pt h1,hf=>.pt ((hm _ (by simpa[M.under]using hf)).trans h1)
 | _,_,.pb h1,hf=>.pb ((hm _ (by simpa[M.under]using hf)).trans h1)
 | _,_,.mp h1,hf=>.mp ((hm _ (by simpa[M.under]using hf)).trans h1)
 | _,_,.fn h1,hf=>.fn (RMs.reach h hm hp h1 (by simpa[M.under]using hf))
 | _,_,.fb h1,hf=>.fb (RMs.reach h hm hp h1 (by simpa[M.under]using hf))
 | _,_,.ez,_=>.ez
 | _,_,.junk h1,_=>.junk h1
theorem RMs.reach(h:Keep w w' ok ok')(hm: ∀k,k<n→m' k=m k)
  (hp: ∀k b cap sz i j x n c,m k= .at b cap sz→w.cell? ⟨b,i*sz+j,none⟩=some (.slice x n c)→w'.cell? ⟨b,i*sz+j,none⟩=some (.slice x n c)) :
  ∀{xs vs},RMs L w ok m xs vs→Ms.under n xs=true→RMs L w' ok' m' xs vs
 | _,_,.nil,_=>.nil
 | _,_,.cons h1 h2,hf=>.cons (RM.reach h hm hp h1 (by simp[Ms.under]at hf;exact hf.1)) (RMs.reach h hm hp h2 (by simp[Ms.under]at hf;exact hf.2))
end
mutual
theorem RA.reach(h:Keep w w' ok ok')(hm: ∀k,k<n→m' k=m k)
  (hp: ∀k b cap sz i j x n c,m k= .at b cap sz→w.cell? ⟨b,i*sz+j,none⟩=some (.slice x n c)→w'.cell? ⟨b,i*sz+j,none⟩=some (.slice x n c)) :
  ∀{x v},RA L w ok m x v→A.under n x=true→RA L w' ok' m' x v
 | _,_,.c h1,hf=>.c (h1.reach h hm hp (by simpa[A.under]using hf))
 | _,_,.agg h1,hf=>.agg (RMs.reach h hm hp h1 (by simpa[A.under]using hf))
 | _,_,.tup h1,hf=>.tup (RAs.reach h hm hp h1 (by simpa[A.under]using hf))
 | _,_,.junk,_=>.junk
 | _,_,.un,_=>.un
theorem RAs.reach(h:Keep w w' ok ok')(hm: ∀k,k<n→m' k=m k)
  (hp: ∀k b cap sz i j x n c,m k= .at b cap sz→w.cell? ⟨b,i*sz+j,none⟩=some (.slice x n c)→w'.cell? ⟨b,i*sz+j,none⟩=some (.slice x n c)) :
  ∀{xs vs},RAs L w ok m xs vs→As.under n xs=true→RAs L w' ok' m' xs vs
 | _,_,.nil,_=>.nil
 | _,_,.cons h1 h2,hf=>.cons (RA.reach h hm hp h1 (by simp[As.under]at hf;exact hf.1)) (RAs.reach h hm hp h2 (by simp[As.under]at hf;exact hf.2))
end
theorem RB.reach(h:Keep w w' ok ok')(hm: ∀k,k<n→m' k=m k)
  (hp: ∀k b cap sz i j x n c,m k= .at b cap sz→w.cell? ⟨b,i*sz+j,none⟩=some (.slice x n c)→w'.cell? ⟨b,i*sz+j,none⟩=some (.slice x n c))
  {blk loc F} (hb:RB L w ok m blk loc F) (hf:B.under n blk=true) (hF: ∀b∈F,Same w w' b):RB L w' ok' m' blk loc F:=by
 cases hb with
 | nil=>exact .nil
 | row h1 h2 h3 h4 h5 h6 h7 h8=>
  exact .row h1 h2 h3 ((hF _ (by simp)).trans h4) h5 h6 (h7.mono (fun b hb hok=>⟨⟨hok.1,(h.imm b hb hok.2).1⟩,(h.imm b hb hok.2).2⟩) h.size (hF _ (by simp)) (fun b hb=>hF b (by simp[hb]))) h8
 | box h1 h2=>exact .box ((hF _ (by simp)).trans h1) (RMs.reach h hm hp h2 (by simpa[B.under]using hf))
 | map h1 h2=>exact .map ((hF _ (by simp)).trans h1) (h2.mono h.imm h.size)
theorem RH.reach(h:Keep w w' ok ok')(hm: ∀k,k<n→m' k=m k)
  (hp: ∀k b cap sz i j x n c,m k= .at b cap sz→w.cell? ⟨b,i*sz+j,none⟩=some (.slice x n c)→w'.cell? ⟨b,i*sz+j,none⟩=some (.slice x n c)) :
  ∀{H F},RH L w ok m H F→dq n H=true→(∀b∈F,Same w w' b)→RH L w' ok' m' H F
 | _,_,.nil,_,_=>.nil
 | _,_,.cons (l:=k) h1 h2,hf,hF=>by
  simp only[dq,bD,gA]at hf
  exact .cons (by rw[hm k hf.1];exact h1.reach h hm hp hf.2.1 (fun b hb=>hF b (by simp[hb]))) (RH.reach h hm hp h2 hf.2.2 (fun b hb=>hF b (by simp[hb])))
theorem RH.append{L w ok m}: ∀{H F},RH L w ok m H F→∀{H' F'},RH L w ok m H' F'→RH L w ok m (H++H') (F++F')
 | _,_,.nil,_,_,h=>h
 | _,_,.cons h1 h2,_,_,h=>by rw[dO];exact .cons h1 (RH.append h2 h)
theorem aH{α:Type}{H H':List (Nat×α)}{k:Nat}:lk (H++H') k=(lk H k).or (lk H' k):=by
 induction H with
 | nil=>simp[aU]
 | cons x r ih=>
  obtain⟨j,v⟩:=x
  simp only[List.cons_append,aw,ih]
  split<;>simp
end

mutual
def gC:M→Bool
 | .d x=>x.scalar
 | .fn _ caps=>dZ caps
 | .fb _ caps=>dZ caps
 | _=>true
def dZ:List M→Bool
 | []=>true
 | x::r=>gC x&&dZ r
end
mutual
def du:A→Bool
 | .c x=>gC x
 | .agg ms=>dZ ms
 | .tup vs=>gj vs
 | _=>true
def gj:List A→Bool
 | []=>true
 | x::r=>du x&&gj r
end
def iK:B→Bool
 | .row own _ _=>own
 | .box ms=>dZ ms
 | .map es=>es.isEmpty
def eO:List (Nat×B)→Bool
 | []=>true
 | (_,v)::r=>iK v&&eO r
section
variable{L:Nat}{w:World}{ok ok':Nat→Prop}{m:Nat→Loc}
mutual
theorem RM.washed: ∀{x v},RM L w ok m x v→gC x=true→RM L w ok' m x v
 | _,_,.d h1,hf=>.d (cr (by simpa[gC]using hf) h1)
 | _,_,.rs h1 h2 h3 h4,hf=>.rs h1 h2 h3 h4
 | _,_,.rsNil h1,hf=>.rsNil h1
 | _,_,.rp h1 h2,hf=>.rp h1 h2
 | _,_,.pt h1,hf=>.pt h1
 | _,_,.pb h1,hf=>.pb h1
 | _,_,.mp h1,hf=>.mp h1
 | _,_,.fn h1,hf=>.fn (RMs.washed h1 (by simpa[gC]using hf))
 | _,_,.fb h1,hf=>.fb (RMs.washed h1 (by simpa[gC]using hf))
 | _,_,.ez,_=>.ez
 | _,_,.junk h1,_=>.junk h1
theorem RMs.washed: ∀{xs vs},RMs L w ok m xs vs→dZ xs=true→RMs L w ok' m xs vs
 | _,_,.nil,_=>.nil
 | _,_,.cons h1 h2,hf=>.cons (RM.washed h1 (by simp[dZ]at hf;exact hf.1)) (RMs.washed h2 (by simp[dZ]at hf;exact hf.2))
end
mutual
theorem RA.washed: ∀{x v},RA L w ok m x v→du x=true→RA L w ok' m x v
 | _,_,.c h1,hf=>.c (h1.washed (by simpa[du]using hf))
 | _,_,.agg h1,hf=>.agg (RMs.washed h1 (by simpa[du]using hf))
 | _,_,.tup h1,hf=>.tup (RAs.washed h1 (by simpa[du]using hf))
 | _,_,.junk,_=>.junk
 | _,_,.un,_=>.un
theorem RAs.washed: ∀{xs vs},RAs L w ok m xs vs→gj xs=true→RAs L w ok' m xs vs
 | _,_,.nil,_=>.nil
 | _,_,.cons h1 h2,hf=>.cons (RA.washed h1 (by simp[gj]at hf;exact hf.1)) (RAs.washed h2 (by simp[gj]at hf;exact hf.2))
end
theorem REs.empty{l}(h:REs L w ok [] l):REs L w ok' [] l:=by cases h;exact .nil
theorem RB.washed{blk loc F}(h:RB L w ok m blk loc F)(hf:iK blk=true):RB L w ok' m blk loc F:=by
 cases h with
 | nil=>exact .nil
 | row h1 h2 h3 h4 h5 h6 h7 h8=>
  simp only[iK]at hf;subst hf
  have:(fun b=>true=false∧ok b)=(fun b=>true=false∧ok' b):=by funext b;simp
  rw[this]at h7
  exact .row h1 h2 h3 h4 h5 h6 h7 h8
 | box h1 h2=>exact .box h1 (RMs.washed h2 (by simpa[iK]using hf))
 | map h1 h2=>
  simp only[iK,List.isEmpty_iff]at hf;subst hf
  exact .map h1 (REs.empty h2)
theorem RH.washed: ∀{H F},RH L w ok m H F→eO H=true→RH L w ok' m H F
 | _,_,.nil,_=>.nil
 | _,_,.cons h1 h2,hf=>by
  simp only[eO,bD]at hf
  exact .cons (h1.washed hf.1) (RH.washed h2 hf.2)
end
end Go.Al
/- The abstract logic, vp 12: the rules for calls. -/
namespace Go.Al

def mix(B0:Nat)(m m':Nat→Loc)(j:Nat):Loc:=if j<B0 then m j else m' (j-B0)
theorem od{B0:Nat}{m m':Nat→Loc}{j:Nat}(h:j<B0):mix B0 m m' j=m j:=if_pos h
theorem l3{B0:Nat}{m m':Nat→Loc}(k:Nat):mix B0 m m' (B0+k)=m' k:=by
 unfold mix;rw[if_neg (by omega)];congr 1;omega
theorem Rel0.after{Γ:Ctx}{m m' F F' s a w w'}(hR:Rel0 Γ m F s a w){B0:Nat}(hu:s.under B0=true)(hi:bz B0 Γ.ins=true)(hf:Frame w w' [])(hF: ∀b∈F',w.heap.size≤b)(hn:F'.Nodup){H':List (Nat×B)}
  (hH:RH Γ.L w' (Γ.ok (F++F')) m' H' F') (hd:Dom m' ⟨[],H'⟩):Rel0 Γ (mix B0 m m') (F++F') ⟨s.env,s.H++fP B0 H'⟩ a w':=by
 simp only[St.under,bD]at hu
 have hlt: ∀b∈F,b<w.heap.size:=hR.H.lt
 have same: ∀b,b<w.heap.size→Same w w' b:=fun b hb=>hf.block b hb (by simp)
 have hk:Keep w w' (Γ.ok F) (Γ.ok (F++F')):=⟨hf.size,fun b hb hok=>⟨⟨fun hm=>by
  rcases List.mem_append.1 hm with hm|hm
  ·
   exact hok.1 hm
  ·
   have:=hF b hm;omega,hok.2⟩,same b hb⟩⟩
 have hm: ∀k,k<B0→mix B0 m m' k=m k:=fun k hk=>od hk
 have hp: ∀k b cap sz i j x n c,m k=Loc.at b cap sz→w.cell? ⟨b,i*sz+j,none⟩=some (.slice x n c)→w'.cell? ⟨b,i*sz+j,none⟩=some (.slice x n c):=fun k b cap sz i j x n c _ hc=>
  (same b (block_lt_of_cell hc)).cell.trans hc
 refine⟨(hR.H.reach hk hm hp hu.2 (fun b hb=>same b (hlt b hb))).append (hH.ren (fun k=>l3 k)),List.nodup_append.2 ⟨hR.nodup,hn,fun b hb c hc e=>by subst e;have:=hlt b hb;have:=hF b hc;omega⟩,fun b hb=>?_,
  fun t v hv=>(hR.env t v hv).reach hk hm hp (jM hu.1 hv),hR.size,hR.defers,⟨hf.os.trans hR.frame.os,hf.tape.trans hR.frame.tape,hf.output.trans hR.frame.output,Nat.le_trans hR.frame.size hf.size,fun b hb hn=>?_⟩,fun l hl hs=>?_,fun l b cap sz hl=>?_⟩
 rcases List.mem_append.1 hb with hb|hb
 exact hR.own b hb
 exact .inl (Nat.le_trans hR.frame.size (hF b hb))
 exact(same b (Nat.lt_of_lt_of_le hb hR.frame.size)).trans (hR.frame.block b hb hn)
 have hl':=fv hi l hl
 rw[aH,oD hl',Option.or_none]at hs
 rw[od hl'];exact hR.keep l hl hs
 by_cases h:l<B0
 rw[od h]at hl
 have:=hR.dom l b cap sz hl
 rw[aH]
 obtain⟨x,hx⟩:=Option.isSome_iff_exists.1 this
 rw[hx];rfl
 obtain⟨k,rfl⟩: ∃k,l=B0+k:=⟨l-B0,by omega⟩
 rw[l3]at hl
 have h1:(lk H' k).isSome=true:=hd k b cap sz hl
 rw[aH]
 have h2:=tq (B0:=B0) (H:=H') (k:=k)
 rw[h1]at h2
 obtain⟨x,hx⟩:=Option.isSome_iff_exists.1 h2
 rw[hx]
 cases lk s.H (B0+k)<;>rfl
theorem Rel0.lent{Γ:Ctx}{m F s a w}(hR:Rel0 Γ m F s a w){f:Nat}{as ds:List A}{vs:List Value}{Q:A→List (Nat×B)→Prop}(hM:MC Γ.P Γ.L f ds [] Q)(hv:VAs s.H as ds)(hA:RAs Γ.L w (Γ.ok F) m as vs)
  {B0:Nat} (hu:s.under B0=true) (hi:bz B0 Γ.ins=true) :
  Calls Γ.P f vs.toArray w (mL fun v w'=> ∃res H',Q res H'∧((du res&&eO H')=true→∃m' F',Rel0 Γ m' F' ⟨s.env,s.H++fP B0 H'⟩ a w'∧RA Γ.L w' (Γ.ok F') m' (res.ren B0) v)):=by
 have hA':=hA.view (m':=fun _=>.nil) (okc:=fun b=>Γ.ok F b∨b∈F) hR.H (fun b h=>.inl h) (fun b h=>.inr h) hv
 refine Calls.mono (hM.2 w (fun _=>.nil) [] (fun b=>Γ.ok F b∨b∈F) vs ((hR.good fun _ h=>h).mono fun b _ hb=>⟨.inl hb,rfl⟩) .nil List.nodup_nil (fun b hb=>by cases hb) (fun _ _ _ _ h=>by cases h) hA') fun e w' he=>?_
 cases e with
 | returned v=>
  obtain⟨res,H',m',F',hQ,h1,h2,h3,h4,h5,h6,h7⟩:=he
  refine⟨res,H',hQ,fun hc=>?_⟩
  simp only[bD]at hc
  have hF: ∀b∈F',w.heap.size≤b:=fun b hb=>(h3 b hb).resolve_right (by simp)
  exact⟨_,_,hR.after hu hi h5 hF h2 (h1.washed hc.2) h7,(h4.washed hc.1).ren (fun k=>l3 k)⟩
 | _=>exact he.elim
theorem Rel0.shown{Γ:Ctx}{m F s a w}(hR:Rel0 Γ m F s a w){f:Nat}{as ds:List A}{vs:List Value}{Q:A→List (Nat×B)→Prop}(hM:MC Γ.P Γ.L f ds [] Q)(hv:VAs [] as ds)(hA:RAs Γ.L w (Γ.ok F) m as vs)
  {B0:Nat} (hu:s.under B0=true) (hi:bz B0 Γ.ins=true) :
  Calls Γ.P f vs.toArray w (mL fun v w'=> ∃res H',Q res H'∧∃m' F',Rel0 Γ m' F' ⟨s.env,s.H++fP B0 H'⟩ a w'∧RA Γ.L w' (Γ.ok F') m' (res.ren B0) v):=by
 have hA':=hA.view (m':=fun _=>.nil) (okc:=Γ.ok F) (RH.nil (m:=m)) (fun b h=>h) (fun b h=>by cases h) hv
 refine Calls.mono (hM.2 w (fun _=>.nil) [] (Γ.ok F) vs (hR.good fun _ h=>h) .nil List.nodup_nil (fun b hb=>by cases hb) (fun _ _ _ _ h=>by cases h) hA') fun e w' he=>?_
 cases e with
 | returned v=>
  obtain⟨res,H',m',F',hQ,h1,h2,h3,h4,h5,h6,h7⟩:=he
  refine⟨res,H',hQ,?_⟩
  have hF: ∀b∈F',w.heap.size≤b:=fun b hb=>(h3 b hb).resolve_right (by simp)
  have hk:Keep w' w' (fun b=>b ∉ F'∧(Γ.ok F b∨w.heap.size≤b∨b∈([]:List Nat))) (Γ.ok (F++F')):=⟨cm _,fun b hb hok=>⟨⟨fun hm=>by
   rcases List.mem_append.1 hm with hm|hm
   ·
    rcases hok.2 with h|h|h
    ·
     exact h.1 hm
    ·
     have:=hR.H.lt b hm;omega
    ·
     cases h
   ·
    exact hok.1 hm,by
    rcases hok.2 with h|h|h
    ·
     exact h.2
    ·
     exact .inr (.inl (Nat.le_trans hR.frame.size h))
    ·
     cases h⟩,rfl⟩⟩
  exact⟨_,_,hR.after hu hi h5 hF h2 (h1.over hk (fun _ _ _ _ _ _ _ _ _ _ h=>h) (fun _ _=>rfl)) h7,(h4.over hk (fun _ _ _ _ _ _ _ _ _ _ h=>h)).ren (fun k=>l3 k)⟩
 | _=>exact he.elim
theorem qh{P:Program}{f:Nat}(h:fJ P f)(args:Array Value)(w:World):(callFunc f args).run P w= .ok (.enter f args) w:=by
 obtain⟨fn,c,hf,hn,hb⟩:=h
 have hn': ¬fn.name= "runtime.NumGoroutine" := by simpa using hn
 simp[callFunc,hf,hn',hb]
theorem eP{P:Program}{o:Oper}{c:Call}{fx:Operand}{f:Nat}{ρ:Operand→Value}{caps:List Value}(h:fJ P f)(hop:o.op= .call c)(hc:c.callee= .value fx)(hf:ρ fx= .func (.func f) #[] caps.toArray)(w:World) :
  (execOp ρ o).run P w= .ok (.enter f (c.args.toList.map ρ++caps).toArray) w:=by
 simp only[execOp,hop,resolve,hc,hf,Deferred.ofValue,Sem.run_bind,Sem.run_pure,Result.andThen_ok,invoke]
 rw[qh h]
 simp
theorem ua{L w ok m}: ∀{caps:List M} {vs:List Value},RMs L w ok m caps vs→RAs L w ok m (caps.map .c) vs
 | _,_,.nil=>.nil
 | _,_,.cons h1 h2=>.cons (.c h1) (ua h2)
theorem RAs.append{L w ok m}: ∀{xs vs},RAs L w ok m xs vs→∀{ys us},RAs L w ok m ys us→RAs L w ok m (xs++ys) (vs++us)
 | _,_,.nil,_,_,h=>h
 | _,_,.cons h1 h2,_,_,h=>.cons h1 (RAs.append h2 h)
section
variable{σ:Sg}{Q:b0}{s:St}{all:Array Oper}{o:Oper}{rest:List Oper}{c:Call}{fx:Operand}{f:Nat}{caps:List M}{as ds:List A}{Q':A→List (Nat×B)→Prop}{B0:Nat}
theorem dL(hσ:SgOk σ){Γ:Ctx}{m F a w}(hR:Rel0 Γ m F s a w)(hL:4096≤Γ.L)(hop:o.op= .call c)(hc:c.callee= .value fx)(hf:ev s fx=some (.c (.fn f caps)))(has:iv s c.args.toList=some as)(hs:Al.Oper.shorts o=true) :
  ∃cs,a.eval fx= .func (.func f) #[] (List.toArray cs)∧RAs Γ.L w (Γ.ok F) m (as++caps.map .c) (c.args.toList.map a.eval++cs):=by
 simp only[Al.Oper.shorts,hop]at hs
 have hs':c.args.toList.all Al.Operand.short=true∧Al.Operand.short fx=true:=by
  simp only[Op.operands,Call.operands,hc]at hs
  rw[List.all_eq_true]at hs
  refine⟨?_,hs fx (by simp)⟩
  rw[List.all_eq_true];intro x hx
  exact hs x (by simp;right;simpa using hx)
 have h1:=hR.ev hL hs'.2 hf
 have h2:=gH hL hR hs'.1 has
 generalize a.eval fx=v at h1
 cases h1 with
 | c h1=>cases h1 with
  | fn h1=>exact⟨_,Z,h2.append (ua h1)⟩
theorem lU(hσ:SgOk σ)(hop:o.op= .call c)(hc:c.callee= .value fx)(hf:ev s fx=some (.c (.fn f caps)))(has:iv s c.args.toList=some as)(hs:Al.Oper.shorts o=true)(hg:o.guard=none)
  (hv:VAs s.H (as++caps.map .c) ds) (hM:MC σ.P σ.L f ds [] Q') (hu:(s.under B0&&bz B0 σ.ins)=true)
  (K: ∀res H',Q' res H'→(du res&&eO H')=true∧∃s',put σ.nt ⟨s.env,s.H++fP B0 H'⟩ o.dst (res.ren B0)=some s'∧AOps σ all Q rest s'):AOps σ all Q (o::rest) s:=fun Γ e a w hR=>by
 subst e
 obtain⟨m,F,hR0⟩:=hR
 simp only[bD]at hu
 obtain⟨cs,h1,h2⟩:=dL hσ hR0 hσ.lo hop hc hf has hs
 refine wpList_plain hg fun K' hK=>?_
 simp only[Oper.wp,eP hM.1 hop hc h1,Oper.upon]
 refine Calls.mono (hR0.lent hM hv h2 hu.1 hu.2) fun e w' he=>?_
 cases e with
 | returned v=>
  obtain⟨res,H',h3,h4⟩:=he
  obtain⟨h5,s',h6,h7⟩:=K res H' h3
  obtain⟨m',F',h8,h9⟩:=h4 h5
  exact hK _ _ (h7 Γ Z _ _ ⟨m',F',h8.put h9 h6⟩)
 | _=>exact he.elim
theorem qM(hσ:SgOk σ)(hop:o.op= .call c)(hc:c.callee= .value fx)(hf:ev s fx=some (.c (.fn f caps)))(has:iv s c.args.toList=some as)(hs:Al.Oper.shorts o=true)(hg:o.guard=none)
  (hv:VAs [] (as++caps.map .c) ds) (hM:MC σ.P σ.L f ds [] Q') (hu:(s.under B0&&bz B0 σ.ins)=true)
  (K: ∀res H',Q' res H'→∃s',put σ.nt ⟨s.env,s.H++fP B0 H'⟩ o.dst (res.ren B0)=some s'∧AOps σ all Q rest s'):AOps σ all Q (o::rest) s:=fun Γ e a w hR=>by
 subst e
 obtain⟨m,F,hR0⟩:=hR
 simp only[bD]at hu
 obtain⟨cs,h1,h2⟩:=dL hσ hR0 hσ.lo hop hc hf has hs
 refine wpList_plain hg fun K' hK=>?_
 simp only[Oper.wp,eP hM.1 hop hc h1,Oper.upon]
 refine Calls.mono (hR0.shown hM hv h2 hu.1 hu.2) fun e w' he=>?_
 cases e with
 | returned v=>
  obtain⟨res,H',h3,m',F',h8,h9⟩:=he
  obtain⟨s',h6,h7⟩:=K res H' h3
  exact hK _ _ (h7 Γ Z _ _ ⟨m',F',h8.put h9 h6⟩)
 | _=>exact he.elim
end
end Go.Al
