/- Joined code: plain Lean, and walked. -/
import Derived.Test.YtdjlfclghdofoaaGreatDoorM
import Derived.Test.YtdjlfclghdofoaaGreatDoorE
import Derived.Laws.StructEq
import Derived.Test.YtdjlfclghdofoaaGreatDoorF
set_option linter.unusedVariables false
set_option linter.unusedSimpArgs false
set_option maxRecDepth 10000
set_option maxHeartbeats 4000000
open Go.Proofs
/- Heights and runs: what T312 says of them, without the law. -/
namespace Go.Al
variable{L:Nat}(h1:4096≤L)(h2:L≤1073741824)
theorem qP{x:In}{c:Cf}(h11:x.op≠11):dM x c∈tg x c.at_:=by
 unfold tg
 rw[if_neg h11]
 by_cases h5:x.op=5
 rw[if_pos h5,←gh (c:=c) h5];exact List.mem_singleton.2 Z
 rw[if_neg h5]
 by_cases h6:x.op=6
 rw[if_pos h6]
 by_cases hp:pM x c 0<0
 rw[←dO h6 hp]
 split
 exact List.mem_cons_self
 split
 rename_i h;rw[h];exact List.mem_singleton.2 Z
 exact List.mem_cons_of_mem _ (List.mem_singleton.2 Z)
 rw[←dP h6 hp]
 split
 exact List.mem_cons_of_mem _ (List.mem_singleton.2 Z)
 split
 exact List.mem_singleton.2 Z
 exact List.mem_cons_self
 rw[if_neg h6,←cE h5 h6];exact List.mem_singleton.2 Z
theorem pP{x:In}{c:Cf}(h:bb x c=0):x.op≠11:=fun e=>by rw[lw e]at h;cases h
structure RI(C:List In)(r:Rn):Prop where
  at_:ln C r.c→R0 C r.c.at_.toNat
  cl:r.cnt.length=C.length
  cnt: ∀k,r.cnt.getD k default>0→R0 C k
structure RJ(C:List In)(h:List Int)(r:Rn):Prop where
  i:ln C r.c
  at_:R0 C r.c.at_.toNat
  st:(r.c.stack.length:Int)=h.getD r.c.at_.toNat default
  out:r.out=0
theorem RJ.low{C:List In}{h:List Int}(hh:HOk C qT h){r:Rn}(j:RJ C h r):b9 (xM C r.c) r.c.stack.length=false:=by
 have h1:=hh.low _ j.at_
 have h2:=dQ (x:=xM C r.c)
 unfold b9
 rw[decide_eq_false (show¬(r.c.stack.length:Int)-(mv (xM C r.c)).1<0 by rw[j.st];have:=h1.1;show¬_-(mv (C.getD r.c.at_.toNat default)).1<0;omega)]
 show(bif _ then _ else _)=false
 rw[decide_eq_false (show¬(r.c.stack.length:Int)-(mv (xM C r.c)).1+(mv (xM C r.c)).2>6 by rw[j.st];have:=h1.2;show¬_-(mv (C.getD r.c.at_.toNat default)).1+(mv (C.getD r.c.at_.toNat default)).2>6;have e:er C h r.c.at_.toNat=h.getD r.c.at_.toNat default-(mv (C.getD r.c.at_.toNat default)).1+(mv (C.getD r.c.at_.toNat default)).2:=rfl;omega)]
 cases decide ((mv (xM C r.c)).2>0)<;>rfl
theorem RJ.next{C:List In}{h:List Int}(hh:HOk C qT h){r:Rn}(j:RJ C h r)(ho:bb (xM C r.c) r.c=0):RJ C h (fM C r):=by
 have hm:=qP (x:=xM C r.c) (c:=r.c) (pP ho)
 have hm2:dM (xM C r.c) r.c∈pg C r.c.at_.toNat:=by
  show _∈tg (C.getD r.c.at_.toNat default) (r.c.at_.toNat:Int)
  rw[Int.toNat_of_nonneg j.i.1];exact hm
 obtain⟨n1,n2,n3⟩:=hh.nx _ j.at_ _ hm2
 have hlo:=mi (j.low hh)
 have h2:=dQ (x:=xM C r.c)
 refine⟨⟨n1,n2⟩,.step j.at_ hm2 n1 n2,?_,j.out⟩
 show((g9 (xM C r.c) r.c).length:Int)=h.getD (dM (xM C r.c) r.c).toNat default
 rw[n3]
 have e:er C h r.c.at_.toNat=h.getD r.c.at_.toNat default-(mv (xM C r.c)).1+(mv (xM C r.c)).2:=rfl
 rw[e,←j.st]
 have hp:(jO (xM C r.c):Int)=(mv (xM C r.c)).1:=by unfold jO;omega
 have ht:(r.c.stack.take (gy (xM C r.c) r.c.stack.length)).length=gy (xM C r.c) r.c.stack.length:=by rw[List.length_take];unfold gy;omega
 unfold g9
 split
 rw[cC,ht,gU];unfold gy;omega
 rw[ht];unfold gy;omega
end Go.Al
/- Joined code, in plain Lean: it does what the first code does and then what the second one does. -/
namespace Go.Al
variable{L:Nat}(h1:4096≤L)(h2:L≤1073741824)
def nr(n:Nat)(x:In):In:=if x.op=11 then⟨5,n⟩else x
def fw(n:Nat)(x:In):In:=if x.op=5∨x.op=6 then⟨x.op,x.a+n⟩else x
def bA(x y:List In):List In:=x.map (nr x.length)++y.map (fw x.length)
def eC(y:List In)(n:Int):Bool:=y.all fun i=>!((decide (i.op=5)||decide (i.op=6))&&decide (n≤i.a))
theorem eW{x y:List In}:(bA x y).length=x.length+y.length:=by simp[bA]
theorem sR{x y:List In}{k:Nat}(h:k<x.length):(bA x y).getD k default=nr x.length (x.getD k default):=by
 rw[aH (by rw[eW];omega),aH h]
 simp[bA,List.getElem_append_left,h]
theorem sQ{x y:List In}{k:Nat}(h:k<y.length):(bA x y).getD (x.length+k) default=fw x.length (y.getD k default):=by
 rw[aH (by rw[eW];omega),aH h]
 simp only[bA]
 rw[List.getElem_append_right (by simp)]
 simp
theorem qW{x y:List In}(hx:bm x=true)(hy:bm y=true):bm (bA x y)=true↔(x.length+y.length≤80∧eC y (80-x.length)=true):=by
 obtain⟨h1,h2,h3⟩:=bO hx
 obtain⟨g1,g2,g3⟩:=bO hy
 have hA:x.length≤79→∀i∈x,aw (nr x.length i)=true:=fun h i hi=>by
  unfold nr
  split
  · unfold aw bU;simp;omega
  · exact h1 i hi
 have hB: ∀i∈y,aw (fw x.length i)=true↔(!((decide (i.op=5)||decide (i.op=6))&&decide (80-(x.length:Int)≤i.a)))=true:=fun i hi=>by
  have hi2:=g1 i hi
  unfold fw
  by_cases hj:i.op=5∨i.op=6
  · rw [if_pos hj]
    have ha:=nW hi2 hj
    have e:aw ⟨i.op,i.a+x.length⟩=bU 0 79 (i.a+x.length):=by
      unfold aw
      rw[if_neg (by show¬(i.op=0∨i.op=4);omega),if_neg (by show¬(i.op=1∨i.op=2);omega),if_pos (by show i.op=5∨i.op=6;exact hj)]
    rw[e]
    have e2:(decide (i.op=5)||decide (i.op=6))=true:=by simpa using hj
    rw[e2]
    simp[bU]
    omega
  · rw[if_neg hj,hi2]
    have e2:(decide (i.op=5)||decide (i.op=6))=false:=by simpa using hj
    rw[e2];simp
 unfold bm eC
 rw[eW,bj]
 simp only[List.all_eq_true]
 constructor
 rintro⟨p1,p2⟩
 simp only[bU,bj,decide_eq_true_eq]at p2
 refine⟨by omega,fun i hi=>(hB i hi).1 (p1 _ ?_)⟩
 exact List.mem_append_right _ (List.mem_map.2 ⟨i,hi,Z⟩)
 rintro⟨p1,p2⟩
 refine⟨fun z hz=>?_,by simp[bU];omega⟩
 rcases List.mem_append.1 hz with hz|hz
 obtain⟨i,hi,rfl⟩:=List.mem_map.1 hz
 exact hA (by omega) i hi
 obtain⟨i,hi,rfl⟩:=List.mem_map.1 hz
 exact(hB i hi).2 (p2 i hi)
def Eqv(r r':Rn):Prop:=r.c=r'.c∧r.ev=r'.ev∧r.out=r'.out
def gV(c:Cf)(k:Int):Cf:=⟨c.vars,c.cells,c.stack,k⟩
section
variable{x y:List In}
theorem ql: ∀{n:Nat} {c:Cf} {ev cnt cnt':List Int} {o:Int},(0≤c.at_)→(∀i∈y,(i.op=5∨i.op=6)→0≤i.a)→
    ∃ k,(aN (bA x y) n ⟨gV c (x.length+c.at_),ev,cnt',o⟩).c=gV (aN y n ⟨c,ev,cnt,o⟩).c k∧(aN (bA x y) n ⟨gV c (x.length+c.at_),ev,cnt',o⟩).ev=(aN y n ⟨c,ev,cnt,o⟩).ev∧
      (aN (bA x y) n ⟨gV c (x.length+c.at_),ev,cnt',o⟩).out=(aN y n ⟨c,ev,cnt,o⟩).out
 | 0,c,ev,cnt,cnt',o,h0,hy=>⟨_,by rw[fC,fC];exact⟨rfl,rfl,rfl⟩⟩
 | n + 1,c,ev,cnt,cnt',o,h0,hy=>by
  by_cases hi:ln y c
  have hk:c.at_.toNat<y.length:=by have:=hi.1;have:=hi.2;omega
  have hi':ln (bA x y) (gV c (x.length+c.at_)):=⟨by show 0≤(x.length:Int)+c.at_;omega,by show(x.length:Int)+c.at_<(bA x y).length;rw[eW];have:=hi.2;omega⟩
  have hx':xM (bA x y) (gV c (x.length+c.at_))=fw x.length (xM y c):=by
   show(bA x y).getD ((x.length:Int)+c.at_).toNat default=_
   rw[show((x.length:Int)+c.at_).toNat=x.length+c.at_.toNat by omega,sQ hk]
  have hmem:xM y c∈y:=by show y.getD c.at_.toNat default∈y;rw[aH hk];exact List.getElem_mem _
  generalize hX:xM y c=i at hx' hmem
  have hmv:mv (fw x.length i)=mv i:=by unfold fw;split<;>rfl
  have hlow:b9 (fw x.length i) c.stack.length=b9 i c.stack.length:=by unfold b9;rw[hmv]
  have hpM: ∀j,pM (fw x.length i) (gV c (x.length+c.at_)) j=pM i c j:=fun j=>by unfold pM gy jO;rw[hmv];rfl
  have hop:(fw x.length i).op=i.op:=by unfold fw;split<;>rfl
  have hna: ¬(i.op=5∨i.op=6)→fw x.length i=i:=fun h=>if_neg h
  have hout:bb (fw x.length i) (gV c (x.length+c.at_))=bb i c:=by
   unfold bb
   simp only[hop,hpM]
   by_cases h4:i.op=4
   rw[hna (by omega)]
   simp only[h4,if_false]
  by_cases hl:b9 i c.stack.length=false
  by_cases h6:bb i c=6
  rw[fB (code:=bA x y) hi' (by rw[hx'];exact hlow.trans hl) (by rw[hx'];exact hout.trans h6),fB (code:=y) hi (by show b9 (xM y c) c.stack.length=false;rw[hX];exact hl) (by show bb (xM y c) c=6;rw[hX];exact h6)]
  exact⟨_,Z,Z,Z⟩
  by_cases hz:bb i c=0
  rw[cD (code:=bA x y) hi' (by rw[hx'];exact hlow.trans hl) (by rw[hx'];exact hout.trans hz),cD (code:=y) hi (by show b9 (xM y c) c.stack.length=false;rw[hX];exact hl) (by show bb (xM y c) c=0;rw[hX];exact hz)]
  have hev:cZ (fw x.length i)=cZ i:=by
   unfold cZ
   rw[hop]
   by_cases h9:i.op=9
   rw[if_pos h9,if_pos h9,hna (by omega)]
   rw[if_neg h9,if_neg h9]
  have hnx:cr (fw x.length i) (gV c (x.length+c.at_))=gV (cr i c) (x.length+(cr i c).at_):=by
   have e1:ei (fw x.length i) (gV c (x.length+c.at_))=ei i c:=by
    unfold ei
    rw[hop,hpM]
    by_cases h2:i.op=2
    rw[if_pos h2,if_pos h2,hna (by omega)];rfl
    rw[if_neg h2,if_neg h2];rfl
   have e2:ej (fw x.length i) (gV c (x.length+c.at_))=ej i c:=by
    unfold ej
    rw[hop,hpM,hpM];rfl
   have e3:fg (fw x.length i) (gV c (x.length+c.at_))=fg i c:=by
    unfold fg
    simp only[hop,hpM]
    by_cases hj:i.op=5∨i.op=6
    rcases hj with hj|hj<;>simp[hj]
    rw[hna hj];rfl
   have e4:g9 (fw x.length i) (gV c (x.length+c.at_))=g9 i c:=by
    unfold g9 gy jO
    rw[hmv,e3];rfl
   have e5:dM (fw x.length i) (gV c (x.length+c.at_))=x.length+dM i c:=by
    unfold dM
    simp only[hop,hpM]
    show(if i.op=5 then(fw x.length i).a else if i.op=6 then(if pM i c 0<0 then(fw x.length i).a else x.length+c.at_+1)else x.length+c.at_+1)=_
    by_cases hj:i.op=5∨i.op=6
    have ea:(fw x.length i).a=i.a+x.length:=by unfold fw;rw[if_pos hj]
    rw[ea]
    split
    omega
    split
    split<;>omega
    omega
    rw[if_neg (by omega),if_neg (by omega),if_neg (by omega),if_neg (by omega)];omega
   unfold cr
   rw[e1,e2,e4,e5];rfl
  have hat:0≤(cr i c).at_:=by
   show 0≤dM i c
   unfold dM
   split
   exact hy i hmem (.inl (by assumption))
   split
   split
   exact hy i hmem (.inr (by assumption))
   omega
   omega
  have ih:=ql (n:=n) (c:=cr i c) (ev:=jP ev (cZ i)) (cnt:=(fM y ⟨c,ev,cnt,o⟩).cnt) (cnt':=(fM (bA x y) ⟨gV c (x.length+c.at_),ev,cnt',o⟩).cnt) (o:=o) hat hy
  have q1:fM (bA x y) ⟨gV c (x.length+c.at_),ev,cnt',o⟩=⟨gV (cr i c) (x.length+(cr i c).at_),jP ev (cZ i),(fM (bA x y) ⟨gV c (x.length+c.at_),ev,cnt',o⟩).cnt,o⟩:=by
   rw[←hnx,←hev,←hx'];rfl
  have q2:fM y ⟨c,ev,cnt,o⟩=⟨cr i c,jP ev (cZ i),(fM y ⟨c,ev,cnt,o⟩).cnt,o⟩:=by
   rw[←hX];rfl
  rw[q1,q2];exact ih
  rw[eD (code:=bA x y) hi' (by rw[hx'];exact hlow.trans hl) (by rw[hx'];exact fun e=>h6 (hout.symm.trans e)) (by rw[hx'];exact fun e=>hz (hout.symm.trans e)),eD (code:=y) hi (by show b9 (xM y c) c.stack.length=false;rw[hX];exact hl) (by show¬bb (xM y c) c=6;rw[hX];exact h6) (by show¬bb (xM y c) c=0;rw[hX];exact hz)]
  refine⟨_,Z,Z,?_⟩
  show bb (xM (bA x y) _) _=bb (xM y c) c
  rw[hx',hX];exact hout
  rw[dW (code:=bA x y) (fun h=>hl (by have:=h.2;rw[hx']at this;exact hlow.symm.trans this)),dW (code:=y) (fun h=>hl (by have:=h.2;have e:xM y c=i:=hX;exact e ▸ this))]
  exact⟨_,Z,Z,Z⟩
  have hi': ¬ln (bA x y) (gV c (x.length+c.at_)):=fun h=>hi ⟨h0,by have:=h.2;rw[eW]at this;have h9:(x.length:Int)+c.at_<((x.length+y.length:Nat):Int):=this;omega⟩
  rw[dW (code:=bA x y) (fun h=>hi' h.1),dW (code:=y) (fun h=>hi h.1)]
  exact⟨_,Z,Z,Z⟩
end
end Go.Al
/- Joined code, in plain Lean: runs of the first code, and both together. -/
namespace Go.Al
variable{L:Nat}(h1:4096≤L)(h2:L≤1073741824)
theorem pC{xs:List Int}: ∀{k:Nat} {v:Int},k<xs.length→(xs.set k v).sum=xs.sum-xs.getD k default+v:=by
 induction xs with
 | nil=>intro k v h;cases h
 | cons a r ih=>
  intro k v h
  cases k with
  | zero=>simp[List.sum_cons];omega
  | succ k=>
   have:=ih (k:=k) (v:=v) (by simpa using h)
   simp only[List.set_cons_succ,List.sum_cons,this,List.getD_cons_succ];omega
theorem oN{ev:List Int}:jP ev (-1)=ev:=if_neg (by decide)
section
variable{x y:List In}{h:List Int}
theorem nI (hh : HOk x qT h): ∀{n:Nat} {r:Rn} {cnt':List Int},RJ x h r→r.cnt.length=x.length→
    (∃ m,m≤n∧(aN x n r).out=0∧ln x (aN x n r).c∧(x.getD (aN x n r).c.at_.toNat default).op=11∧((aN x n r).c.stack.length:Int)=h.getD (aN x n r).c.at_.toNat default∧(aN x n r).cnt.sum=r.cnt.sum+m∧
      ∀k,∃c2,aN (bA x y) (m+1+k) ⟨r.c,r.ev,cnt',0⟩=aN (bA x y) k ⟨gV (aN x n r).c x.length,(aN x n r).ev,c2,0⟩)∨
    ((aN x n r).out≠0∧Eqv (aN (bA x y) n ⟨r.c,r.ev,cnt',r.out⟩) (aN x n r))
  | 0,r,cnt',j,hc=>.inr ⟨by rw[fC];show(1:Int)≠0;decide,by rw[fC,fC];exact⟨rfl,rfl,rfl⟩⟩
  | n + 1, r, cnt',j,hc=>by
    have hl:=j.low hh
    have hi:=j.i
    have hk:r.c.at_.toNat<x.length:=by have:=hi.1;have:=hi.2;omega
    have hi':ln (bA x y) r.c:=⟨hi.1,by have:=hi.2;rw[eW];show r.c.at_<((x.length+y.length:Nat):Int);omega⟩
    have hx':xM (bA x y) r.c=nr x.length (xM x r.c):=sR hk
    by_cases h11:(xM x r.c).op=11
    · have h6:bb (xM x r.c) r.c=6:=if_pos h11
      left
      rw[fB hi hl h6]
      refine⟨0,fK _,j.out,hi,h11,j.st,by omega,fun k=>?_⟩
      have hjx:xM (bA x y) r.c=⟨5,x.length⟩:=by rw[hx'];exact if_pos h11
      have hlow:b9 (xM (bA x y) r.c) r.c.stack.length=false:=by
        rw[hjx]
        unfold b9
        have e:mv (⟨5,x.length⟩:In)=(0,0):=rfl
        rw[e]
        rw[decide_eq_false (show¬((r.c.stack.length:Int)-(0:Int)<0) by omega)]
        rfl
      have ho:bb (xM (bA x y) r.c) r.c=0:=by rw[hjx];rfl
      rw[show 0+1+k=k+1 by omega,cD (code:=bA x y) (r:=⟨r.c,r.ev,cnt',0⟩) hi' hlow ho]
      refine⟨(fM (bA x y) ⟨r.c,r.ev,cnt',0⟩).cnt,congrArg (aN (bA x y) k) ?_⟩
      have hn:cr (xM (bA x y) r.c) r.c=gV r.c x.length:=by
        rw[hjx]
        show(⟨r.c.vars,r.c.cells,g9 ⟨5,x.length⟩ r.c,(x.length:Int)⟩:Cf)=_
        have e:g9 ⟨5,x.length⟩ r.c=r.c.stack:=by
          show(if(0:Int)<0 then _ else r.c.stack.take (gy ⟨5,x.length⟩ r.c.stack.length))=_
          rw[if_neg (by decide)]
          exact List.take_length
        rw[e];rfl
      show(⟨cr (xM (bA x y) r.c) r.c,jP r.ev (cZ (xM (bA x y) r.c)),(fM (bA x y) ⟨r.c,r.ev,cnt',0⟩).cnt,0⟩:Rn)=_
      rw[hn,show cZ (xM (bA x y) r.c)= -1 by rw[hjx];rfl,oN]
    · have hxx : xM (bA x y) r.c=xM x r.c:=by rw[hx'];exact if_neg h11
      have hl':b9 (xM (bA x y) r.c) r.c.stack.length=false:=by rw[hxx];exact hl
      by_cases h0:bb (xM x r.c) r.c=0
      · rw [cD hi hl h0]
        have ho':bb (xM (bA x y) r.c) r.c=0:=by rw[hxx];exact h0
        have hcs:(fM x r).cnt.sum=r.cnt.sum+1:=by
          show(r.cnt.set r.c.at_.toNat (r.cnt.getD r.c.at_.toNat default+1)).sum=_
          rw[pC (by rw[hc];exact hk)];omega
        have q1: ∀o,fM (bA x y) ⟨r.c,r.ev,cnt',o⟩=⟨(fM x r).c,(fM x r).ev,(fM (bA x y) ⟨r.c,r.ev,cnt',o⟩).cnt,o⟩:=fun o=>by
          show(⟨cr (xM (bA x y) r.c) r.c,jP r.ev (cZ (xM (bA x y) r.c)),_,o⟩:Rn)=⟨cr (xM x r.c) r.c,jP r.ev (cZ (xM x r.c)),_,o⟩
          rw[hxx];rfl
        have hcn:(fM x r).cnt.length=x.length:=by show(r.cnt.set _ _).length=_;rw[List.length_set,hc]
        rcases nI hh (n:=n) (r:=fM x r) (cnt':=(fM (bA x y) ⟨r.c,r.ev,cnt',r.out⟩).cnt) (j.next hh h0) hcn with⟨m,m1,m2,m3,m4,m5,m6,m7⟩|⟨e1,e2⟩
        · left
          refine⟨m+1,by omega,m2,m3,m4,m5,by rw[m6,hcs];omega,fun k=>?_⟩
          obtain⟨c2,z2⟩:=m7 k
          refine⟨c2,?_⟩
          rw[show m+1+1+k=(m+1+k)+1 by omega,cD (code:=bA x y) (r:=⟨r.c,r.ev,cnt',0⟩) hi' hl' ho',q1,←z2]
          rw[j.out]
        · right
          refine⟨e1,?_⟩
          rw[cD (code:=bA x y) (r:=⟨r.c,r.ev,cnt',r.out⟩) hi' hl' ho',q1]
          exact e2
      · have h6 : bb (xM x r.c) r.c≠6:=fun e=>by
          have : (xM x r.c).op=11:=by
            unfold bb at e
            split at e
            · assumption
            all_goals
              exfalso
              revert e
              repeat' split
              all_goals decide
          exact h11 this
        right
        rw[eD hi hl h6 h0,eD (code:=bA x y) (r:=⟨r.c,r.ev,cnt',r.out⟩) hi' hl' (by rw[hxx];exact h6) (by rw[hxx];exact h0)]
        refine⟨h0,Z,Z,?_⟩
        show bb (xM (bA x y) r.c) r.c=_
        rw[hxx]
theorem n6: ∀{n:Nat} {c:Cf} {p ev cnt cnt':List Int} {o:Int},(aN y n ⟨c,p++ev,cnt,o⟩).ev=p++(aN y n ⟨c,ev,cnt',o⟩).ev∧(aN y n ⟨c,p++ev,cnt,o⟩).c=(aN y n ⟨c,ev,cnt',o⟩).c∧(aN y n ⟨c,p++ev,cnt,o⟩).out=(aN y n ⟨c,ev,cnt',o⟩).out
 | 0,c,p,ev,cnt,cnt',o=>⟨rfl,rfl,rfl⟩
 | n + 1,c,p,ev,cnt,cnt',o=>by
  by_cases hi:ln y c∧b9 (xM y c) c.stack.length=false
  by_cases h0:bb (xM y c) c=0
  rw[cD (code:=y) (r:=⟨c,p++ev,cnt,o⟩) hi.1 hi.2 h0,cD (code:=y) (r:=⟨c,ev,cnt',o⟩) hi.1 hi.2 h0]
  have e:jP (p++ev) (cZ (xM y c))=p++jP ev (cZ (xM y c)):=by
   unfold jP;split
   rw[dD]
   rfl
  have q1:fM y ⟨c,p++ev,cnt,o⟩=⟨cr (xM y c) c,p++jP ev (cZ (xM y c)),(fM y ⟨c,p++ev,cnt,o⟩).cnt,o⟩:=by
   rw[←e];rfl
  rw[q1]
  exact n6
  by_cases h6:bb (xM y c) c=6
  rw[fB (code:=y) (r:=⟨c,p++ev,cnt,o⟩) hi.1 hi.2 h6,fB (code:=y) (r:=⟨c,ev,cnt',o⟩) hi.1 hi.2 h6];exact⟨rfl,rfl,rfl⟩
  rw[eD (code:=y) (r:=⟨c,p++ev,cnt,o⟩) hi.1 hi.2 h6 h0,eD (code:=y) (r:=⟨c,ev,cnt',o⟩) hi.1 hi.2 h6 h0];exact⟨rfl,rfl,rfl⟩
  rw[dW (code:=y) (r:=⟨c,p++ev,cnt,o⟩) hi,dW (code:=y) (r:=⟨c,ev,cnt',o⟩) hi];exact⟨rfl,rfl,rfl⟩
abbrev kv(r:Rn):Sx:=⟨r.c.vars,r.c.cells⟩
theorem mX(hh:HOk x qT h)(hx:0<x.length){s:Sx}{n:Nat}(ho:(aN x n (ch x s)).out≠0) :
    kv (aN (bA x y) n (ch (bA x y) s))=kv (aN x n (ch x s))∧(aN (bA x y) n (ch (bA x y) s)).ev=(aN x n (ch x s)).ev∧(aN (bA x y) n (ch (bA x y) s)).out=(aN x n (ch x s)).out:=by
 have j0:RJ x h (ch x s):=⟨⟨Int.le_refl 0,by show(0:Int)<x.length;omega⟩,.start (z:=0) (by simp) (by decide) (by omega),by show((0:Nat):Int)=h.getD 0 default;rw[hh.zero];rfl,rfl⟩
 rcases nI hh (y:=y) (n:=n) (cnt':=List.replicate (bA x y).length 0) j0 (by simp[ch])with⟨m,_,m2,_⟩|⟨_,e1,e2,e3⟩
 exact absurd m2 ho
 refine⟨?_,e2,e3⟩
 show(⟨(aN (bA x y) n ⟨(ch x s).c,(ch x s).ev,List.replicate (bA x y).length 0,0⟩).c.vars,_⟩:Sx)=_
 rw[show(aN (bA x y) n (ch (bA x y) s)).c=(aN x n (ch x s)).c from e1,show(aN (bA x y) n ⟨(ch x s).c,(ch x s).ev,List.replicate (bA x y).length 0,0⟩).c=(aN x n (ch x s)).c from e1]
theorem pV(hh:HOk x qT h)(hx:0<x.length)(hy: ∀i∈y,(i.op=5∨i.op=6)→0≤i.a){s:Sx}{n k:Nat}(ho:(aN x n (ch x s)).out=0)(hz: ∀i,i<x.length→(x.getD i default).op=11→h.getD i default≤0) :
    ∃ m : Nat,m≤n∧(aN x n (ch x s)).cnt.sum=m∧
      kv (aN (bA x y) (m+1+k) (ch (bA x y) s))=kv (aN y k (ch y (kv (aN x n (ch x s)))))∧(aN (bA x y) (m+1+k) (ch (bA x y) s)).ev=(aN x n (ch x s)).ev++(aN y k (ch y (kv (aN x n (ch x s))))).ev∧
      (aN (bA x y) (m+1+k) (ch (bA x y) s)).out=(aN y k (ch y (kv (aN x n (ch x s))))).out:=by
 have j0:RJ x h (ch x s):=⟨⟨Int.le_refl 0,by show(0:Int)<x.length;omega⟩,.start (z:=0) (by simp) (by decide) (by omega),by show((0:Nat):Int)=h.getD 0 default;rw[hh.zero];rfl,rfl⟩
 rcases nI hh (y:=y) (n:=n) (cnt':=List.replicate (bA x y).length 0) j0 (by simp[ch])with⟨m,m1,m2,m3,m4,m5,m6,m7⟩|⟨e1,_⟩
 generalize aN x n (ch x s)=R at m2 m3 m4 m5 m6 m7 ⊢
 have hk:R.c.at_.toNat<x.length:=by have:=m3.1;have:=m3.2;omega
 have hst:R.c.stack=[]:=List.eq_nil_of_length_eq_zero (by have:=hz _ hk m4;omega)
 obtain⟨c2,z2⟩:=m7 k
 refine⟨m,m1,by rw[m6];show(List.replicate x.length (0:Int)).sum+_=_;simp,?_⟩
 have z2:aN (bA x y) (m+1+k) (ch (bA x y) s)=aN (bA x y) k ⟨gV R.c x.length,R.ev,c2,0⟩:=z2
 rw[z2]
 have e0:gV R.c x.length=gV (⟨R.c.vars,R.c.cells,[],0⟩:Cf) ((x.length:Int)+(0:Int)):=by
  show(⟨R.c.vars,R.c.cells,R.c.stack,(x.length:Int)⟩:Cf)=⟨R.c.vars,R.c.cells,[],_⟩
  rw[hst,Int.add_zero]
 obtain⟨q,b1,b2,b3⟩:=ql (x:=x) (y:=y) (n:=k) (c:=(⟨R.c.vars,R.c.cells,[],0⟩:Cf)) (ev:=R.ev) (cnt:=List.replicate y.length 0) (cnt':=c2) (o:=0) (Int.le_refl 0) hy
 rw[e0,show(⟨R.c.vars,R.c.cells,[],0⟩:Cf).at_=0 from Z]at *
 obtain⟨p1,p2,p3⟩:=n6 (y:=y) (n:=k) (c:=(⟨R.c.vars,R.c.cells,[],0⟩:Cf)) (p:=R.ev) (ev:=[]) (cnt:=List.replicate y.length 0) (cnt':=List.replicate y.length 0) (o:=0)
 rw[List.append_nil]at p1 p2 p3
 have e9:ch y (kv R)=⟨⟨R.c.vars,R.c.cells,[],0⟩,[],List.replicate y.length 0,0⟩:=rfl
 rw[e9]
 refine⟨?_,b2.trans p1,b3.trans p3⟩
 unfold kv
 rw[b1,p2];rfl
 exact absurd ho e1
end
end Go.Al
/- Code is read back from its text: plain Lean. -/
namespace Go.Al
variable{L:Nat}(h1:4096≤L)(h2:L≤1073741824)
open Go.Lib Go.Proofs
def ey(c:List In):bQ:=ct 10 (c.map et)
theorem oc{o:Int}(h0:0≤o)(h1:o≤11):(10:UInt8) ∉ mQ o:=fZ (P:=fun o=>(10:UInt8) ∉ mQ o) (by decide) h0 h1
theorem pW{n:Int}:(10:UInt8) ∉ itoa n:=by
 intro h
 have key: ∀m:Nat,(10:UInt8) ∉ decDigits m:=fun m hm=>by
  have:=fq m _ hm
  revert this;decide
 unfold itoa at h
 split at h
 rcases List.mem_cons.1 h with h|h
 revert h;decide
 exact key _ h
 exact key _ h
theorem qV{x:In}(h:aw x=true):(10:UInt8) ∉ et x:=by
 obtain⟨⟨h0,h1⟩,_,_⟩:=f5 h
 unfold et
 split
 intro hh
 rcases List.mem_append.1 hh with hh|hh
 rcases List.mem_append.1 hh with hh|hh
 exact oc h0 h1 hh
 revert hh;decide
 exact pW hh
 exact oc h0 h1
theorem gK: ∀{ps:List bQ},ct 10 ps=[]∨(ct 10 ps).getLast? = some 10
 | []=>.inl Z
 | [p]=>.inr (by simp[ct])
 | p::q::r=>by
  right
  rcases gK (ps:=q::r)with h|h
  rw[ct]at h;simp at h
  rw[ct,List.getLast?_append,List.getLast?_cons,h];rfl
theorem qb{c:List In}: ∀(h: ∀x∈c,aw x=true),∀p∈c.map et,(10:UInt8) ∉ p:=fun h p hp=>by
 obtain⟨x,hx,rfl⟩:=List.mem_map.1 hp
 exact qV (h x hx)
theorem gn{c:List In}(h:bm c=true):(ey c).length≤1440:=by
 obtain⟨h1,h2,h3⟩:=bO h
 have:=jE (c:=10) (B:=17) (ls:=c.map et) fun l hl=>by
  obtain⟨x,hx,rfl⟩:=List.mem_map.1 hl
  exact jY (h1 x hx)
 rw[cV]at this
 unfold ey
 omega
theorem ox{c:List In}(h:bm c=true): ¬oY (ey c):=by
 have h1:=gn h
 unfold oY
 rintro(h2|⟨h2,h3⟩)
 omega
 rcases gK (ps:=c.map et)with h4|h4
 exact h2 h4
 exact h3 h4
theorem mS{c:List In}(h:bm c=true):(kr 10 (ey c)).dropLast=c.map et:=by
 unfold ey
 rw[kN (qb (bO h).1),List.dropLast_concat]
theorem tQ{c:List In}(h:bm c=true):tY (ey c)= .tup [.c (.d (strs (c.map et))),eB true]:=by
 show(if oY (ey c)then _ else _)=_
 rw[if_neg (ox h),mS h]
theorem qh {σ:Sg}{s:St}{o:Oper}{x y:Operand}{t yt:Nat}(hσ:SgOk σ){a b c d:Int}{r:Bool}(ho:o.op= .binOp .neq t x y yt)(hs1:Al.Operand.short x=true)(hs2:Al.Operand.short y=true)(hx:ev s x=some (.agg [.d (.int .i64 a),.d (.int .i64 b)]))(hy:ev s y=some (.agg [.d (.int .i64 c),.d (.int .i64 d)]))
    (hE: ∀w,(eqGuard .neq t x y (.agg #[.int .i64 a,.int .i64 b]) (.agg #[.int .i64 c,.int .i64 d])).run σ.P w= .ok () w∧(binOp .neq t (.agg #[.int .i64 a,.int .i64 b]) (.agg #[.int .i64 c,.int .i64 d])).run σ.P w= .ok (.bool r) w):Val σ s o (eB r):=fun Γ eq m F e w hR=>by
 subst eq
 have hp:=hR.ev hσ.lo hs1 hx
 have hq:=hR.ev hσ.lo hs2 hy
 obtain⟨h1,h2⟩:=hE w
 generalize he:e.eval x=p at hp
 generalize hf:e.eval y=q at hq
 refine⟨.bool r,?_,.c (.d .bool)⟩
 have key : ∀{n k:Int} {v:Value},RA Γ.L w (Γ.ok F) m (.agg [.d (.int .i64 n),.d (.int .i64 k)]) v→v= .agg #[.int .i64 n,.int .i64 k]:=fun h=>by
  cases h with
  | agg h => cases h with
    | cons a1 h=>cases h with
      | cons a2 h=>
        cases h
        cases a1 with
        | d a1=>cases a1;cases a2 with
          | d a2=>cases a2;rfl
 rw[key hp]at he
 rw[key hq]at hf
 simp[execOp,ho,he,hf,h1,h2]
theorem eqI{x y:Operand}{a b:Int}(w:World):(eqGuard .neq 45 x y (.agg #[.int .i64 a,.int .i64 b]) (.agg #[.int .i64 a,.int .i64 b])).run Tryz.prog w= .ok () w∧(binOp .neq 45 (.agg #[.int .i64 a,.int .i64 b]) (.agg #[.int .i64 a,.int .i64 b])).run Tryz.prog w= .ok (.bool false) w:=by
 refine⟨run_eqGuard_agg w _ _ _ _ _ _ Tryz.eqGuardType45,?_⟩
 rw[run_neq_struct,run_equalIn_agg w 9999 45 _ _ Tryz.underlying45 Tryz.stoodInHeld45]
 simp[go_sem,Tryz.underlying45]
theorem pS{c:List In}{n:Int}{i:Nat}(hi:i<c.length)(h:(bif (bif decide ((c.getD i default).op=5)then true else decide ((c.getD i default).op=6))then decide (n≤(c.getD i default).a)else false)=true):eC c n=false:=by
 rw[←Bool.not_eq_true]
 intro h2
 have h3:=List.all_eq_true.1 h2 _ (jU hi)
 revert h h3
 cases decide ((c.getD i default).op=5)<;>cases decide ((c.getD i default).op=6)<;>cases decide (n≤(c.getD i default).a)<;>decide
theorem pR{c:List In}{n:Int}{i:Nat}(hi:i<c.length)(h0:eC (c.take i) n=true)(h:(bif (bif decide ((c.getD i default).op=5)then true else decide ((c.getD i default).op=6))then decide (n≤(c.getD i default).a)else false)=false):eC (c.take (i+1)) n=true:=by
 unfold eC at h0 ⊢
 rw[List.take_succ_eq_append_getElem hi,List.all_append,h0,Bool.true_and,List.all_cons,List.all_nil,Bool.and_true,←aH hi]
 revert h
 cases decide ((c.getD i default).op=5)<;>cases decide ((c.getD i default).op=6)<;>cases decide (n≤(c.getD i default).a)<;>decide
theorem oy{xs:List Int}{i:Nat}(h:i<xs.length):(xs.take (i+1)).sum=(xs.take i).sum+xs.getD i default:=by
 rw[List.take_succ_eq_append_getElem h,List.sum_append,aH h];simp
theorem sT{n:Nat}{x:In}(h:x.op=11):nr n x=⟨5,n⟩:=if_pos h
theorem sS{n:Nat}{x:In}(h: ¬x.op=11):nr n x=x:=if_neg h
theorem qq{x:In}(h:ii x=true):x.op=5∨x.op=6:=by unfold ii at h;simpa using h
theorem sU{x:In}(h:ii x=false): ¬(x.op=5∨x.op=6):=by unfold ii at h;simpa using h
variable{xs:List Int}
theorem mn{ys:List Int}:MQ h1 h2 15 [.c (.d (fP xs)),.c (.d (fP ys))] [] (Plain (eB (decide (xs=ys)))):=by
 refine aF ?_ Z
 refine jB 26 h1 h2 Tryz.func15 Z fun O hF=>?_
 have hl:xs.length≤L:=by simpa[As.fact,A.fact,M.fact,D.fact,Ds.fact]using hF.1.1
 have hl2:ys.length≤L:=by simpa[As.fact,A.fact,M.fact,D.fact,Ds.fact]using hF.2.1.1
 refine ac (js Z (jn (aj (ac (js Z ?_)))))
 first|refine cW Z ?_|refine js Z ?_|refine bP Z Z ?_
 refine js Z ?_
 first|refine cW Z ?_|refine js Z ?_|refine bP Z Z ?_
 refine js Z (jn (ab Z (fun z10=>?_) (fun z10=>?_)))
 try simp only[bJ]at z10
 refine ac (js Z (jr ?_))
 refine aO Z ?_
 rw[decide_eq_false (fun e=>by subst e;simp at z10)]
 try simp only[bJ]at z10
 refine al (aj (ac (js Z (jn (au (aK (X:=Nat) (fun i=>⟨[(0,.c (.d (fP xs))),(1,.c (.d (fP ys))),(5,eI i)],[]⟩) (fun i=>i≤xs.length∧∀j,j<i→xs[j]? = ys[j]?) (fun i=>xs.length-i) 0 (Ent.env ⟨Z,Z,Z,aD⟩) ?_ (fun i hi=>?_)))))))
 exact⟨fK _,fun j hj=>absurd hj (Nat.not_lt_zero j)⟩
 refine aj (ac (aa Z ?_))
 first|refine cW Z ?_|refine js Z ?_|refine bP Z Z ?_
 refine js Z (jn (ab Z (fun z14=>?_) (fun z14=>?_)))
 try simp only[bJ]at z14
 refine al (aj (au (aj (hZ [_,_,_,_,_,_,_,_,_] [aZ,aZ,av [0,1],av [0,1,2],aZ,aZ,av [4,5],av [4,5,6],av (rg 0 8)] [] [_] (kc Z (kc Z (ai (vD Z) (kc Z (kc Z (kc Z (ai (vD Z) (kc Z (kc Z trivial))))))))) ?_))))
 refine ab Z (fun z25=>?_) (fun z25=>?_)
 try simp only[bJ]at z25
 refine ac (js Z (jr ?_))
 refine aO Z ?_
 rw[decide_eq_false (fun e=>by subst e;simp at z25)]
 try simp only[bJ]at z25
 refine al (ag (js Z ?_))
 first|refine ji Z ?_|refine bP Z Z ?_
 refine js Z (jn ?_)
 refine⟨i+1,Ent.env ⟨Z,Z,Z,aD⟩,⟨by omega,fun j hj=>?_⟩,by omega⟩
 rcases Nat.lt_or_ge j i with h|h
 exact hi.2 j h
 obtain rfl:j=i:=by omega
 rw[Int.toNat_natCast,aH (by omega),aH (by omega)]at z25
 rw[List.getElem?_eq_getElem (by omega),List.getElem?_eq_getElem (by omega),z25]
 try simp only[bJ]at z14
 refine bL (ac (js Z (jr ?_)))
 refine aO Z ?_
 have e:xs=ys:=List.ext_getElem? fun j=>by
  rcases Nat.lt_or_ge j i with h|h
  ·
   exact hi.2 j h
  ·
   rw[List.getElem?_eq_none (by omega),List.getElem?_eq_none (by omega)]
 rw[decide_eq_true e]
variable{c:List In}
theorem kB:MQ h1 h2 10 [aJ c,aJ c] [] (Plain (eB true)):=by
 refine aF ?_ Z
 refine jB 26 h1 h2 Tryz.func10 Z fun O hF=>?_
 have hl:c.length≤L:=by simpa[As.fact,A.fact,M.fact,D.fact,Ds.fact]using hF.1.1
 refine ac (js Z (jn (aj (ac (js Z ?_)))))
 first|refine cW Z ?_|refine js Z ?_|refine bP Z Z ?_
 refine js Z ?_
 first|refine cW Z ?_|refine js Z ?_|refine bP Z Z ?_
 refine js Z (jf [10,4,0,1] Z (jn (ab Z (fun z10=>?_) (fun z10=>?_))))
 exact absurd z10 (by simp)
 refine al (aj (ac (js Z (jn (au (aK (X:=Nat) (fun i=>⟨[(0,aJ c),(1,aJ c),(5,eI i)],[]⟩) (fun i=>i≤c.length) (fun i=>c.length-i) 0 (Ent.to ⟨Z,Z,Z,aD⟩ Z) ?_ (fun i hi=>?_)))))))
 exact fK _
 refine aj (ac (aa Z ?_))
 first|refine cW Z ?_|refine js Z ?_|refine bP Z Z ?_
 refine js Z (jf [14,0,1,5] Z (jn (ab Z (fun z14=>?_) (fun z14=>?_))))
 refine al (aj (au (aj ?_)))
 have hil:i<c.length:=by have:=aB z14;omega
 refine hZ [_,_,_,_,_,_,_,_,_] [aZ,aZ,av [0,1],av [0,1,2],aZ,aZ,av [4,5],av [4,5,6],av (rg 0 8)] [] [_] (kc Z (kc Z (ai (vN Z) (kc Z (kc Z (kc Z (ai (vN Z) (kc Z (ai (qh O Z Z Z Z Z eqI) trivial))))))))) ?_
 refine jw [25,14,0,1,5] Z (dK ?_)
 refine ab Z (fun z25=>?_) (fun z25=>?_)
 exact absurd z25 (by decide)
 refine al (ag (js Z ?_))
 first|refine ji Z ?_|refine bP Z Z ?_
 refine js Z (jf [5,25,14,0,1] Z (jn ?_))
 refine⟨i+1,Ent.to ⟨Z,Z,Z,aD⟩ Z,by omega,by omega⟩
 refine bL (ac (js Z (jr ?_)))
 refine aO Z ?_
 rfl
theorem s8{n:Int}:MQ h1 h2 13 [aJ c,eI n] [] (Plain (eB (eC c n))):=by
 refine aF ?_ Z
 refine jB 35 h1 h2 Tryz.func13 Z fun O hF=>?_
 have hl:c.length≤L:=by simpa[As.fact,A.fact,M.fact,D.fact,Ds.fact]using hF.1.1
 refine ac (js Z (jn (aj (ac (js Z (jn (au (aK (X:=Nat) (fun i=>⟨[(0,aJ c),(1,eI n),(5,eI i)],[]⟩) (fun i=>i≤c.length∧eC (c.take i) n=true) (fun i=>c.length-i) 0 (Ent.to ⟨Z,Z,Z,aD⟩ Z) ?_ (fun i hi=>?_)))))))))
 exact⟨fK _,Z⟩
 refine aj (ac (aa Z ?_))
 first|refine cW Z ?_|refine js Z ?_|refine bP Z Z ?_
 refine js Z (jf [9,0,1,5] Z (jn (ab Z (fun z9=>?_) (fun z9=>?_))))
 refine al (aj (au (ac ?_)))
 have hil:i<c.length:=by have:=aB z9;omega
 refine aa Z ?_
 first|refine tW Z Z ?_|refine rI Z Z ?_|refine bP Z Z ?_
 refine aE Z (jf [18,9,0,1,5] Z (bz 6 Z Z Z (fun hx=>ba hx Z (ba hx Z (dz hx (vN Z) Z (ba hx Z (ba hx Z (ba hx Z (AN.nil))))))) Z Z ?_))
 first|refine ae (bq O Z Z Z Z Z) Z ?_|refine ae (Val.pickB O Z Z Z Z Z) Z ?_|refine ae (aU O Z Z Z Z Z) Z ?_
 refine js Z (jf [26,9,0,1,5] Z (bz 7 Z Z Z (fun hx=>ba hx Z (ba hx Z (dz hx (vN Z) Z (ba hx Z (ba hx Z (ba hx Z (ba hx Z (AN.nil)))))))) Z Z ?_))
 first|refine ae (aU O Z Z Z Z Z) Z ?_|refine ae (bq O Z Z Z Z Z) Z ?_|refine ae (Val.pickB O Z Z Z Z Z) Z ?_
 refine jf [34,9,0,1,5] Z (jn (ab Z (fun z34=>?_) (fun z34=>?_)))
 refine ac (js Z (jr ?_))
 refine aO Z ?_
 rw[pS hil z34]
 refine al (ag (js Z ?_))
 first|refine ji Z ?_|refine bP Z Z ?_
 refine js Z (jf [5,34,9,0,1] Z (jn ?_))
 refine⟨i+1,Ent.to ⟨Z,Z,Z,aD⟩ Z,⟨by omega,pR hil hi.2 z34⟩,by omega⟩
 refine bL (ac (js Z (jr ?_)))
 refine aO Z ?_
 have hin:i=c.length:=by have:=bo z9;omega
 have h9:=hi.2
 rw[hin,List.take_length]at h9
 rw[h9]
theorem qv{s:Sx}:MQ h1 h2 16 [em s,em s] [] (Plain (eB true)):=by
 refine MC.data (jB 17 h1 h2 Tryz.func16 Z fun O hF=>?_)
 refine ac (jx Z (ax ?_))
 refine az (Ent.freeze 2 (e':=[(2,_),(0,_),(1,_)]) Z (.cons Z (.c (.box (cs:=Sx.data s) Z (aQ Z))) (fe [0,1] Z)) (.skip .nil)) ?_
 refine ax ?_
 refine jf [2,1] Z (jx Z (ax ?_))
 refine az (Ent.freeze 3 (e':=[(3,_),(2,_),(1,_)]) Z (.cons Z (.c (.box (cs:=Sx.data s) Z (aQ Z))) (fe [2,1] Z)) (.skip .nil)) ?_
 refine ax ?_
 refine js Z (bc (aE Z (jf [8,6,4,3,2,1] Z (aS Z ((mn (xs:=s.vars) (ys:=s.vars) h1 h2).plain (u:=eB true) (congrArg eB (decide_eq_true Z))) 10000 Z (js Z (jf [10,4,3,2,1] Z (br Z (js Z (jf [11,10,4,3,1] Z (br Z (js Z (jf [12,10,4,3,1] Z (br Z (js Z (jf [13,12,10,4,1] Z (br Z (js Z (jf [14,12,10,4,1] Z (br Z (aS Z ((mn (xs:=s.cells) (ys:=s.cells) h1 h2).plain (u:=eB true) (congrArg eB (decide_eq_true Z))) 16000 Z (ae (bp O Z Z Z Z Z) Z (js Z (jf [4,1] Z (jr ?_))))))))))))))))))))))))
 refine aO Z ?_
 exact .v (.c .d)
theorem s7(hs: ∀i,i≤xs.length→0≤(xs.take i).sum∧(xs.take i).sum≤100000):MQ h1 h2 18 [bt xs] [] (Plain (eI xs.sum)):=by
 refine aF ?_ Z
 refine jB 18 h1 h2 Tryz.func18 Z fun O hF=>?_
 have hl:xs.length≤L:=by simpa[As.fact,A.fact,M.fact,D.fact,Ds.fact]using hF.1.1
 refine ac (js Z (bc (js Z (jn (aj (ac (js Z (jn (au (aK (X:=Nat) (fun i=>⟨[(0,bt xs),(3,eI (xs.take i).sum),(4,eI i)],[]⟩) (fun i=>i≤xs.length) (fun i=>xs.length-i) 0 (Ent.to ⟨Z,Z,Z,aD⟩ Z) ?_ (fun i hi=>?_)))))))))))
 exact fK _
 refine aj (ac (aa Z ?_))
 first|refine cW Z ?_|refine js Z ?_|refine bP Z Z ?_
 refine js Z (jf [8,0,3,4] Z (jn (ab Z (fun z8=>?_) (fun z8=>?_))))
 refine al (aj (au (ag ?_)))
 have hil:i<xs.length:=by have:=aB z8;omega
 have e9:=oy hil
 have b1:=hs i (by omega)
 have b2:=hs (i+1) (by omega)
 refine bi Z ?_
 first|refine tW Z Z ?_|refine rI Z Z ?_|refine bP Z Z ?_
 refine js Z (ae (ah O Z Z (by omega) (by omega)) Z (js Z (jf [3,8,0,4] Z (jn (ag (js Z ?_))))))
 first|refine ji Z ?_|refine bP Z Z ?_
 refine js Z (jf [4,3,8,0] Z (jn ?_))
 rw[←e9]
 refine⟨i+1,Ent.to ⟨Z,Z,Z,aD⟩ Z,by omega,by omega⟩
 refine bL (ac (aa Z (jr ?_)))
 refine aO Z ?_
 have hin:i=xs.length:=by have:=bo z8;omega
 rw[hin,List.take_length]
theorem qu:MQ h1 h2 37 [aJ c] [] (Plain (.tup [aJ (if bm c=true then c else[]),eB (bm c)])):=by
 refine MC.data (jB 8 h1 h2 Tryz.func37 Z fun O hF=>?_)
 refine ac (aa Z (jn (aj (ac (js Z (aS Z (mR (c:=c) h1 h2) 6000 Z (js Z (jf [6,3,2,0] Z (jn (ab Z (fun z6=>?_) (fun z6=>?_)))))))))))
 refine ac (aa Z (jr ?_))
 refine aO Z ?_
 have h9:bm c=false:=by simpa using z6
 rw[h9,if_neg (by decide)]
 exact .tup (.cons (.c .nils) (.cons (.c .d) .nil))
 refine al (ac (bi Z (jf [3,2,0] Z (jr ?_))))
 refine aO Z ?_
 have h9:bm c=true:=by simpa using z6
 rw[h9,if_pos Z]
 exact .tup (.cons (.c .d) (.cons (.c .d) .nil))
theorem s6{n:Nat}(h0:0<c.length)(h80:c.length≤80)(hn:n≤80)(ha: ∀x∈c,aw x=true):MQ h1 h2 40 [aJ c,eI n] [] (Rows (.c (.rs 0 0 c.length)) [ij (c.map (fw n))]):=by
 refine c8 (jB 30 h1 h2 Tryz.func40 Z fun O hF=>?_)
 refine ac (js Z (bc (js Z (jf [8,4,1] Z (ff O (B0:=10000) Z Z Z Z (r9 (c:=c) h1 h2 h0 (by omega)) (ak Z) Z Z Z Z Z Z (ax ?_))))))
 refine js Z (jf [5,4,1] Z (jn (aj (ac (js Z ?_)))))
 first|refine cW Z ?_|refine js Z ?_|refine bP Z Z ?_
 refine js Z (jn (au (aK (X:=Nat) (fun i=>⟨[(1,eI n),(5,.c (.rs 900 0 c.length)),(10,.c (.rs 900 0 c.length)),(11,eI c.length),(12,eI i)],[(900,.row true 2 ((fL (fw n) c i).map In.cells))]⟩) (fun i=>i≤c.length) (fun i=>c.length-i) 0 (((aI [10000] (e':=[(1,_),(5,_),(10,_),(11,_),(12,_)]) Z Z ⟨Z,Z,Z,Z,Z,aD⟩ Z).trans (ao 10000 900 Z Z)).trans (Ent.to ⟨Z,Z,Z,Z,Z,aD⟩ (by rw[kI];rfl))) ?_ (fun i hi=>?_))))
 exact fK _
 refine ac (js Z (jn (aj (ab Z (fun z13=>?_) (fun z13=>?_)))))
 refine al (aj (au (ac ?_)))
 have hil:i<c.length:=by have:=aB z13;omega
 have hix:=ha _ (jU hil)
 refine js Z (ae (aC O Z Z (by omega)) Z (ae (ar O (ex:=(c.getD i default).cells) Z Z Z Z (eE hil (by simp)) Z) Z (jf [16,14,13,1,5,10,11,12] Z (jl Z (ax ?_)))))
 refine js Z (jf [6,7,16,13,1,5,10,11,12] Z (jo Z (ax ?_)))
 refine bc (js Z (aS Z (uH (x:=(c.getD i default)) h1 h2) 19000 Z (jn (ab Z (fun z18=>?_) (fun z18=>?_)))))
 refine ag (aa Z ?_)
 have hja:=nW hix (qq z18)
 refine ae (aC O Z Z (by omega)) Z (js Z (ae (ar O (ex:=(c.getD i default).cells) Z Z Z Z (eE hil (by simp)) Z) Z (js Z (ae (ah O Z Z (by omega) (by omega)) Z (ae (aC O Z Z (by omega)) Z (js Z (jf [27,25,18,17,7,16,13,1,5,10,11,12] Z (bg (bI (ex:=(c.getD i default).cells) (xs':=(fL (fw n) c (i+1)).map In.cells) O Z Z Z Z Z Z Z Z Z Z Z Z Z Z (eE hil (by simp)) (kK hil (by simp) (by unfold fw;rw[if_pos (qq z18)];rfl))) Z (ax ?_)))))))))
 refine ax ?_
 refine jf [18,17,7,16,13,1,5,10,11,12] Z (jn (ag ?_))
 first|refine ji Z ?_|refine bP Z Z ?_
 refine js Z (jn ?_)
 refine⟨i+1,(aI [900] (e':=[(1,_),(5,_),(10,_),(11,_),(12,_)]) Z Z ⟨Z,Z,Z,Z,Z,aD⟩ Z).trans (Ent.to ⟨Z,Z,Z,Z,Z,aD⟩ Z),by omega,by omega⟩
 refine al (ag ?_)
 first|refine ji Z ?_|refine bP Z Z ?_
 refine js Z (jn ?_)
 have e9:fL (fw n) c (i+1)=fL (fw n) c i:=kJ hil (if_neg (sU z18))
 rw[←e9]
 refine⟨i+1,(aI [900] (e':=[(1,_),(5,_),(10,_),(11,_),(12,_)]) Z Z ⟨Z,Z,Z,Z,Z,aD⟩ Z).trans (Ent.to ⟨Z,Z,Z,Z,Z,aD⟩ Z),by omega,by omega⟩
 refine bL (ac ?_)
 obtain rfl:i=c.length:=by have:=bo z13;omega
 rw[mw]
 refine aa Z (jr ?_)
 refine⟨.inl Z,_,aW,_,Z,[900],by decide,Z,Z,Z⟩
theorem s9{x y:List In}(hx:bm x=true)(hy:bm y=true)(h0:0<x.length)(h0y:0<y.length):MQ h1 h2 11 [aJ x,aJ y] [] (Plain (.tup [aJ (if bm (bA x y)=true then bA x y else[]),eB (bm (bA x y))])):=by
 refine MC.data (jB 47 h1 h2 Tryz.func11 Z fun O hF=>?_)
 obtain⟨hx1,hx2,hx3⟩:=bO hx
 obtain⟨hy1,hy2,hy3⟩:=bO hy
 refine ac (aa Z (jn (aj (ac (js Z (aS Z ((mR (c:=x) h1 h2).plain (u:=eB true) (by rw[hx])) 12000 Z (aa Z (jf [13,5,4,0,1] Z (br Z (js Z (br Z (aS Z ((mR (c:=y) h1 h2).plain (u:=eB true) (by rw[hy])) 16000 Z (jf [15,13,5,4,0,1] Z (br Z (js Z (ae (aM O Z Z Z Z Z) Z (jf [17,5,4,0,1] Z (jn (ab Z (fun z17=>?_) (fun z17=>?_))))))))))))))))))))
 exact absurd z17 (by decide)
 refine al (ac (js Z ?_))
 first|refine cW Z ?_|refine js Z ?_|refine bP Z Z ?_
 refine jf [19,5,4,0,1] Z (aS Z (qL (n:=x.length) h1 h2) 21000 Z (js Z (jf [6,5,4,0,1] Z (bc (js Z (ff O (B0:=23000) Z Z Z Z (r9 (c:=x) h1 h2 h0 (by omega)) (ak Z) Z Z Z Z Z Z (ax ?_)))))))
 refine js Z (jf [7,6,5,4,0,1] Z (jn (aj (ac (js Z ?_)))))
 first|refine cW Z ?_|refine js Z ?_|refine bP Z Z ?_
 refine js Z (jn (au (aK (X:=Nat) (fun i=>⟨[(1,aJ y),(6,eI x.length),(7,.c (.rs 900 0 x.length)),(23,.c (.rs 900 0 x.length)),(24,eI x.length),(25,eI i)],[(900,.row true 2 ((fL (nr x.length) x i).map In.cells))]⟩) (fun i=>i≤x.length) (fun i=>x.length-i) 0 (((aI [23000] (e':=[(1,_),(6,_),(7,_),(23,_),(24,_),(25,_)]) Z Z ⟨Z,Z,Z,Z,Z,Z,aD⟩ Z).trans (ao 23000 900 Z Z)).trans (Ent.to ⟨Z,Z,Z,Z,Z,Z,aD⟩ (by rw[kI];rfl))) ?_ (fun i hi=>?_))))
 exact fK _
 refine ac (js Z (jn (aj (ab Z (fun z26=>?_) (fun z26=>?_)))))
 refine al (aj (au (ac ?_)))
 have hil:i<x.length:=by have:=aB z26;omega
 refine js Z (ae (aC O Z Z (by omega)) Z (ae (ar O (ex:=(x.getD i default).cells) Z Z Z Z (eE hil (by simp)) Z) Z (jf [29,27,26,1,6,7,23,24,25] Z (jl Z (ax ?_)))))
 refine js Z (jf [8,9,29,26,1,6,7,23,24,25] Z (jo Z (ax ?_)))
 refine bc (bi Z (jf [32,8,9,29,26,1,6,7,23,24,25] Z (jn (ab Z (fun z32=>?_) (fun z32=>?_)))))
 refine ag (aE Z (ae (aC O Z Z (by omega)) Z (jf [37,36,32,9,29,26,1,6,7,23,24,25] Z (bg (bI (ex:=(x.getD i default).cells) (xs':=(fL (nr x.length) x (i+1)).map In.cells) O Z Z Z Z Z Z Z Z Z Z Z Z Z Z (eE hil (by simp)) (kK hil (by simp) (by rw[sT (aB z32)];rfl))) Z (ax ?_)))))
 refine ax ?_
 refine jf [32,9,29,26,1,6,7,23,24,25] Z (jn (ag ?_))
 first|refine ji Z ?_|refine bP Z Z ?_
 refine js Z (jn ?_)
 refine⟨i+1,(aI [900] (e':=[(1,_),(6,_),(7,_),(23,_),(24,_),(25,_)]) Z Z ⟨Z,Z,Z,Z,Z,Z,aD⟩ Z).trans (Ent.to ⟨Z,Z,Z,Z,Z,Z,aD⟩ Z),by omega,by omega⟩
 refine al (ag ?_)
 first|refine ji Z ?_|refine bP Z Z ?_
 refine js Z (jn ?_)
 have e9:fL (nr x.length) x (i+1)=fL (nr x.length) x i:=kJ hil (sS (bo z32))
 rw[←e9]
 refine⟨i+1,(aI [900] (e':=[(1,_),(6,_),(7,_),(23,_),(24,_),(25,_)]) Z Z ⟨Z,Z,Z,Z,Z,Z,aD⟩ Z).trans (Ent.to ⟨Z,Z,Z,Z,Z,Z,aD⟩ Z),by omega,by omega⟩
 refine bL (ac ?_)
 obtain rfl:i=x.length:=by have:=bo z26;omega
 rw[mw]
 refine bi Z (ff O (B0:=43000) Z Z Z Z (s6 (c:=y) (n:=x.length) h1 h2 h0y (by omega) (by omega) hy1) (ak Z) Z Z Z Z Z Z (ax ?_))
 refine jf [42,39,26,1,6,7,23,24,25] Z (bg (ik (own:=true) (xs:=(x.map (nr x.length)).map In.cells) (ys:=(y.map (fw x.length)).map In.cells) (zs:=(bA x y).map In.cells) (n:=(bA x y).length) O Z (.row Z (by simp)) (.whole Z (by simp) (.inl j5)) pX Z (by simp;omega) (by simp;omega) (by simp[bA]) (by simp)) Z (ax ?_))
 refine az (aI [43] (e':=[(43,_)]) Z Z ⟨Z,aD⟩ Z) (az (Ent.freeze 43 (e':=[(43,_)]) Z (.cons Z (.c (.row Z (cV _).symm)) .nil) (.skip .nil)) ?_)
 refine ax ?_
 refine af O Z Z Z Z (qu (c:=bA x y) h1 h2) (ak Z) Z Z Z Z (B0:=45000) Z Z (aE Z (jf [5,4] Z (jr ?_)))
 refine aO Z ?_
 exact .tup (.cons (.c .d) (.cons (.c .d) .nil))
theorem tb(hc:bm c=true):MQ h1 h2 8 [aJ c] [] (Plain (.tup [fz (ey c),eB true])):=by
 refine MC.data (jB 24 h1 h2 Tryz.func8 Z fun O hF=>?_)
 obtain⟨z1,z2,z3⟩:=bO hc
 have htl:=gn hc
 have hll: ∀n,n≤c.length→((c.take n).map et).length≤80:=fun n hn=>by rw[cV,List.length_take];omega
 refine ac (aa Z (jn (aj (ac (js Z (aS Z ((mR (c:=c) h1 h2).plain (u:=eB true) (by rw[hc])) 9000 Z (js Z (jf [9,3,2,0] Z (jn (ab Z (fun z9=>?_) (fun z9=>?_)))))))))))
 exact absurd z9 (by decide)
 refine al (ac (js Z (jn (aj (ac (js Z ?_))))))
 first|refine cW Z ?_|refine js Z ?_|refine bP Z Z ?_
 refine js Z (jn (au (aK (X:=Nat) (fun i=>⟨[(4,.c (.rs 900 0 ((c.take i).map et).length)),(10,aJ c),(11,eI c.length),(12,eI i)],[(900,.row false 1 (((c.take i).map et).map (fun p:bQ=>[sD p])))]⟩) (fun i=>i≤c.length) (fun i=>c.length-i) 0 ((eR 4 900 1 false Z Z).trans (Ent.to ⟨Z,Z,Z,Z,aD⟩ Z)) ?_ (fun i hi=>?_))))
 exact fK _
 refine ac (js Z (jn (aj (ab Z (fun z13=>?_) (fun z13=>?_)))))
 refine al (aj (au (ac ?_)))
 have hil:i<c.length:=by have:=aB z13;omega
 have hix:=z1 _ (jU hil)
 have hln:=jY hix
 have hl9:=hll i (by omega)
 refine ae (bG O Z Z Z Z Z Z Z Z (gj hil)) Z (js Z (jf [15,13,4,10,11,12] Z (jl Z (ax ?_))))
 refine jo Z (ax ?_)
 refine jn (ag (aa Z (aS Z (qx (x:=(c.getD i default)) h1 h2 hix) 19000 Z (jf [18,16,6,15,13,4,10,11,12] Z (bg (da O Z Z Z Z Z Z Z Z Z Z Z) Z (ax ?_))))))
 refine ax ?_
 refine jf [19,16,6,15,13,4,10,11,12] Z (bg (ik (own:=false) (xs:=((c.take i).map et).map (fun p:bQ=>[sD p])) (ys:=[[sD (et (c.getD i default))]]) (zs:=((c.take (i+1)).map et).map (fun p:bQ=>[sD p])) (n:=((c.take (i+1)).map et).length) O Z (.row Z (cV _).symm) (.whole Z Z (.inr ⟨Z,Z⟩)) (by simp) Z (by simp;omega) (by simp;omega) (by rw[List.take_succ_eq_append_getElem hil,aH hil,List.map_append,List.map_append];rfl) (by simp)) Z (ax ?_))
 refine ax ?_
 refine js Z (jf [4,6,15,13,10,11,12] Z (jn (ag ?_)))
 first|refine ji Z ?_|refine bP Z Z ?_
 refine js Z (jn ?_)
 refine⟨i+1,((aI [20] (e':=[(4,_),(10,_),(11,_),(12,_)]) Z Z ⟨Z,Z,Z,Z,aD⟩ Z).trans (ao 20 900 Z Z)).trans (Ent.to ⟨Z,Z,Z,Z,aD⟩ Z),by omega,by omega⟩
 refine bL (ac ?_)
 obtain rfl:i=c.length:=by have:=bo z13;omega
 rw[List.take_length]
 refine js Z (az (aI [900] (e':=[(22,_)]) Z Z ⟨Z,aD⟩ Z) (az (Ent.freeze 900 (e':=[(22,_)]) Z (.cons Z (.c (.row Z (cV _).symm)) .nil) (.skip .nil)) ?_))
 refine af O Z Z Z Z (tj (ls:=c.map et) h1 h2 (by show(ey c).length≤L;omega) (by rw[cV];omega)) (ak Z) Z Z Z Z (B0:=24000) Z Z (aa Z (jf [3,2] Z (jr ?_)))
 refine aO Z ?_
 exact .tup (.cons (.c .d) (.cons (.c .d) .nil))
theorem ta(hc:bm c=true)(hL:1048576<L):MQ h1 h2 9 [fz (ey c)] [] (Plain (.tup [aJ c,eB true])):=by
 refine MC.data (jB 45 h1 h2 Tryz.func9 Z fun O hF=>?_)
 obtain⟨z1,z2,z3⟩:=bO hc
 have htl:=gn hc
 have hll: ∀n,n≤c.length→(c.take n).length≤80:=fun n hn=>by rw[List.length_take];omega
 have hLn:=tn h1 h2 (s:=ey c) hL (by omega)
 rw[tQ hc]at hLn
 refine ac (aa Z (bc (js Z (jf [12,3,2] Z (af O Z Z Z Z (hLn) (ak Z) Z Z Z Z (B0:=14000) Z Z (aE Z (js Z (jf [5,4,3,2] Z (jn (aj (ac (bi Z (jf [18,4,3,2] Z (br Z (js Z (br Z ?_))))))))))))))))
 first|refine cW Z ?_|refine js Z ?_|refine bP Z Z ?_
 refine jf [20,18,4,3,2] Z (br Z (ae ((V Z).cast (v':=eB false) (congrArg eB (decide_eq_false (by rw[cV];omega)))) Z (ae (aM O Z Z Z Z Z) Z (jf [22,4,3,2] Z (jn (ab Z (fun z22=>?_) (fun z22=>?_)))))))
 exact absurd z22 (by decide)
 refine al (ac (js Z (jn (aj (ac (js Z ?_))))))
 first|refine cW Z ?_|refine js Z ?_|refine bP Z Z ?_
 refine js Z (jn (au (aK (X:=Nat) (fun i=>⟨[(6,.c (.rs 900 0 (c.take i).length)),(23,.c (.d (strs (c.map et)))),(24,eI (c.map et).length),(25,eI i)],[(900,ij (c.take i))]⟩) (fun i=>i≤c.length) (fun i=>c.length-i) 0 ((eR 6 900 2 true Z Z).trans (Ent.to ⟨Z,Z,Z,Z,aD⟩ Z)) ?_ (fun i hi=>?_))))
 exact fK _
 refine ac (js Z (jn (aj (ab Z (fun z26=>?_) (fun z26=>?_)))))
 refine al (aj (au (ac ?_)))
 have hil:i<c.length:=by have:=aB z26;rw[cV]at this;omega
 have hix:=z1 _ (jU hil)
 have hln:=jY hix
 have hl9:=hll i (by omega)
 have hlg:(c.map et).getD i default=et (c.getD i default):=by rw[aH (by simpa using hil),aH hil,List.getElem_map]
 have hRI:=td (s:=et (c.getD i default)) h1 h2 hL (by omega)
 rw[(pK (et (c.getD i default)) (c.getD i default)).2 ⟨hix,rfl⟩]at hRI
 refine ae (bG O Z Z Z Z Z Z Z Z (gj (n:=i) (by simpa using hil))) Z (ae ((V Z).cast (v':=fz (et (c.getD i default))) (by rw[←hlg])) Z (js Z (jf [8,26,6,23,24,25] Z (bc (js Z (jf [30,26,6,23,24,25] Z (af O Z Z Z Z (hRI) (ak Z) Z Z Z Z (B0:=32000) Z Z (bi Z (jf [33,32,26,6,23,24,25] Z (jl Z (ax ?_)))))))))))
 refine jo Z (ax ?_)
 refine js Z (jf [10,9,26,6,23,24,25] Z (jn (aj (ac (aa Z (jf [35,9,26,6,23,24,25] Z (jn (ab Z (fun z35=>?_) (fun z35=>?_)))))))))
 exact fN z35
 refine al (ag (aa Z (bg (da O Z Z Z Z Z Z Z Z Z Z Z) Z (ax ?_))))
 refine ax ?_
 refine jf [38,36,35,9,26,6,23,24,25] Z (bg (ik (own:=true) (xs:=(c.take i).map In.cells) (ys:=[(c.getD i default).cells]) (zs:=(c.take (i+1)).map In.cells) (n:=(c.take (i+1)).length) O Z (.row Z (cV _).symm) (.whole Z Z (.inl (j5 (c:=[(c.getD i default)])))) (by simp) Z (by simp;omega) (by simp;omega) (by rw[List.take_succ_eq_append_getElem hil,aH hil,List.map_append];rfl) (by simp)) Z (ax ?_))
 refine ax ?_
 refine js Z (jf [6,35,9,26,23,24,25] Z (jn (ag ?_)))
 first|refine ji Z ?_|refine bP Z Z ?_
 refine js Z (jn ?_)
 refine⟨i+1,((aI [39] (e':=[(6,_),(23,_),(24,_),(25,_)]) Z Z ⟨Z,Z,Z,Z,aD⟩ Z).trans (ao 39 900 Z Z)).trans (Ent.to ⟨Z,Z,Z,Z,aD⟩ Z),by omega,by omega⟩
 refine bL (ac ?_)
 obtain rfl:i=c.length:=by have:=bo z26;rw[cV]at *;omega
 rw[List.take_length]
 refine js Z (az (aI [900] (e':=[(41,_)]) Z Z ⟨Z,aD⟩ Z) (az (Ent.freeze 900 (e':=[(41,_)]) Z (.cons Z (.c (.row Z (cV _).symm)) .nil) (.skip .nil)) ?_))
 refine af O Z Z Z Z ((qu (c:=c) h1 h2).plain (u:=.tup [aJ c,eB true]) (by rw[if_pos hc,hc])) (ak Z) Z Z Z Z (B0:=43000) Z Z (aE Z (jf [3,2] Z (jr ?_)))
 refine aO Z ?_
 exact .tup (.cons (.c .d) (.cons (.c .d) .nil))
end Go.Al
