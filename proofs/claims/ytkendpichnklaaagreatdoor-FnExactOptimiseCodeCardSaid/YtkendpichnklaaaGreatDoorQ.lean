/- What cannot be reached is dropped. -/
import Derived.Test.YtkendpichnklaaaGreatDoorH
import Derived.Test.YtkendpichnklaaaGreatDoorC
import Derived.Test.YtkendpichnklaaaGreatDoorD
set_option linter.unusedVariables false
set_option linter.unusedSimpArgs false
set_option maxRecDepth 10000
set_option maxHeartbeats 4000000
open Go.Proofs
namespace Go.Al
variable{L:Nat}(h1:4096≤L)(h2:L≤1073741824)
abbrev c5(k:Int)(s:Bool×List Int)(x:Int):Bool×List Int:=if s.1=false∧k≤x then(true,(if k<x then s.2++[k]else s.2)++[x])else(s.1,s.2++[x])
def eA(k:Int)(xs:List Int):Bool×List Int:=xs.foldl (c5 k) (false,[])
def lf(k:Int)(xs:List Int):List Int:=if(eA k xs).1=true then(eA k xs).2 else(eA k xs).2++[k]
theorem qi{k x:Int}{xs:List Int}:eA k (xs++[x])=c5 k (eA k xs) x:=by simp[eA,List.foldl_append]
theorem jm{k:Int}{xs:List Int}{i:Nat}(h:i<xs.length):eA k (xs.take (i+1))=c5 k (eA k (xs.take i)) (xs.getD i default):=by
 rw[List.take_succ_eq_append_getElem h,qi,au h]
theorem m5{k:Int}(xs:List Int):(eA k xs).2.length≤xs.length+1∧((eA k xs).1=false→(eA k xs).2.length=xs.length):=by
 have key : ∀(ys:List Int) (s:Bool×List Int) (m:Nat),s.2.length≤m+1→(s.1=false→s.2.length=m)→
    (ys.foldl (c5 k) s).2.length≤m+ys.length+1∧((ys.foldl (c5 k) s).1=false→(ys.foldl (c5 k) s).2.length=m+ys.length):=by
  intro ys
  induction ys with
  | nil=>intro s m h1 h2;exact⟨by simpa using h1,by simpa using h2⟩
  | cons y ys ih=>
    intro s m h1 h2
    rw[List.foldl_cons,dF]
    have:=ih (c5 k s y) (m+1) ?_ ?_
    · exact⟨by omega,fun h=>by have:=this.2 h;omega⟩
    · unfold c5
      split
      · rename_i h
        have:=h2 h.1
        split<;>simp<;>omega
      · simp;omega
    · unfold c5
      split
      · intro h;cases h
      · intro h
        have:=h2 h
        simp;omega
 have:=key xs (false,[]) 0 (by simp) (by simp)
 simpa[eA]using this
def tg(x:In)(k:Int):List Int:=
  if x.op=11 then[]else if x.op=5 then[x.a]else if x.op=6 then(if x.a<k+1 then[x.a,k+1]else if x.a=k+1 then[k+1]else[k+1,x.a])else[k+1]
theorem rt{x:In}{k:Int}:(tg x k).length≤2:=by
 unfold tg;split
 simp
 split
 simp
 split
 split
 simp
 split<;>simp
 simp
theorem r6{k y:Int}:lf k [y]=if k<y then[k,y]else if k=y then[y]else[y,k]:=by
 rcases Int.lt_trichotomy k y with h|h|h
 simp[lf,eA,c5,h,Int.le_of_lt h]
 subst h;simp[lf,eA,c5]
 simp[lf,eA,c5,Int.not_le.2 h,Int.not_lt.2 (Int.le_of_lt h),Int.ne_of_gt h]
inductive Rch(c:List In)(st:List Int):Nat→Prop
  | start {z:Int}:z∈st→0≤z→z<c.length→Rch c st z.toNat
  | step {k:Nat} {z:Int}:Rch c st k→z∈tg (c.getD k default) k→0≤z→z<c.length→Rch c st z.toNat
open Classical in
noncomputable def cf(c:List In)(st:List Int):List Bool:=(List.range c.length).map fun k=>decide (Rch c st k)
theorem da{c:List In}{st:List Int}:(cf c st).length=c.length:=by simp[cf]
theorem kO{c:List In}{st:List Int}{k:Nat}(h:k<c.length):(cf c st).getD k default=true↔Rch c st k:=by
 rw[au (by rw[da];exact h)]
 simp[cf]
structure Rsh(c:List In)(st:List Int)(u:List Bool)(ws:List Int):Prop where
  len:u.length=c.length
  nn: ∀z∈ws,0≤z∧z≤100
  sd: ∀k,k<c.length→u.getD k default=true→Rch c st k
  sw: ∀z∈ws,z<c.length→Rch c st z.toNat
  cl: ∀k,k<c.length→u.getD k default=true→∀z∈tg (c.getD k default) k,0≤z→z<c.length→u.getD z.toNat default=true∨z∈ws
  cs: ∀z∈st,0≤z→z<c.length→u.getD z.toNat default=true∨z∈ws
def ee(u:List Bool):Nat:=u.count false
theorem Rsh.zero{c:List In}{st:List Int}(h: ∀z∈st,0≤z∧z≤100):Rsh c st (List.replicate c.length false) st:=by
 have hg: ∀k,(List.replicate c.length false).getD k default=false:=fun k=>by
  rw[List.getD_eq_getElem?_getD,List.getElem?_replicate];split<;>rfl
 refine⟨List.length_replicate,h,fun k _ hk=>(by rw[hg]at hk;cases hk),fun z hz hl=>.start hz (h z hz).1 hl,fun k _ hk=>(by rw[hg]at hk;cases hk),fun z hz _ _=>.inr hz⟩
theorem Rsh.out{c:List In}{st:List Int}{u:List Bool}{ws ws':List Int}{z:Int}(h:Rsh c st u ws)(hm: ∀y,y∈ws↔y=z∨y∈ws')(hz:z<c.length→u.getD z.toNat default=true):Rsh c st u ws':=by
 refine⟨h.len,fun y hy=>h.nn y ((hm y).2 (.inr hy)),h.sd,fun y hy=>h.sw y ((hm y).2 (.inr hy)),fun k hk hu y hy h0 hl=>?_,fun y hy h0 hl=>?_⟩
 rcases h.cl k hk hu y hy h0 hl with g|g
 exact .inl g
 rcases(hm y).1 g with rfl|g
 exact .inl (hz hl)
 exact .inr g
 rcases h.cs y hy h0 hl with g|g
 exact .inl g
 rcases(hm y).1 g with rfl|g
 exact .inl (hz hl)
 exact .inr g
theorem fF{u:List Bool}{j k:Nat}(hj:j<u.length):(u.set j true).getD k default=true↔(k=j∨u.getD k default=true):=by
 rw[List.getD_eq_getElem?_getD,List.getD_eq_getElem?_getD,List.getElem?_set]
 by_cases h:j=k
 subst h;simp[hj]
 rw[if_neg h]
 constructor
 intro g;exact .inr g
 rintro(rfl|g)
 exact absurd Z h
 exact g
def sR(c:List In):Prop:=c.length≤80∧∀x∈c,bI x=true→0≤x.a∧x.a≤79
theorem vZ{c:List In}(hc:sR c){k:Nat}(hk:k<c.length): ∀z∈tg (c.getD k default) k,0≤z∧z≤100:=by
 have hx:=hc.2 (c.getD k default) (by rw[au hk];exact List.getElem_mem hk)
 have h80:=hc.1
 intro z hz
 unfold tg at hz
 split at hz
 cases hz
 split at hz
 rename_i h5
 have:=hx (by unfold bI;rw[h5];rfl)
 simp only[List.mem_singleton]at hz;omega
 split at hz
 rename_i h6
 have:=hx (by unfold bI;rw[h6];rfl)
 split at hz
 simp only[List.mem_cons,List.not_mem_nil,or_false]at hz;omega
 split at hz
 simp only[List.mem_singleton]at hz;omega
 simp only[List.mem_cons,List.not_mem_nil,or_false]at hz;omega
 simp only[List.mem_singleton]at hz;omega
theorem nF{c:List In}{st:List Int}{u:List Bool}{ws ws':List Int}{z:Int}(hc:sR c)(h:Rsh c st u ws)(hm: ∀y,y∈ws↔y=z∨y∈ws')(h0:0≤z)(hz:z<c.length):Rsh c st (u.set z.toNat true) (ws'++tg (c.getD z.toNat default) z):=by
 have hzn:z.toNat<c.length:=by omega
 have hzu:z.toNat<u.length:=by rw[h.len];exact hzn
 have hze:((z.toNat:Nat):Int)=z:=by omega
 have hr:Rch c st z.toNat:=h.sw z ((hm z).2 (.inl Z)) hz
 have ht:=vZ hc hzn
 rw[hze]at ht
 refine⟨by rw[List.length_set];exact h.len,fun y hy=>?_,fun k hk hu=>?_,fun y hy hl=>?_,fun k hk hu y hy g0 hl=>?_,fun y hy g0 hl=>?_⟩
 rcases List.mem_append.1 hy with hy|hy
 exact h.nn y ((hm y).2 (.inr hy))
 exact ht y hy
 rcases(fF hzu).1 hu with rfl|g
 exact hr
 exact h.sd k hk g
 rcases List.mem_append.1 hy with hy|hy
 exact h.sw y ((hm y).2 (.inr hy)) hl
 exact .step hr (by rw[hze];exact hy) (ht y hy).1 hl
 rcases(fF hzu).1 hu with rfl|g
 rw[hze]at hy
 exact .inr (List.mem_append_right _ hy)
 rcases h.cl k hk g y hy g0 hl with g1|g1
 exact .inl ((fF hzu).2 (.inr g1))
 rcases(hm y).1 g1 with rfl|g1
 exact .inl ((fF hzu).2 (.inl Z))
 exact .inr (List.mem_append_left _ g1)
 rcases h.cs y hy g0 hl with g1|g1
 exact .inl ((fF hzu).2 (.inr g1))
 rcases(hm y).1 g1 with rfl|g1
 exact .inl ((fF hzu).2 (.inl Z))
 exact .inr (List.mem_append_left _ g1)
theorem Rsh.done{c:List In}{st:List Int}{u:List Bool}(h:Rsh c st u []):u=cf c st:=by
 have key: ∀k,Rch c st k→u.getD k default=true:=by
  intro k hk
  induction hk with
  | start hz h0 hl=>exact(h.cs _ hz h0 hl).resolve_right (by simp)
  | step hk hz h0 hl ih=>
   rename_i k z
   have hkl:k<c.length:=by
    rcases Nat.lt_or_ge k c.length with g|g
    exact g
    rw[List.getD_eq_getElem?_getD,List.getElem?_eq_none (by rw[h.len];exact g)]at ih;cases ih
   exact(h.cl k hkl ih z hz h0 hl).resolve_right (by simp)
 refine List.ext_getElem (by rw[h.len,da]) fun k h1 h2=>?_
 rw[h.len]at h1
 have e1:=kO (st:=st) h1
 have e2:=h.sd k h1
 have e3:=key k
 rw[au (by rw[da];exact h1)]at e1
 rw[au (by rw[h.len];exact h1)]at e2 e3
 cases g:u[k]with
 | true=>exact(e1.2 (e2 g)).symm
 | false=>
  cases g2:(cf c st)[k]with
  | false=>rfl
  | true=>have:=e3 (e1.1 g2);rw[g]at this;cases this
theorem ny{u:List Bool}{j:Nat}(hj:j<u.length)(h:u.getD j default=false):ee (u.set j true)+1=ee u:=by
 unfold ee
 rw[au hj]at h
 have hp:0<u.count false:=List.count_pos_iff.2 (h ▸ List.getElem_mem hj)
 rw[List.count_set hj]
 simp[h]
 omega
theorem lQ{n:Nat}:ee (List.replicate n false)=n:=by simp[ee]
def dK(d:List Bool)(j:Nat):List Bool:=List.replicate j false++d.drop j
theorem tB{d:List Bool}:dK d 0=d:=rfl
theorem l5{d:List Bool}{j z:Nat}:dk (dK d j) z=((d.drop j).take (z-j)).count true:=by
 unfold dk dK
 rw[List.take_append,List.count_append,List.length_replicate,List.take_replicate,List.count_replicate]
 simp
theorem dJ{d:List Bool}{j z:Nat}:dk (dK d j) z≤z-j:=by
 rw[l5]
 exact Nat.le_trans List.count_le_length (by rw[List.length_take];omega)
theorem nv{d:List Bool}{j z:Nat}(hj:j<d.length)(h:d.getD j default=true)(hz:j<z):dk (dK d j) z=dk (dK d (j+1)) z+1:=by
 rw[au hj]at h
 rw[l5,l5,List.drop_eq_getElem_cons hj,h,show z-j=(z-(j+1))+1 by omega,List.take_succ_cons,List.count_cons]
 simp
theorem vy{d:List Bool}{j:Nat}(hj:j<d.length)(h:d.getD j default=false):dK d j=dK d (j+1):=by
 rw[au hj]at h
 unfold dK
 rw[List.drop_eq_getElem_cons hj,h,List.replicate_succ',dO]
 rfl
theorem kd{d:List Bool}{c:List In}{j:Nat}(hj:j≤d.length)(hd:d.length=c.length):be (dK d j) c=c.take j++be (d.drop j) (c.drop j):=by
 unfold dK
 conv=>lhs;rw[←List.take_append_drop j c]
 rw[dx (by rw[List.length_replicate,List.length_take];omega),fp (by rw[List.length_take];omega)]
theorem qo{d:List Bool}{c:List In}{j:Nat}(hj:j<d.length)(hd:d.length=c.length)(h:d.getD j default=true):be (dK d j) c=c.take j++be (d.drop (j+1)) (c.drop (j+1)):=by
 rw[au hj]at h
 rw[kd (Nat.le_of_lt hj) hd,List.drop_eq_getElem_cons hj,List.drop_eq_getElem_cons (by omega:j<c.length),h,be,if_pos Z]
theorem iQ: ∀{d:List Bool} {c:List In} {x:In},x∈be d c→x∈c
 | [],_,_,h=>by simp[be]at h
 | _::_,[],_,h=>by simp[be]at h
 | b::d,y::c,x,h=>by
  rw[be]at h
  split at h
  exact List.mem_cons_of_mem _ (iQ h)
  rcases List.mem_cons.1 h with rfl|h
  simp
  exact List.mem_cons_of_mem _ (iQ h)
structure DpOk(a:An):Prop where
  c80:a.code.length≤80
  jmp: ∀x∈a.code,-1000000≤x.a∧x.a≤1000000∧(bI x=true→0≤x.a)
  pts: ∀p∈a.pts,0≤p.k∧p.k≤79
theorem sb{d:List Bool}{x:In}:(bC d x).op=x.op:=by unfold bC;split<;>rfl
theorem qp{d:List Bool}{x:In}:bI (bC d x)=bI x:=by unfold bI;rw[sb]
theorem qg{d:List Bool}{j:Nat}{x:In}(hj:j<d.length)(h:d.getD j default=true)(hx:bI x=true→0≤x.a):fu j 1 (bC (dK d (j+1)) x)=bC (dK d j) x:=by
 unfold fu
 rw[qp]
 cases hb:bI x with
 | false=>
  rw[if_neg (fun g=>by cases g.1)]
  unfold bC;rw[hb];rfl
 | true=>
  have h0:=hx hb
  have e1:=dJ (d:=d) (j:=j+1) (z:=x.a.toNat)
  have e0:=dJ (d:=d) (j:=j) (z:=x.a.toNat)
  have g1:bC (dK d (j+1)) x=⟨x.op,x.a-dk (dK d (j+1)) x.a.toNat⟩:=if_pos hb
  have g0:bC (dK d j) x=⟨x.op,x.a-dk (dK d j) x.a.toNat⟩:=if_pos hb
  rw[g1,g0]
  by_cases hz:(j:Int)<x.a
  have e2:=nv hj h (z:=x.a.toNat) (by omega)
  rw[if_pos ⟨rfl,by show(j:Int)<x.a-_;omega⟩]
  show In.mk x.op (x.a-_-1)=_
  congr 1;omega
  rw[if_neg (fun g=>by have:(j:Int)<x.a-dk (dK d (j+1)) x.a.toNat:=g.2;omega)]
  congr 1;omega
theorem r3{d:List Bool}{j:Nat}{p:Pt}(hj:j<d.length)(h:d.getD j default=true)(hp:0≤p.k):lp j 1 (eo (dK d (j+1)) p)=eo (dK d j) p:=by
 have e1:=dJ (d:=d) (j:=j+1) (z:=p.k.toNat)
 have e0:=dJ (d:=d) (j:=j) (z:=p.k.toNat)
 unfold lp eo
 by_cases hz:(j:Int)<p.k
 have e2:=nv hj h (z:=p.k.toNat) (by omega)
 rw[if_pos (by show(j:Int)<p.k-_;omega)]
 show Pt.mk (p.k-_-1) p.fs=_
 congr 1;omega
 rw[if_neg (by show¬(j:Int)<p.k-_;omega)]
 congr 1;omega
theorem jv{a:An}{d:List Bool}{j:Nat}(hw:DpOk a)(hd:d.length=a.code.length)(hj:j<d.length)(h:d.getD j default=true):bU (aY (dK d (j+1)) a) j 1 []=aY (dK d j) a:=by
 unfold bU aY
 have hk:be (dK d (j+1)) a.code=a.code.take (j+1)++be (d.drop (j+1)) (a.code.drop (j+1)):=kd hj hd
 have hk0:=qo hj hd h
 have ht:(a.code.take (j+1)).length=j+1:=by rw[List.length_take];omega
 have e1:(((be (dK d (j+1)) a.code).map (bC (dK d (j+1)))).take j++[]++((be (dK d (j+1)) a.code).map (bC (dK d (j+1)))).drop (j+1))=(be (dK d j) a.code).map (bC (dK d (j+1))):=by
  rw[hk,hk0,List.append_nil,←List.map_take,←List.map_drop,←List.map_append]
  congr 1
  rw[List.take_append_of_le_length (by omega),List.take_take,Nat.min_eq_left (Nat.le_succ j),List.drop_append,List.drop_of_length_le (by omega),ht,Nat.sub_self]
  rfl
 have hn:((1:Nat):Int)-(([]:List In).length:Nat)=1:=rfl
 congr 1
 show List.map (fu j (((1:Nat):Int)-(([]:List In).length:Nat))) (((be (dK d (j+1)) a.code).map (bC (dK d (j+1)))).take j++[]++((be (dK d (j+1)) a.code).map (bC (dK d (j+1)))).drop (j+1))=_
 rw[hn,e1,List.map_map]
 refine List.map_congr_left fun x hx=>?_
 have hin:x∈a.code:=by
  rw[hk0]at hx
  rcases List.mem_append.1 hx with hx|hx
  exact List.mem_of_mem_take hx
  exact List.mem_of_mem_drop (iQ hx)
 exact qg hj h (hw.jmp x hin).2.2
 show List.map (lp j (((1:Nat):Int)-(([]:List In).length:Nat))) (a.pts.map (eo (dK d (j+1))))=_
 rw[hn,List.map_map]
 exact List.map_congr_left fun p hp=>r3 hj h (hw.pts p hp).1
theorem kI{a:An}{d:List Bool}(hd:d.length=a.code.length):aY (dK d d.length) a=a:=by
 have hz: ∀z,dk (dK d d.length) z=0:=fun z=>by rw[l5,List.drop_length];simp
 have hI: ∀x,bC (dK d d.length) x=x:=fun x=>by
  unfold bC;split
  · rw[hz];simp
  · rfl
 have hP: ∀p,eo (dK d d.length) p=p:=fun p=>by unfold eo;rw[hz];simp
 unfold aY
 rw[kd (cm _) hd,List.drop_length]
 rw[hd,List.take_length,List.drop_length]
 rw [show List.map (bC (dK d a.code.length)) (a.code++be [] [])=a.code by
  rw[show be [] []=[]from Z,List.append_nil]
  conv=>rhs;rw[←List.map_id a.code]
  exact List.map_congr_left fun x _=>hd ▸ hI x]
 rw [show List.map (eo (dK d a.code.length)) a.pts=a.pts by
  conv=>rhs;rw[←List.map_id a.pts]
  exact List.map_congr_left fun p _=>hd ▸ hP p]
theorem pR{a:An}{d:List Bool}{j:Nat}(hw:DpOk a)(hd:d.length=a.code.length)(hj:j<d.length) :
    j+1≤(aY (dK d (j+1)) a).code.length∧(aY (dK d (j+1)) a).code.length≤80∧(∀x∈dB (aY (dK d (j+1)) a) j 1 [],-1000000≤x.a∧x.a≤1000000)∧∀p∈(aY (dK d (j+1)) a).pts,0≤p.k∧p.k≤79:=by
 have hk:be (dK d (j+1)) a.code=a.code.take (j+1)++be (d.drop (j+1)) (a.code.drop (j+1)):=kd hj hd
 have hl:=gF (d:=dK d (j+1)) (c:=a.code)
 have h80:=hw.c80
 refine⟨?_,?_,fun x hx=>?_,fun p hp=>?_⟩
 show j+1≤((be (dK d (j+1)) a.code).map (bC (dK d (j+1)))).length
 rw[aQ,hk,cG,List.length_take];omega
 show((be (dK d (j+1)) a.code).map (bC (dK d (j+1)))).length≤80
 rw[aQ];omega
 simp only[dB,List.append_nil,List.mem_append]at hx
 have hx':x∈(be (dK d (j+1)) a.code).map (bC (dK d (j+1))):=by
  rcases hx with hx|hx
  exact List.mem_of_mem_take hx
  exact List.mem_of_mem_drop hx
 obtain⟨y,hy,rfl⟩:=List.mem_map.1 hx'
 have hin:=hw.jmp y (iQ hy)
 unfold bC
 split
 rename_i hb
 have h0:=hin.2.2 hb
 have e1:=dJ (d:=d) (j:=j+1) (z:=y.a.toNat)
 show -1000000≤y.a-_∧y.a-_≤1000000
 omega
 exact⟨hin.1,hin.2.1⟩
 obtain⟨q,hq,rfl⟩:=List.mem_map.1 hp
 have hq':=hw.pts q hq
 have e1:=dJ (d:=d) (j:=j+1) (z:=q.k.toNat)
 show 0≤q.k-_∧q.k-_≤79
 omega
theorem AOk.dp{a:An}(h:AOk a):DpOk a:=by
 refine⟨h.len,fun x hx=>?_,h.pts⟩
 have hx:=h.code x hx
 have h1:=cv hx
 refine⟨h1.1,h1.2,fun hj=>?_⟩
 simp only[bI,Bool.or_eq_true,decide_eq_true_eq]at hj
 unfold aE at hx
 rw[if_neg (by omega),if_neg (by omega),if_pos hj]at hx
 simp only[cH,bD,decide_eq_true_eq]at hx;omega
theorem AOk.tg{a:An}(h:AOk a):sR a.code:=by
 refine⟨h.len,fun x hx hj=>?_⟩
 have hx:=h.code x hx
 simp only[bI,Bool.or_eq_true,decide_eq_true_eq]at hj
 unfold aE at hx
 rw[if_neg (by omega),if_neg (by omega),if_pos hj]at hx
 simp only[cH,bD,decide_eq_true_eq]at hx;omega
theorem wh{k:Int}{xs:List Int}{x:Nat×Bool×List Int}(h:x.1<xs.length)(he:x.2=eA k (xs.take x.1))(h1:x.2.1=false)(h2:k≤xs.getD x.1 default)(h3:k<xs.getD x.1 default):(true,x.2.2++[k]++[xs.getD x.1 default])=eA k (xs.take (x.1+1)):=by
 rw[jm h,←he];show _=if _ then _ else _;rw[if_pos ⟨h1,h2⟩,if_pos h3]
theorem wi{k:Int}{xs:List Int}{x:Nat×Bool×List Int}(h:x.1<xs.length)(he:x.2=eA k (xs.take x.1))(h1:x.2.1=false)(h2:k≤xs.getD x.1 default)(h3: ¬k<xs.getD x.1 default):(true,x.2.2++[xs.getD x.1 default])=eA k (xs.take (x.1+1)):=by
 rw[jm h,←he];show _=if _ then _ else _;rw[if_pos ⟨h1,h2⟩,if_neg h3]
theorem wj{k:Int}{xs:List Int}{x:Nat×Bool×List Int}(h:x.1<xs.length)(he:x.2=eA k (xs.take x.1))(h1: ¬(x.2.1=false∧k≤xs.getD x.1 default)):(x.2.1,x.2.2++[xs.getD x.1 default])=eA k (xs.take (x.1+1)):=by
 rw[jm h,←he];show _=if _ then _ else _;rw[if_neg h1]
theorem r5{k:Int}{xs:List Int}{x:Nat×Bool×List Int}(h: ¬x.1<xs.length)(he:x.2=eA k (xs.take x.1))(h1:x.2.1=false):lf k xs=x.2.2++[k]:=by
 rw[List.take_of_length_le (by omega)]at he
 unfold lf;rw[←he,if_neg (by rw[h1];decide)]
theorem r4{k:Int}{xs:List Int}{x:Nat×Bool×List Int}(h: ¬x.1<xs.length)(he:x.2=eA k (xs.take x.1))(h1:x.2.1=true):lf k xs=x.2.2:=by
 rw[List.take_of_length_le (by omega)]at he
 unfold lf;rw[←he,if_pos h1]
theorem uC{a:Bool}{k x:Int}(h:(bif !a then decide (k≤x)else false)=true):a=false∧k≤x:=by cases a<;>simp_all
theorem uD{a:Bool}{k x:Int}(h:(bif !a then decide (k≤x)else false)=false): ¬(a=false∧k≤x):=by cases a<;>simp_all
theorem vg{α β:Type}[Inhabited α]{l:List α}{f:α→β}{n j:Nat}(h:n<l.length)(hj:j=n):(l.map f)[j]? = some (f (l.getD n default)):=by subst hj;simp[h]
theorem yC{α β:Type}{l:List α}{f:α→β}{n j:Nat}{v:α}{ds:β}(hj:j=n)(hd:ds=f v):(l.map f).set j ds=(l.set n v).map f:=by subst hj;subst hd;rw[List.map_set]
theorem fw{σ:Sg}{o:Oper}{s:St}(hσ:SgOk σ){t l off m sz:Nat}{x lo:Operand}{k:IntKind}{own:Bool}{xs:List (List D)}{i ti:TI}(ho:o.op= .slice t x (some lo) none none)(hs:Al.Oper.shorts o=true)(hx:ev s x=some (.c (.rs l off (m+1))))(hh:ev s lo=some (.c (.d (.int k 1))))(hl:lk s.H l=some (.row own sz xs))
    (hi':lk σ.tt t=some i) (hk:Nat.beq i.kind 1=true) (ht:lk σ.tt i.elem=some ti) (hz:Nat.beq sz ti.size=true):Val σ s o (.c (.rs l (off+1) m)):=by
 refine Val.of hσ ?_ hs
 simp[fd,ho,opt,hx,hh,g9,hi',hk,ht,hz,nat?,hl]
theorem qt{xs:List Int}:Scal (xs.map fun n=>[D.int .i64 n]):=Scal.map fun _=>rfl
theorem qr{xs:List Int}: ∀x∈xs.map (fun n=>[D.int .i64 n]),x.length=1:=by simp
theorem u3{xs:List Int}{k:Int}(hl:xs.length≤1000):MQ h1 h2 122 [cq xs,eI k] [] (Rows (.c (.rs 0 0 (lf k xs).length)) [ce (lf k xs)]):=by
 refine bd (jB 49 h1 h2 Tryz.func122 Z fun O hF=>?_)
 refine af (js Z (bm (bc (HS.lit O Z Z Z) Z (aA ?_))))
 refine js Z (bm (js Z (jn (aa (af (js Z (jn (ah (al (X:=Nat×Bool×List Int) (fun x=>⟨[(0,cq xs),(1,eI k),(5,.c (.rs 900 0 x.2.2.length)),(6,eB x.2.1),(7,eI x.1)],[(900,ce x.2.2)]⟩) (fun x=>x.1≤xs.length∧x.2=eA k (xs.take x.1)) (fun x=>xs.length-x.1) (0,false,[]) ((am 8 900 Z Z).trans (Ent.to ⟨Z,Z,Z,Z,Z,aj⟩ Z)) ?_ (fun x hi=>?_))))))))))
 exact⟨co _,Z⟩
 refine aa (af (ag Z ?_))
 first|refine bP Z ?_|refine js Z ?_|refine aR Z Z ?_
 refine js Z (jf [12,0,1,5,6,7] Z (jn (ao Z (fun z12=>?_) (fun z12=>?_))))
 refine ac (aa (ah (aa (af ?_))))
 have hxl:x.1<xs.length:=by have:=bZ z12;omega
 have hle:x.2.2.length≤1002:=by have:=(m5 (k:=k) (xs.take x.1)).1;rw[←hi.2,List.length_take]at this;omega
 refine bb Z (jf [17,12,0,1,5,6,7] Z (aX 6 Z Z Z (fun hx=>aF hx Z (aF hx Z (ed hx (vN Z) Z (aF hx Z (aF hx Z (aF hx Z (AN.nil))))))) Z Z ?_))
 first|refine ak (aI O Z Z Z Z Z) Z ?_|refine ak (aK O Z Z Z Z Z) Z ?_|refine ak (Val.pickB O Z Z Z Z Z) Z ?_
 refine jf [24,12,0,1,5,6,7] Z (jn (ao Z (fun z24=>?_) (fun z24=>?_)))
 refine af (js Z (bm ?_))
 have hpt:=uC z24
 refine ag Z ?_
 first|refine fO Z Z ?_|refine er Z Z ?_|refine aR Z Z ?_
 refine bb Z (jf [30,6,24,12,0,1,5,7] Z (jn (ao Z (fun z30=>?_) (fun z30=>?_))))
 refine ab (ag Z (bc (HS.lit O Z Z Z) Z (aA ?_)))
 refine jf [33,31,30,6,24,12,0,1,5,7] Z (bc (bE (xs:=(x.2.2).map fun n=>[D.int .i64 n]) (zs:=(x.2.2++[k]).map fun n=>[D.int .i64 n]) (n:=(x.2.2++[k]).length) O Z Z Z Z Z Z Z Z Z Z Z Z Z Z Z Z (.row Z (aQ _).symm) Z Z (by decide) Z (by simp;omega) (by simp;omega) (List.map_append (f:=fun n=>[D.int .i64 n]) (l₁:=x.2.2) (l₂:=[k])).symm (aQ _)) Z (aA ?_))
 refine aA ?_
 refine js Z (jf [5,30,6,24,12,0,1,7] Z (jn (ab (bb Z ?_))))
 first|refine fO Z Z ?_|refine er Z Z ?_|refine aR Z Z ?_
 refine js Z (jf [39,35,5,30,6,24,12,0,1,7] Z (bc (HS.lit O Z Z Z) Z (aA ?_)))
 refine jf [40,35,5,30,6,24,12,0,1,7] Z ?_
 first|refine bc (bE (xs:=(x.2.2++[k]).map fun n=>[D.int .i64 n]) (zs:=(x.2.2++[k]++[(xs.getD x.1 default)]).map fun n=>[D.int .i64 n]) (n:=(x.2.2++[k]++[(xs.getD x.1 default)]).length) O Z Z Z Z Z Z Z Z Z Z Z Z Z Z Z Z (.row Z (aQ _).symm) Z Z (by decide) Z (by simp;omega) (by simp;omega) (List.map_append (f:=fun n=>[D.int .i64 n]) (l₁:=x.2.2++[k]) (l₂:=[(xs.getD x.1 default)])).symm (aQ _)) Z ?_|refine bc (bE (xs:=(x.2.2).map fun n=>[D.int .i64 n]) (zs:=(x.2.2++[(xs.getD x.1 default)]).map fun n=>[D.int .i64 n]) (n:=(x.2.2++[(xs.getD x.1 default)]).length) O Z Z Z Z Z Z Z Z Z Z Z Z Z Z Z Z (.row Z (aQ _).symm) Z Z (by decide) Z (by simp;omega) (by simp;omega) (List.map_append (f:=fun n=>[D.int .i64 n]) (l₁:=x.2.2) (l₂:=[(xs.getD x.1 default)])).symm (aQ _)) Z ?_
 refine aA ?_
 refine aA ?_
 refine js Z (jf [5,30,6,24,12,0,1,7] Z (jn (ab (js Z ?_))))
 first|refine ji Z ?_|refine aR Z Z ?_
 refine js Z (jf [7,5,30,6,24,12,0,1] Z (jn ?_))
 refine⟨(x.1+1,true,x.2.2++[k]++[(xs.getD x.1 default)]),((aq [41] (e':=[(0,_),(1,_),(5,_),(6,_),(7,_)]) Z Z ⟨Z,Z,Z,Z,Z,aj⟩ Z).trans (am 41 900 Z Z)),⟨by show x.1+1≤_;omega,wh hxl hi.2 hpt.1 hpt.2 (bZ z30)⟩,by show xs.length-(x.1+1)<xs.length-x.1;omega⟩
 refine ac (ab (bb Z ?_))
 first|refine fO Z Z ?_|refine er Z Z ?_|refine aR Z Z ?_
 refine js Z (jf [39,35,30,6,24,12,0,1,5,7] Z (bc (HS.lit O Z Z Z) Z (aA ?_)))
 refine jf [40,35,30,6,24,12,0,1,5,7] Z ?_
 first|refine bc (bE (xs:=(x.2.2++[k]).map fun n=>[D.int .i64 n]) (zs:=(x.2.2++[k]++[(xs.getD x.1 default)]).map fun n=>[D.int .i64 n]) (n:=(x.2.2++[k]++[(xs.getD x.1 default)]).length) O Z Z Z Z Z Z Z Z Z Z Z Z Z Z Z Z (.row Z (aQ _).symm) Z Z (by decide) Z (by simp;omega) (by simp;omega) (List.map_append (f:=fun n=>[D.int .i64 n]) (l₁:=x.2.2++[k]) (l₂:=[(xs.getD x.1 default)])).symm (aQ _)) Z ?_|refine bc (bE (xs:=(x.2.2).map fun n=>[D.int .i64 n]) (zs:=(x.2.2++[(xs.getD x.1 default)]).map fun n=>[D.int .i64 n]) (n:=(x.2.2++[(xs.getD x.1 default)]).length) O Z Z Z Z Z Z Z Z Z Z Z Z Z Z Z Z (.row Z (aQ _).symm) Z Z (by decide) Z (by simp;omega) (by simp;omega) (List.map_append (f:=fun n=>[D.int .i64 n]) (l₁:=x.2.2) (l₂:=[(xs.getD x.1 default)])).symm (aQ _)) Z ?_
 refine aA ?_
 refine aA ?_
 refine js Z (jf [5,30,6,24,12,0,1,7] Z (jn (ab (js Z ?_))))
 first|refine ji Z ?_|refine aR Z Z ?_
 refine js Z (jf [7,5,30,6,24,12,0,1] Z (jn ?_))
 refine⟨(x.1+1,true,x.2.2++[(xs.getD x.1 default)]),((aq [41] (e':=[(0,_),(1,_),(5,_),(6,_),(7,_)]) Z Z ⟨Z,Z,Z,Z,Z,aj⟩ Z).trans (am 41 900 Z Z)),⟨by show x.1+1≤_;omega,wi hxl hi.2 hpt.1 hpt.2 (cS z30)⟩,by show xs.length-(x.1+1)<xs.length-x.1;omega⟩
 refine ac (ab (bb Z ?_))
 first|refine fO Z Z ?_|refine er Z Z ?_|refine aR Z Z ?_
 refine js Z (jf [39,35,24,12,0,1,5,6,7] Z (bc (HS.lit O Z Z Z) Z (aA ?_)))
 refine jf [40,35,24,12,0,1,5,6,7] Z ?_
 first|refine bc (bE (xs:=(x.2.2++[k]).map fun n=>[D.int .i64 n]) (zs:=(x.2.2++[k]++[(xs.getD x.1 default)]).map fun n=>[D.int .i64 n]) (n:=(x.2.2++[k]++[(xs.getD x.1 default)]).length) O Z Z Z Z Z Z Z Z Z Z Z Z Z Z Z Z (.row Z (aQ _).symm) Z Z (by decide) Z (by simp;omega) (by simp;omega) (List.map_append (f:=fun n=>[D.int .i64 n]) (l₁:=x.2.2++[k]) (l₂:=[(xs.getD x.1 default)])).symm (aQ _)) Z ?_|refine bc (bE (xs:=(x.2.2).map fun n=>[D.int .i64 n]) (zs:=(x.2.2++[(xs.getD x.1 default)]).map fun n=>[D.int .i64 n]) (n:=(x.2.2++[(xs.getD x.1 default)]).length) O Z Z Z Z Z Z Z Z Z Z Z Z Z Z Z Z (.row Z (aQ _).symm) Z Z (by decide) Z (by simp;omega) (by simp;omega) (List.map_append (f:=fun n=>[D.int .i64 n]) (l₁:=x.2.2) (l₂:=[(xs.getD x.1 default)])).symm (aQ _)) Z ?_
 refine aA ?_
 refine aA ?_
 refine js Z (jf [5,24,12,0,1,6,7] Z (jn (ab (js Z ?_))))
 first|refine ji Z ?_|refine aR Z Z ?_
 refine js Z (jf [7,5,24,12,0,1,6] Z (jn ?_))
 refine⟨(x.1+1,x.2.1,x.2.2++[(xs.getD x.1 default)]),((aq [41] (e':=[(0,_),(1,_),(5,_),(6,_),(7,_)]) Z Z ⟨Z,Z,Z,Z,Z,aj⟩ Z).trans (am 41 900 Z Z)),⟨by show x.1+1≤_;omega,wj hxl hi.2 (uD z24)⟩,by show xs.length-(x.1+1)<xs.length-x.1;omega⟩
 refine aM (aa (af ?_))
 have hxl: ¬x.1<xs.length:=by have:=cS z12;omega
 have hle:x.2.2.length≤1002:=by have:=(m5 (k:=k) (xs.take x.1)).1;rw[←hi.2,List.length_take]at this;omega
 refine ag Z (jn (ao Z (fun z43=>?_) (fun z43=>?_)))
 refine ab (ag Z (bc (HS.lit O Z Z Z) Z (aA ?_)))
 refine jf [46,44,43,42,12,0,1,5,6,7] Z (bc (bE (xs:=(x.2.2).map fun n=>[D.int .i64 n]) (zs:=(x.2.2++[k]).map fun n=>[D.int .i64 n]) (n:=(x.2.2++[k]).length) O Z Z Z Z Z Z Z Z Z Z Z Z Z Z Z Z (.row Z (aQ _).symm) Z Z (by decide) Z (by simp;omega) (by simp;omega) (List.map_append (f:=fun n=>[D.int .i64 n]) (l₁:=x.2.2) (l₂:=[k])).symm (aQ _)) Z (aA ?_))
 refine aA ?_
 refine js Z (jf [5,43,42,12,0,1,6,7] Z (bm (ag Z (jr ?_))))
 rw[r5 hxl hi.2 (lg z43)]
 refine⟨.inl Z,_,bt,_,Z,[47],by decide,Z,Z,Z⟩
 refine ac (af (ag Z (jr ?_)))
 rw[r4 hxl hi.2 (pZ z43)]
 refine⟨.inl Z,_,bt,_,Z,[900],by decide,Z,Z,Z⟩
variable{c:List In}
theorem wT{k:Nat}(hk:k<c.length)(hc:c.length≤1000):MQ h1 h2 104 [cn c,eI k] [] (Rows (.c (.rs 0 0 (tg (c.getD k default) k).length)) [ce (tg (c.getD k default) k)]):=by
 refine bd (jB 35 h1 h2 Tryz.func104 Z fun O hF=>?_)
 refine af (js Z (jn (aa (af (ag Z ?_)))))
 have hkc:k<c.length:=hk
 refine ak (ax O Z Z Z Z Z Z Z Z (bJ hk)) Z (ag Z (jf [9,4,0,1] Z (jn (ah (af (ag Z (jn (ao Z (fun z10=>?_) (fun z10=>?_)))))))))
 refine af (bc (HS.lit O Z Z Z) Z (aA ?_))
 refine js Z (jf [4,11,9,0,1] Z (jr ?_))
 rw[tg,if_pos (bZ z10)]
 refine⟨.inl Z,_,bt,_,Z,[12],by decide,Z,Z,Z⟩
 refine af (ag Z (jf [13,11,9,4,0,1] Z (jn (ao Z (fun z13=>?_) (fun z13=>?_)))))
 refine af (ag Z ?_)
 have hkc:k<c.length:=hk
 refine ak (ax O Z Z Z Z Z Z Z Z (bJ hk)) Z (ag Z (jf [19,11,9,4,0,1] Z (bc (HS.lit O Z Z Z) Z (aA ?_))))
 refine js Z (jf [4,11,9,0,1] Z (jr ?_))
 rw[tg,if_neg (cS z10),if_pos (bZ z13)]
 refine⟨.inl Z,_,bt,_,Z,[20],by decide,Z,Z,Z⟩
 refine af (ag Z (jf [21,11,9,4,0,1] Z (jn (ao Z (fun z21=>?_) (fun z21=>?_)))))
 refine af (js Z ?_)
 first|refine ji Z ?_|refine aR Z Z ?_
 refine jf [24,11,9,4,0,1] Z (bc (HS.lit O Z Z Z) Z (aA ?_))
 refine ag Z ?_
 have hkc:k<c.length:=hk
 refine ak (ax O Z Z Z Z Z Z Z Z (bJ hk)) Z (ag Z (jf [30,25,11,9,4,0,1] Z (aC O (B0:=32000) Z Z Z Z (u3 (xs:=[(k:Int)+1]) (k:=(c.getD k default).a) h1 h2 (by simp)) (.cons (.c (.whole Z Z)) (.cons (.c .d) .nil)) Z Z Z Z Z Z (aA ?_))))
 refine js Z (jf [4,11,9,0,1] Z (jr ?_))
 rw[tg,if_neg (cS z10),if_neg (cS z13),if_pos (bZ z21),←r6]
 refine⟨.inl Z,_,bt,_,Z,[32000],by decide,Z,Z,Z⟩
 refine ac (af (js Z ?_))
 first|refine ji Z ?_|refine aR Z Z ?_
 refine jf [33,11,9,4,0,1] Z (bc (HS.lit O Z Z Z) Z (aA ?_))
 refine js Z (jf [4,11,9,0,1] Z (jr ?_))
 rw[tg,if_neg (cS z10),if_neg (cS z13),if_neg (cS z21)]
 refine⟨.inl Z,_,bt,_,Z,[34],by decide,Z,Z,Z⟩
theorem t6{a:An}(hA:AOk a): ∀z∈((0:Int)::a.pts.map Pt.k),0≤z∧z≤100:=by
 intro z hz
 rcases List.mem_cons.1 hz with rfl|hz
 decide
 obtain⟨p,hp,rfl⟩:=List.mem_map.1 hz
 have:=hA.pts p hp;omega
theorem td{pre:List (List D)}{z:Int}{ws:List Int}:pre++(z::ws).map (fun n=>[D.int .i64 n])=(pre++[[D.int .i64 z]])++ws.map (fun n=>[D.int .i64 n]):=by simp
theorem tO{p q:List (List D)}{ws ts:List Int}:p++((q++ws.map (fun n=>[D.int .i64 n])).drop q.length++ts.map (fun n=>[D.int .i64 n]))=p++(ws++ts).map (fun n=>[D.int .i64 n]):=by simp
theorem tP{q:List (List D)}{ws ts:List Int}:((q++ws.map (fun n=>[D.int .i64 n])).drop q.length++ts.map (fun n=>[D.int .i64 n])).length=(ws++ts).length:=by simp
theorem wV{a:An}(hA:AOk a):MQ h1 h2 75 [ptr a.data] [] (Rows (.c (.rs 0 0 a.code.length)) [jc (cf a.code ((0:Int)::a.pts.map Pt.k))]):=by
 refine bd (jB 67 h1 h2 Tryz.func75 Z fun O hF=>?_)
 have hl:a.code.length≤L:=by simpa[As.fact,A.fact,M.fact,D.fact,Ds.fact]using hF.1.2.2.1.1
 have hlp:a.pts.length≤L:=by simpa[As.fact,A.fact,M.fact,D.fact,Ds.fact]using hF.1.2.2.2.1.1
 have h80:=hA.len
 have h8:=hA.np
 have htg:=hA.tg
 have hse:((0:Int)::a.pts.map Pt.k).length=a.pts.length+1:=by simp
 refine af (js Z (bm (bp Z ?_)))
 first|refine bP Z ?_|refine js Z ?_|refine aR Z Z ?_
 refine jf [11,2,0] Z (bc (fo O Z Z Z Z Z Z Z Z Z (by first|omega|(simp at *;omega)) (by first|omega|(simp at *;omega)) (by first|omega|(simp at *;omega)) (by first|omega|(dsimp only;omega)|(simp only[aS]at *;omega)) (by first|omega|(simp at *;omega)) Z Z Z) Z (aA ?_))
 refine js Z (jf [3,2,0] Z (bm (bc (HS.lit O Z Z Z) Z (aA ?_))))
 refine js Z (jn (aa (af (js Z (jn (ah (al (X:=Nat) (fun i=>⟨[(0,ptr a.data),(3,.c (.rs 12 0 a.code.length)),(4,.c (.rs 900 0 ((0:Int)::(a.pts.take i).map Pt.k).length)),(5,eI i)],[(12,jc (List.replicate a.code.length false)),(900,ce ((0:Int)::(a.pts.take i).map Pt.k))]⟩) (fun i=>i≤a.pts.length) (fun i=>a.pts.length-i) 0 ((am 13 900 Z Z).trans (Ent.to ⟨Z,Z,Z,Z,aj⟩ (by rw[jc,List.map_replicate];rfl))) ?_ (fun i hi=>?_))))))))
 exact co _
 refine aa (af (bp Z (js Z ?_)))
 first|refine bP Z ?_|refine js Z ?_|refine aR Z Z ?_
 refine js Z (jf [20,0,3,4,5] Z (jn (ao Z (fun z20=>?_) (fun z20=>?_))))
 refine ac (aa (ah (ab (bp Z (ag Z ?_)))))
 have hil:i<a.pts.length:=by have:=bZ z20;omega
 refine fO Z Z (ag Z (jf [31,23,20,0,3,4,5] Z (bc (HS.lit O Z Z Z) Z (aA ?_))))
 refine jf [32,23,20,0,3,4,5] Z ?_
 have hs1:((0:Int)::(a.pts.take (i+1)).map Pt.k)=((0:Int)::(a.pts.take i).map Pt.k)++[(a.pts.getD i default).k]:=by rw[List.take_succ_eq_append_getElem hil,au hil,List.map_append];rfl
 refine bc (bE (zs:=(((0:Int)::(a.pts.take (i+1)).map Pt.k)).map fun n=>[.int .i64 n]) (n:=((0:Int)::(a.pts.take (i+1)).map Pt.k).length) O Z Z Z Z Z Z Z Z Z Z Z Z Z Z Z Z (.row Z (aQ _).symm) Z Z (by decide) Z (by simp;omega) (by simp;omega) (by rw[hs1,List.map_append];rfl) (aQ _)) Z (aA ?_)
 refine aA ?_
 refine js Z (jf [4,20,0,3,5] Z (jn (ab (js Z ?_))))
 first|refine ji Z ?_|refine aR Z Z ?_
 refine js Z (jf [5,4,20,0,3] Z (jn ?_))
 refine⟨i+1,((aq [12,33] (e':=[(0,_),(3,_),(4,_),(5,_)]) Z Z ⟨Z,Z,Z,Z,aj⟩ Z).trans (am 33 900 Z Z)).trans (Ent.to ⟨Z,Z,Z,Z,aj⟩ Z),by omega,by omega⟩
 refine aM (aa (ah (al (X:=List Bool×List Int×List (List D)) (fun x=>⟨[(0,ptr a.data),(3,.c (.rs 12 0 a.code.length)),(4,.c (.rs 901 x.2.2.length x.2.1.length))],[(12,jc x.1),(901,.row true 1 (x.2.2++x.2.1.map (fun n=>[D.int .i64 n])))]⟩) (fun x=>Rsh a.code ((0:Int)::a.pts.map Pt.k) x.1 x.2.1∧x.2.2.length+x.2.1.length+3*ee x.1≤3*a.code.length+(a.pts.length+1)) (fun x=>3*ee x.1+x.2.1.length) (List.replicate a.code.length false,((0:Int)::a.pts.map Pt.k),[]) ((am 900 901 Z Z).trans (Ent.to ⟨Z,Z,(by rw[show a.pts.take i=a.pts from List.take_of_length_le (by have:=cS z20;omega)];rfl),aj⟩ (by rw[show a.pts.take i=a.pts from List.take_of_length_le (by have:=cS z20;omega)];rfl))) ?_ (fun x hi=>?_))))
 exact⟨Rsh.zero (t6 hA),by show 0+((0:Int)::a.pts.map Pt.k).length+3*ee (List.replicate a.code.length false)≤_;rw[lQ,hse];omega⟩
 refine aa (af ?_)
 obtain⟨u,eu⟩: ∃u,u=x.1:=⟨_,rfl⟩
 obtain⟨ws,ew⟩: ∃ws,ws=x.2.1:=⟨_,rfl⟩
 obtain⟨pre,ep⟩: ∃pre,pre=x.2.2:=⟨_,rfl⟩
 rw[←eu,←ew,←ep]at hi ⊢
 obtain⟨hi1,hi2⟩:=hi
 have hul:=hi1.len
 have hwl:ws.length≤300:=by omega
 refine js Z ?_
 first|refine bP Z ?_|refine js Z ?_|refine aR Z Z ?_
 refine js Z (jf [36,0,3,4] Z (jn (ao Z (fun z36=>?_) (fun z36=>?_))))
 refine ac (ah (af ?_))
 obtain⟨z,w2,ez⟩: ∃z w2,ws=z::w2:=by cases ws with|nil=>cases z36|cons z w2=>exact⟨_,_,rfl⟩
 rw[ez]at hi1 hi2
 rw[ez,show(z::w2).length=w2.length+1 from Z]
 have hzz:=hi1.nn z (by simp)
 obtain⟨pre2,ep2⟩: ∃pre2,pre2=pre++[[D.int .i64 z]]:=⟨_,rfl⟩
 have hpl:pre2.length=pre.length+1:=by rw[ep2];simp
 have hi2a:pre2.length+w2.length+3*ee u≤3*a.code.length+(a.pts.length+1):=by simp only[dF]at hi2;omega
 have hcu:ee u≤a.code.length:=by rw[←hul];exact List.count_le_length
 refine js Z (ak ((c6 O Z Z (by omega)).cast (v':=.c (.pt 901 pre.length 0)) Z) Z (ak (aW O (ex:=[.int .i64 z]) Z Z Z Z (by rw[List.getElem?_append_right (cm _),Nat.sub_self];rfl) Z) Z ?_))
 refine js Z (jf [6,36,0,3,4] Z (bm (js Z (ak (fw O Z Z Z Z Z Z Z Z Z) Z ?_))))
 rw[←hpl,td,←ep2]
 refine js Z (jf [4,6,36,0,3] Z (jn (aa (aa (bu ⟨[(54,eB (bif decide ((a.code.length:Int)≤z)then true else u.getD z.toNat default)),(0,ptr a.data),(3,.c (.rs 12 0 a.code.length)),(4,.c (.rs 901 pre2.length w2.length)),(6,eI z)],[(12,jc u),(901,.row true 1 (pre2++w2.map (fun n=>[D.int .i64 n])))]⟩ ?_ ?_)))))
 refine ab (bp Z (js Z ?_))
 first|refine bP Z ?_|refine js Z ?_|refine aR Z Z ?_
 refine js Z ?_
 cases hb49:decide ((a.code.length:Int)≤z)with
 | true=>
  refine js Z (jf [49,4,6,36,0,3] Z (ay Z (ay Z (ay Z (jf [52,49,4,6,36,0,3] Z (ay Z (ak (aB O Z Z Z Z Z) Z (jf [54,4,6,36,0,3] Z (jn ?_)))))))))
  exact⟨Z,Ent.to ⟨Z,Z,Z,Z,Z,aj⟩ Z⟩
 | false=>
  have hzn:z<(a.code.length:Int):=by have:=cS hb49;omega
  refine js Z (jf [49,4,6,36,0,3] Z (bh Z (js Z (bh Z (js Z (bh Z (aR Z Z (jf [52,49,4,6,36,0,3] Z (bh Z (ak (aW O (ex:=bL (u.getD z.toNat default)) Z Z Z Z (vg (by omega) (by omega)) Z) Z (ak (ap O Z Z Z Z Z) Z (jf [54,4,6,36,0,3] Z (jn ?_)))))))))))))
  exact⟨Z,Ent.to ⟨Z,Z,Z,Z,Z,aj⟩ Z⟩
 refine ao Z (fun z54=>?_) (fun z54=>?_)
 refine aM ?_
 refine⟨(u,w2,pre2),Ent.to ⟨Z,Z,Z,aj⟩ Z,⟨hi1.out (ws':=w2) (fun y=>List.mem_cons) (fun hl=>?_),hi2a⟩,by show 3*ee u+w2.length<3*ee u+(w2.length+1);omega⟩
 rcases(show(decide ((a.code.length:Int)≤z)=true∨u.getD z.toNat default=true) by generalize decide ((a.code.length:Int)≤z)=b at z54;cases b;exact .inr z54;exact .inl rfl)with g|g
 have:=bZ g;omega
 exact g
 refine ac (af ?_)
 obtain⟨k,rfl⟩: ∃k:Nat,z=(k:Int):=⟨z.toNat,by omega⟩
 obtain⟨z7,z8⟩:=yD z54
 have hkn:k<a.code.length:=by have:=cS z7;omega
 have hcs:=ny (u:=u) (j:=k) (by omega) z8
 have htl:=rt (x:=a.code.getD k default) (k:=k)
 refine ag Z ?_
 first|refine fO Z Z ?_|refine er Z Z ?_|refine aR Z Z ?_
 refine jf [57,54,0,3,4,6] Z (bc (bl (ex:=bL (u.getD k default)) (xs':=(u.set k true).map bL) O Z Z Z Z Z Z Z Z Z Z Z Z Z Z (vg (by omega) (by omega)) (yC (v:=true) (by omega) Z)) Z (aA ?_))
 refine aA ?_
 refine jn (ab (bp Z (ag Z (jf [63,62,58,57,54,0,3,4,6] Z (aC O (B0:=65000) Z Z Z Z (wT (c:=a.code) (k:=k) h1 h2 hkn (by omega)) (ae Z) Z Z Z Z Z Z (aA ?_))))))
 refine jf [64,58,57,54,0,3,4,6] Z (mJ O Z Z Z Z Z Z Z Z Z Z Z Z Z Z Z Z Z (by simp) (.whole Z (aQ _).symm (.inl qt)) qr Z (by simp only[cG,aQ,dF,List.length_nil];omega) (by show _*8≤_;simp only[cG,aQ,dF,List.length_nil];omega) Z (fun pre3 hp3=>?_))
 refine aA ?_
 rw[tO,tP]
 refine aA ?_
 refine js Z (jf [4,57,54,0,3,6] Z (jn ?_))
 have hin:=nF htg hi1 (ws':=w2) (fun y=>List.mem_cons) (by omega) (by omega)
 refine⟨(u.set k true,w2++tg (a.code.getD k default) k,pre3),((aq [12,65] (e':=[(0,_),(3,_),(4,_)]) Z Z ⟨Z,Z,Z,aj⟩ Z).trans (am 65 901 Z Z)).trans (Ent.to ⟨Z,Z,Z,aj⟩ Z),⟨hin,?_⟩,?_⟩
 show pre3.length+(w2++tg (a.code.getD k default) k).length+3*ee (u.set k true)≤_
 rw[cG];omega
 show 3*ee (u.set k true)+(w2++tg (a.code.getD k default) k).length<3*ee u+(w2.length+1)
 rw[cG];omega
 refine aM (af (ag Z (jr ?_)))
 have hw0:ws=[]:=by cases ws with|nil=>rfl|cons z w2=>have h9: ¬(0:Int)<((z::w2).length:Nat):=cS z36;rw[dF]at h9;omega
 rw[hw0]at hi1
 rw[←hi1.done]
 refine⟨.inl Z,_,bt,_,Z,[12],by decide,Z,Z,Z⟩
theorem wN:MQ h1 h2 144 [.c (.d (.int .u64 2))] [] (Plain (eI 2)):=by
 refine av ?_ Z
 refine jB 25 h1 h2 Tryz.func144 Z fun O hF=>?_
 refine af (js Z (jn (aa (af (ag Z (jn (ao Z (fun z4=>?_) (fun z4=>?_))))))))
 exact absurd z4 (by decide)
 refine ac (aa (af (ag Z (jn (ao Z (fun z8=>?_) (fun z8=>?_))))))
 exact absurd z8 (by decide)
 refine ac (aa (af (ag Z (jn (ao Z (fun z14=>?_) (fun z14=>?_))))))
 exact absurd z14 (by decide)
 refine ac (af (ag Z (ak ((Val.conv O (k':=.u8) (dt:=.int .u64) (b:=true) Z Z Z (by kernel_rfl) (by kernel_rfl)).cast (v':=.c (.d (.int .u8 2))) Z) Z (ak (Val.of O (v:=.c (.d (.int .u8 2))) (by kernel_rfl) (by kernel_rfl)) Z (ak ((Val.conv O (k':=.i64) (dt:=.int .u8) (b:=true) Z Z Z (by kernel_rfl) (by kernel_rfl)).cast (v':=eI 2) Z) Z (ak ((aL O Z Z (by decide) (by decide)).cast (v':=eI 2) Z) Z (js Z (jr ?_))))))))
 refine aD Z ?_
 rfl
theorem wQ:MQ h1 h2 129 [.c (.d (.int .u64 2))] [] (Plain (eI 2)):=by
 refine av ?_ Z
 refine jB 8 h1 h2 Tryz.func129 Z fun O hF=>?_
 refine af (js Z (jn (aa (ao Z (fun hc=>?_) (fun hc=>?_)))))
 cases hc
 refine ac (af (js Z (ba Z (wN h1 h2) 8000 Z (js Z (jr ?_)))))
 refine aD Z ?_
 rfl
theorem wM{x:Int}:MQ h1 h2 154 [eI x] [] (Plain (eB false)):=by
 refine av ?_ Z
 refine jB 6 h1 h2 Tryz.func154 Z fun O hF=>?_
 refine af (js Z (bm (bp Z (jr ?_))))
 refine aD Z ?_
 simp
theorem wO{x y:Int}:MQ h1 h2 140 [eI x,eI y] [] (Plain (eB (decide (x<y)))):=by
 refine av ?_ Z
 refine jB 17 h1 h2 Tryz.func140 Z fun O hF=>?_
 refine af (js Z (bm (js Z (ba Z (wM (x:=x) h1 h2) 7000 Z (js Z (ay Z (ay Z (ay Z (ak (ap O Z Z Z Z Z) Z (js Z (bh Z (js Z (bh Z (js Z (bh Z (js Z (ak (ap O Z Z Z Z Z) Z (js Z (jr ?_)))))))))))))))))))
 refine aD Z ?_
 rfl
def pW(x y:Int):List Int:=if y<x then[y,x]else[x,y]
theorem wc{x y:Int}(h:y<x):pW x y=[y,x]:=if_pos h
theorem wd{x y:Int}(h: ¬y<x):pW x y=[x,y]:=if_neg h
theorem uf{a b:Bool}(h:(bif a then b else false)=true):a=true∧b=true:=by cases a<;>cases b<;>simp_all
variable{a b:Int}
theorem wP:MQ h1 h2 134 [.c (.rs 0 0 2),eI 0,eI 2] [(0,ce [a,b])] (fA (.tup []) [(0,ce (pW a b))]):=by
 refine d9 500 Z (jH 49 [500] h1 h2 Tryz.func134 Z fun O hF=>?_)
 refine af (js Z (ak ((aL O Z Z (by decide) (by decide)).cast (v':=eI 1) Z) Z (js Z (jf [6,0,1,2] Z (jn (ah (al (X:=Int×List Int) (fun x=>⟨[(0,.c (.rs 500 0 2)),(1,eI 0),(2,eI 2),(6,eI x.1)],[(500,ce x.2)]⟩) (fun x=>(x.1=1∧x.2=[a,b])∨(x.1=2∧x.2=pW a b)) (fun x=>(2-x.1).toNat) (1,[a,b]) (Ent.to ⟨Z,Z,Z,Z,aj⟩ Z) ?_ (fun x hi=>?_))))))))
 exact .inl ⟨Z,Z⟩
 refine aa (af (bb Z (jf [12,0,1,2,6] Z (jn (ao Z (fun z12=>?_) (fun z12=>?_))))))
 refine ac (aa (ah (af ?_)))
 obtain⟨ex1,ex2⟩:x.1=1∧x.2=[a,b]:=hi.resolve_right (fun g=>by rw[g.1]at z12;exact absurd z12 (by decide))
 rw[ex1,ex2]
 refine ag Z (jn (ah (al (X:=Int×List Int) (fun z=>⟨[(0,.c (.rs 500 0 2)),(1,eI 0),(2,eI 2),(6,eI 1),(7,eI z.1)],[(500,ce z.2)]⟩) (fun z=>(z.1=1∧z.2=[a,b])∨(z.1=0∧z.2=[b,a]∧b<a)) (fun z=>z.1.toNat) (1,[a,b]) (Ent.to ⟨Z,Z,Z,Z,Z,aj⟩ Z) ?_ (fun z hi=>?_))))
 exact .inl ⟨Z,Z⟩
 refine aa (aa (bu ⟨[(30,eB (bif decide ((0:Int)<z.1)then decide (b<a)else false)),(0,.c (.rs 500 0 2)),(1,eI 0),(2,eI 2),(6,eI 1),(7,eI z.1)],[(500,ce z.2)]⟩ ?_ ?_))
 cases hb4:decide ((0:Int)<z.1)with
 | true=>
  obtain⟨g1,g2⟩:z.1=1∧z.2=[a,b]:=hi.resolve_right (fun g=>by have:=bZ hb4;omega)
  rw[g1,g2]
  refine jV [_,_,_,_,_,_,_,_,_,_,_,_,_,_,_] [aN,aN,ar [0,1],ar [0,1,2],ar (rg 0 4),ar (rg 0 4),ar (rg 0 6),ar (rg 0 7),ar (rg 0 4),ar (rg 0 4),ar [0,1,2,3,9],ar [0,1,2,3,8,9,10],ar (rg 0 4++rg 8 4),pe (rg 0 13) 0,pn (rg 0 14) 1 1] [13] [_,_] (kc Z (kc Z (ai ((V Z).cast (v':=eB true) Z) (kc Z (kc Z (kc Z (ai ((V Z).cast (v':=.c (.pt 500 1 0)) Z) (ai (aW O (ex:=[.int .i64 b]) Z Z Z Z Z Z) (kc Z (kc Z (ai ((aL O Z Z (by decide) (by decide)).cast (v':=eI 0) Z) (ai ((V Z).cast (v':=.c (.pt 500 0 0)) Z) (ai (aW O (ex:=[.int .i64 a]) Z Z Z Z Z Z) (ai (aG O (B0:=30000) Z Z Z Z (wO (x:=b) (y:=a) h1 h2) (ae Z) Z Z Z Z Z) (ai (aB O Z Z Z Z Z) trivial))))))))))))))) ?_
  exact⟨Z,Ent.to ⟨Z,Z,Z,Z,Z,Z,aj⟩ Z⟩
 | false=>
  refine jV [_,_,_,_,_,_,_,_,_,_,_,_,_,_,_] [aN,aN,ar [0,1],ar [0,1,2],ar (rg 0 4),ar (rg 0 4),ar (rg 0 6),ar (rg 0 7),ar (rg 0 4),ar (rg 0 4),ar [0,1,2,3,9],ar [0,1,2,3,8,9,10],ar (rg 0 4++rg 8 4),ar (rg 0 13),ar (rg 0 14)] [] [_] (kc Z (kc Z (ai ((V Z).cast (v':=eB false) (congrArg eB hb4)) (kc Z (ai ⟨Z,Z⟩ (ai ⟨Z,Z⟩ (ai ⟨Z,Z⟩ (ai ⟨Z,Z⟩ (ai ⟨Z,Z⟩ (ai ⟨Z,Z⟩ (ai ⟨Z,Z⟩ (ai ⟨Z,Z⟩ (ai ⟨Z,Z⟩ (ai ⟨Z,Z⟩ (ai (ap O Z Z Z Z Z) trivial))))))))))))))) ?_
  exact⟨Z,Ent.to ⟨Z,Z,Z,Z,Z,Z,aj⟩ Z⟩
 refine ao Z (fun z30=>?_) (fun z30=>?_)
 refine ac (aa (ah ?_))
 obtain⟨z8,z9⟩:=uf z30
 have hlt:b<a:=bZ z9
 obtain⟨ez1,ez2⟩:z.1=1∧z.2=[a,b]:=hi.resolve_right (fun g=>by have:=bZ z8;omega)
 rw[ez1,ez2]
 refine gK [_,_,_,_,_,_,_,_,_,_,_,_,_,_,_,_,_,_] [aN,aN,pn [] 0 1,pn [] 0 1,pn [3] 0 1,aN,aN,ar [6],ar [5,6,7],ar (rg 5 4),aN,aN,ar [10,11],ar [10,11,12],ar ([0,1]++rg 5 9),pe ([0,1]++rg 5 10) 0,pn (rg 0 16) 1 1,pe (rg 0 17) 1] [15,17] [_,_,_] (kc Z (kc Z (ai (kc Z (V Z)) (ai (kc Z (V Z)) (ai (ai ((aL O Z Z (by decide) (by decide)).cast (v':=eI 0) Z) ((aL O Z Z (by decide) (by decide)).cast (v':=eI 0) Z)) (kc Z (kc Z (ai ((aL O Z Z (by decide) (by decide)).cast (v':=eI 0) Z) (ai ((V Z).cast (v':=.c (.pt 500 0 0)) Z) (ai (aW O (ex:=[.int .i64 a]) Z Z Z Z Z Z) (kc Z (kc Z (ai ((V Z).cast (v':=.c (.pt 500 1 0)) Z) (ai (aW O (ex:=[.int .i64 b]) Z Z Z Z Z Z) (ai ((V Z).cast (v':=.c (.pt 500 1 0)) Z) (ai (f4 (ex:=[.int .i64 b]) (xs':=[a,a].map (fun n=>[D.int .i64 n])) O Z Z Z Z Z Z Z Z Z Z Z Z Z Z Z Z Z Z) (ai ((V Z).cast (v':=.c (.pt 500 0 0)) Z) (ai (f4 (ex:=[.int .i64 a]) (xs':=[b,a].map (fun n=>[D.int .i64 n])) O Z Z Z Z Z Z Z Z Z Z Z Z Z Z Z Z Z Z) trivial)))))))))))))))))) ?_
 refine jw [30,0,1,2,6,7] Z (ld ?_)
 refine ab (js Z (ak ((aL O Z Z (by decide) (by decide)).cast (v':=eI 0) Z) Z (js Z (jf [7,30,0,1,2,6] Z (jn ?_)))))
 refine⟨(0,[b,a]),Ent.to ⟨Z,Z,Z,Z,Z,aj⟩ Z,.inr ⟨Z,Z,hlt⟩,by show(0:Int).toNat<(1:Int).toNat;decide⟩
 refine aM (ab ?_)
 have hz9:pW a b=z.2:=by
  rcases hi with⟨g1,g2⟩|⟨g1,g2,g3⟩
  rw[g2];exact wd (fun g=>by rw[g1,decide_eq_true g]at z30;cases z30)
  rw[g2];exact wc g3
 refine js Z (ak ((aL O Z Z (by decide) (by decide)).cast (v':=eI 2) Z) Z (js Z (jf [6,30,0,1,2,7] Z (jn ?_))))
 refine⟨(2,pW a b),Ent.to ⟨Z,Z,Z,Z,aj⟩ (by rw[hz9]),.inr ⟨Z,Z⟩,by show((2:Int)-2).toNat<((2:Int)-1).toNat;decide⟩
 refine aM ?_
 show _∧_
 obtain⟨ex1,ex2⟩:x.1=2∧x.2=pW a b:=hi.resolve_left (fun g=>by rw[g.1]at z12;exact absurd z12 (by decide))
 rw[ex2]
 refine⟨.inr Z,_,bt,_,Z,Z,Z⟩
theorem wR:MQ h1 h2 128 [.c (.rs 0 0 2),eI 0,eI 2,eI 2] [(0,ce [a,b])] (fA (.tup []) [(0,ce (pW a b))]):=by
 refine d9 500 Z (jH 134 [500] h1 h2 Tryz.func128 Z fun O hF=>?_)
 refine af (js Z (bm (js Z (jn (ah (al (X:=Unit) (fun _u=>⟨[(0,.c (.rs 500 0 2)),(1,eI 0),(2,eI 2)],[(500,ce [a,b])]⟩) (fun _u=>True) (fun _u=>0) () (Ent.to ⟨Z,Z,Z,aj⟩ Z) ?_ (fun _ hi=>?_)))))))
 trivial
 refine ah (af (ag Z (ak ((aL O Z Z (by decide) (by decide)).cast (v':=eI 2) Z) Z (js Z (jf [10,0,1,2] Z (jn (aa (af (ag Z (jn (ao Z (fun z23=>?_) (fun z23=>?_))))))))))))
 refine af (bb Z (bH O [500] (bin:=[ce [a,b]]) Z Z Z Z (wP (a:=a) (b:=b) h1 h2) Z Z Z Z Z Z (B0:=28000) Z Z (aA ?_)))
 refine jf [23,22,10,0,1,2] Z (jr ?_)
 refine⟨.inl Z,_,bt,_,Z,Z,Z⟩
 exact absurd z23 (by decide)
theorem wS:MQ h1 h2 117 [.c (.rs 0 0 2)] [(0,ce [a,b])] (fA (.tup []) [(0,ce (pW a b))]):=by
 refine d9 500 Z (jH 11 [500] h1 h2 Tryz.func117 Z fun O hF=>?_)
 refine af (js Z ?_)
 first|refine bP Z ?_|refine js Z ?_|refine aR Z Z ?_
 refine js Z (jf [2,0] Z (jn (ab (bb Z (ak ((Val.conv O (k':=.u64) (dt:=.int .i64) (b:=true) Z Z Z (by kernel_rfl) (by kernel_rfl)).cast (v':=.c (.d (.int .u64 2))) Z) Z (jf [8,6,5,0] Z (ba Z (wQ h1 h2) 10000 Z (jf [9,6,5,0] Z (bH O [500] (bin:=[ce [a,b]]) Z Z Z Z (wR (a:=a) (b:=b) h1 h2) Z Z Z Z Z Z (B0:=11000) Z Z (aA ?_))))))))))
 refine jf [0] Z (jn ?_)
 show _∧_
 refine⟨.inr Z,_,bt,_,Z,Z,Z⟩
theorem rL:MQ h1 h2 118 [.c (.rs 0 0 2)] [(0,ce [a,a])] (fA (.c (.rs 0 0 1)) [(0,ce [a,0])]):=by
 refine d9 500 Z (jH 61 [500] h1 h2 Tryz.func118 Z fun O hF=>?_)
 refine af (js Z (jn (aa (af (js Z ?_)))))
 first|refine bP Z ?_|refine js Z ?_|refine aR Z Z ?_
 refine js Z (jf [8,2,0] Z (jn (ao Z (fun z8=>?_) (fun z8=>?_))))
 exact absurd z8 (by decide)
 refine ac (aa (af (js Z (jn (ah (al (X:=Int) (fun k=>⟨[(0,.c (.rs 500 0 2)),(3,eI k)],[(500,ce [a,a])]⟩) (fun k=>k=1∨(k=2∧False)) (fun k=>(2-k).toNat) 1 (Ent.to ⟨Z,Z,aj⟩ Z) ?_ (fun k hi=>?_)))))))
 exact .inl Z
 refine aa (af (ag Z ?_))
 first|refine bP Z ?_|refine js Z ?_|refine aR Z Z ?_
 refine js Z (jf [13,0,3] Z (jn (ao Z (fun z13=>?_) (fun z13=>?_))))
 refine ac (aa (ah (aa ?_)))
 obtain ek:k=1:=hi.resolve_right (fun g=>g.2)
 rw[ek]
 refine gK [_,_,_,_,_,_,_,_,_,_] [aN,aN,ar [0,1],ar [0,1,2],aN,aN,ar [5],ar [4,5,6],ar (rg 4 4),ar (rg 0 9)] [] [_] (kc Z (kc Z (ai ((V Z).cast (v':=.c (.pt 500 1 0)) Z) (ai (aW O (ex:=[.int .i64 a]) Z Z Z Z Z Z) (kc Z (kc Z (ai ((aL O Z Z (by decide) (by decide)).cast (v':=eI 0) Z) (ai ((V Z).cast (v':=.c (.pt 500 0 0)) Z) (ai (aW O (ex:=[.int .i64 a]) Z Z Z Z Z Z) (kc Z trivial)))))))))) ?_
 refine jw [25,13,0,3] Z (ld ?_)
 refine ao Z (fun z25=>?_) (fun z25=>?_)
 refine af (ag Z (ak (fw O Z Z Z Z Z Z Z Z Z) Z (js Z (jf [4,25,13,0,3] Z (jn (aa (af (js Z (jn (ah (al (X:=Unit) (fun _u=>⟨[(0,.c (.rs 500 0 2)),(3,eI 1),(4,.c (.rs 500 1 1)),(5,eI 1)],[(500,ce [a,a])]⟩) (fun _u=>True) (fun _u=>0) () (Ent.to ⟨Z,Z,Z,Z,aj⟩ Z) ?_ (fun _ hi=>?_))))))))))))
 trivial
 refine aa (af (ag Z ?_))
 first|refine bP Z ?_|refine js Z ?_|refine aR Z Z ?_
 refine js Z (jf [32,0,3,4,5] Z (jn (ao Z (fun z32=>?_) (fun z32=>?_))))
 exact absurd z32 (by decide)
 refine aM (af (ag Z (ak (fw O Z Z Z Z Z Z Z Z Z) Z (jf [56,32,0,3,4,5] Z (bc (qH (z:=.int .i64 0) (ex:=[.int .i64 a]) (xs':=[a,0].map (fun n=>[D.int .i64 n])) O Z Z Z Z Z Z Z Z Z Z Z Z Z Z Z Z Z Z Z) Z (aA ?_))))))
 refine aA ?_
 refine bm (ag Z (ak (i6 O Z Z Z Z Z Z Z Z Z (m:=1) Z (by decide)) Z (js Z (jf [2,56,32,0,3,4,5] Z (jr ?_)))))
 refine⟨.inl Z,_,bt,_,Z,Z,Z⟩
 exact absurd z25 (by rw[decide_eq_true Z];decide)
 refine aM (af (ag Z (jr ?_)))
 have ek:k=1:=hi.resolve_right (fun g=>g.2)
 rw[ek]at z13
 exact absurd z13 (by decide)
theorem rK(hab: ¬b=a):MQ h1 h2 118 [.c (.rs 0 0 2)] [(0,ce [a,b])] (fA (.c (.rs 0 0 2)) [(0,ce [a,b])]):=by
 refine d9 500 Z (jH 61 [500] h1 h2 Tryz.func118 Z fun O hF=>?_)
 refine af (js Z (jn (aa (af (js Z ?_)))))
 first|refine bP Z ?_|refine js Z ?_|refine aR Z Z ?_
 refine js Z (jf [8,2,0] Z (jn (ao Z (fun z8=>?_) (fun z8=>?_))))
 exact absurd z8 (by decide)
 refine ac (aa (af (js Z (jn (ah (al (X:=Int) (fun k=>⟨[(0,.c (.rs 500 0 2)),(3,eI k)],[(500,ce [a,b])]⟩) (fun k=>k=1∨k=2) (fun k=>(2-k).toNat) 1 (Ent.to ⟨Z,Z,aj⟩ Z) ?_ (fun k hi=>?_)))))))
 exact .inl Z
 refine aa (af (ag Z ?_))
 first|refine bP Z ?_|refine js Z ?_|refine aR Z Z ?_
 refine js Z (jf [13,0,3] Z (jn (ao Z (fun z13=>?_) (fun z13=>?_))))
 refine ac (aa (ah (aa ?_)))
 obtain ek:k=1:=hi.resolve_right (fun g=>by rw[g]at z13;exact absurd z13 (by decide))
 rw[ek]
 refine gK [_,_,_,_,_,_,_,_,_,_] [aN,aN,ar [0,1],ar [0,1,2],aN,aN,ar [5],ar [4,5,6],ar (rg 4 4),ar (rg 0 9)] [] [_] (kc Z (kc Z (ai ((V Z).cast (v':=.c (.pt 500 1 0)) Z) (ai (aW O (ex:=[.int .i64 b]) Z Z Z Z Z Z) (kc Z (kc Z (ai ((aL O Z Z (by decide) (by decide)).cast (v':=eI 0) Z) (ai ((V Z).cast (v':=.c (.pt 500 0 0)) Z) (ai (aW O (ex:=[.int .i64 a]) Z Z Z Z Z Z) (kc Z trivial)))))))))) ?_
 refine jw [25,13,0,3] Z (ld ?_)
 refine ao Z (fun z25=>?_) (fun z25=>?_)
 exact absurd (bZ z25) hab
 refine ac (ab (js Z (ak ((aL O Z Z (by decide) (by decide)).cast (v':=eI 2) Z) Z (js Z (jf [3,25,13,0] Z (jn ?_))))))
 refine⟨2,Ent.to ⟨Z,Z,aj⟩ Z,.inr Z,by show((2:Int)-2).toNat<((2:Int)-1).toNat;decide⟩
 refine aM (af (ag Z (jr ?_)))
 refine⟨.inl Z,_,bt,_,Z,Z,Z⟩
theorem rq{x k:Int}:(if x<k then[x,k]else if x=k then[k]else[k,x])=if x=k then[k]else pW k x:=by
 unfold pW
 by_cases h1:x<k
 rw[if_pos h1,if_neg (by omega),if_pos h1]
 rw[if_neg h1,if_neg h1]
theorem s5{a b:Int}: ∃p q,pW a b=[p,q]∧(a≠b→¬q=p)∧(a=b→p=b∧q=b):=by
 unfold pW
 by_cases h:b<a
 exact⟨b,a,if_pos h,fun h=>h,fun h=>⟨Z,h⟩⟩
 exact⟨a,b,if_neg h,fun h g=>h g.symm,fun h=>⟨h,Z⟩⟩
theorem jC{p:Prop}[Decidable p](h:decide p=false): ¬p:=cS h
theorem wU{k:Nat}(hk:k<c.length)(hc:c.length≤1000):MQ h1 h2 97 [cn c,eI k] [] (Rows (.c (.rs 0 0 (tg (c.getD k default) k).length)) [ce (tg (c.getD k default) k)]):=by
 refine bd (jB 35 h1 h2 Tryz.func97 Z fun O hF=>?_)
 refine af (js Z (bm (ag Z (ak (ax O Z Z Z Z Z Z Z Z (bJ hk)) Z (ag Z ?_)))))
 first|refine ji Z ?_|refine aR Z Z ?_
 refine jf [13,11,4] Z (jl Z (aA ?_))
 refine jo Z (aA ?_)
 refine js Z (jf [6,5,4] Z (jn (aa (af (ag Z (jn (ah (af (ag Z (jn (ao Z (fun z16=>?_) (fun z16=>?_))))))))))))
 refine af (js Z (jr ?_))
 rw[tg,if_pos (bZ z16)]
 refine⟨.inl Z,_,(jT 4 900 1 true Z Z).trans (Ent.to (e':=[(4,_)]) ⟨Z,aj⟩ Z),_,Z,[900],by decide,Z,Z,Z⟩
 refine af (ag Z (jf [18,17,15,14,6,5,4] Z (jn (ao Z (fun z18=>?_) (fun z18=>?_)))))
 refine af (ag Z (jf [21,17,15,14,6,5,4] Z (bc (HS.lit O Z Z Z) Z (aA ?_))))
 refine js Z (jf [4,17,15,14,6,5] Z (jr ?_))
 rw[tg,if_neg (jC z16),if_pos (bZ z18)]
 refine⟨.inl Z,_,bt,_,Z,[22],by decide,Z,Z,Z⟩
 refine af (ag Z (jf [23,17,15,14,6,5,4] Z (jn (ao Z (fun z23=>?_) (fun z23=>?_)))))
 refine af (bb Z (jf [27,25,17,15,14,6,5,4] Z (bc (HS.lit O Z Z Z) Z (aA ?_))))
 refine js Z (jf [7,17,15,14,6,5,4] Z (bm (js Z (bH O [28] (bin:=[ce [((k:Int)+1),(c.getD k default).a]]) Z Z Z Z (wS (a:=((k:Int)+1)) (b:=(c.getD k default).a) h1 h2) Z Z Z Z Z Z (B0:=31000) Z Z ?_))))
 obtain⟨p,q,epq,hpq,hpe⟩:=s5 (a:=((k:Int)+1)) (b:=(c.getD k default).a)
 refine aA ?_
 rw[epq]
 refine jf [7,17,15,14,6,5,4] Z (bm (js Z ?_))
 cases hb32:decide (((k:Int)+1)=(c.getD k default).a)with
 | true=>
  obtain⟨ep,eq⟩:=hpe (bZ hb32)
  rw[ep,eq]
  first|refine bH O [28] (bin:=[ce [(c.getD k default).a,(c.getD k default).a]]) Z Z Z Z (rL (a:=(c.getD k default).a) h1 h2) Z Z Z Z Z Z (B0:=33000) Z Z ?_|refine bH O [28] (bin:=[ce [p,q]]) Z Z Z Z (rK (a:=p) (b:=q) h1 h2 hne) Z Z Z Z Z Z (B0:=33000) Z Z ?_
  refine aA ?_
  refine js Z (jf [4,7,17,15,14,6,5] Z (jr ?_))
  have hE:=bZ hb32
  rw[tg,if_neg (jC z16),if_neg (jC z18),if_pos (bZ z23),rq,if_pos hE.symm]
  rw[hE]
  refine⟨.inl Z,_,Ent.cut 28 1 Z,_,Z,[28],by decide,Z,Z,Z⟩
 | false=>
  have hne:=hpq (cS hb32)
  first|refine bH O [28] (bin:=[ce [(c.getD k default).a,(c.getD k default).a]]) Z Z Z Z (rL (a:=(c.getD k default).a) h1 h2) Z Z Z Z Z Z (B0:=33000) Z Z ?_|refine bH O [28] (bin:=[ce [p,q]]) Z Z Z Z (rK (a:=p) (b:=q) h1 h2 hne) Z Z Z Z Z Z (B0:=33000) Z Z ?_
  refine aA ?_
  refine js Z (jf [4,7,17,15,14,6,5] Z (jr ?_))
  have hE:=cS hb32
  rw[tg,if_neg (jC z16),if_neg (jC z18),if_pos (bZ z23),rq,if_neg (fun g=>hE g.symm),epq]
  refine⟨.inl Z,_,bt,_,Z,[28],by decide,Z,Z,Z⟩
 refine ac (af (js Z (jf [33,17,15,14,6,5,4] Z (bc (HS.lit O Z Z Z) Z (aA ?_)))))
 refine js Z (jf [4,17,15,14,6,5] Z (jr ?_))
 rw[tg,if_neg (jC z16),if_neg (jC z18),if_neg (jC z23)]
 refine⟨.inl Z,_,bt,_,Z,[34],by decide,Z,Z,Z⟩
theorem s9{ws:List Int}{z:Int}:((ws++[z]).map (fun n=>[D.int .i64 n])).take ws.length=ws.map (fun n=>[D.int .i64 n]):=by simp
theorem mj{z:Int}{n:Nat}:cH 0 ((n:Int)-1) z=true↔0≤z∧z<n:=by unfold cH;simp only[bD,decide_eq_true_eq];omega
theorem wW{st:List Int}(htg:sR c)(hst: ∀z∈st,0≤z∧z≤100)(hsl:st.length≤100):MQ h1 h2 60 [cn c,.c (.rs 0 0 st.length)] [(0,ce st)] (fA (.c (.rs 1 0 c.length)) [(1,jc (cf c st))]):=by
 refine d9 500 Z (jH 44 [500] h1 h2 Tryz.func60 Z fun O hF=>?_)
 have h80:=htg.1
 refine af (js Z (bm (js Z ?_)))
 first|refine bP Z ?_|refine js Z ?_|refine aR Z Z ?_
 refine jf [8,4,0,1] Z (bc (fo O Z Z Z Z Z Z Z Z Z (by first|omega|(simp at *;omega)) (by first|omega|(simp at *;omega)) (by first|omega|(simp at *;omega)) (by first|omega|(dsimp only;omega)|(simp only[aS]at *;omega)) (by first|omega|(simp at *;omega)) Z Z Z) Z (aA ?_))
 refine js Z (jf [5,4,0,1] Z (jn (aa (ah (al (X:=List Bool×List Int) (fun x=>⟨[(0,cn c),(1,.c (.rs 901 0 x.2.length)),(5,.c (.rs 9 0 c.length))],[(9,jc x.1),(901,ce x.2)]⟩) (fun x=>Rsh c st x.1 x.2∧x.2.length+3*ee x.1≤3*c.length+st.length) (fun x=>3*ee x.1+x.2.length) (List.replicate c.length false,st) ((am 500 901 Z Z).trans (Ent.to ⟨Z,Z,Z,aj⟩ (by rw[jc,List.map_replicate];rfl))) ?_ (fun x hi=>?_))))))
 exact⟨Rsh.zero hst,by show st.length+3*ee (List.replicate c.length false)≤_;rw[lQ];omega⟩
 refine aa (af ?_)
 obtain⟨u,eu⟩: ∃u,u=x.1:=⟨_,rfl⟩
 obtain⟨ws,ew⟩: ∃ws,ws=x.2:=⟨_,rfl⟩
 rw[←eu,←ew]at hi ⊢
 obtain⟨hi1,hi2⟩:=hi
 have hul:=hi1.len
 have hwl:ws.length≤400:=by omega
 refine js Z ?_
 first|refine bP Z ?_|refine js Z ?_|refine aR Z Z ?_
 refine js Z (jf [12,0,1,5] Z (jn (ao Z (fun z12=>?_) (fun z12=>?_))))
 refine ac (ah (af ?_))
 obtain⟨w2,z,ez⟩: ∃w2 z,ws=w2++[z]:=by rcases List.eq_nil_or_concat ws with h9|⟨w2,z,h9⟩;rw[h9]at z12;cases z12;exact⟨w2,z,by rw[h9,List.concat_eq_append]⟩
 rw[ez]at hi1 hi2 hwl
 rw[cG,sG]at hi2 hwl
 have hzz:=hi1.nn z (by simp)
 rw[ez,show(w2++[z]).length=w2.length+1 by simp]
 have hcu:ee u≤c.length:=by rw[←hul];exact List.count_le_length
 refine ag Z ?_
 first|refine bP Z ?_|refine js Z ?_|refine aR Z Z ?_
 refine ak ((aL O Z Z (by omega) (by omega)).cast (v':=eI (w2.length:Nat)) (congrArg eI (by omega))) Z (aR Z Z (ak (aW O (ex:=[.int .i64 z]) Z Z Z Z (by simp) Z) Z (js Z (jf [6,12,0,1,5] Z (bm (ag Z ?_))))))
 first|refine bP Z ?_|refine js Z ?_|refine aR Z Z ?_
 refine ak ((aL O Z Z (by omega) (by omega)).cast (v':=eI (w2.length:Nat)) (congrArg eI (by omega))) Z (ak (i6 O Z Z Z Z Z Z Z Z Z Z (Nat.le_succ _)) Z (bw (Ent.cut 901 w2.length Z) (aA ?_)))
 rw[s9]
 refine js Z (jf [1,6,12,0,5] Z (jn (aa (bu ⟨[(34,eB (bif cH 0 ((c.length:Int)-1) z then !u.getD z.toNat default else false)),(0,cn c),(1,.c (.rs 901 0 w2.length)),(5,.c (.rs 9 0 c.length)),(6,eI z)],[(9,jc u),(901,ce w2)]⟩ ?_ ?_))))
 refine ab (ag Z ?_)
 first|refine bP Z ?_|refine js Z ?_|refine aR Z Z ?_
 refine jf [26,24,1,6,12,0,5] Z (ba Z (u9 (k:=z) (n:=c.length) h1 h2 (by omega)) 28000 Z ?_)
 cases hb28:cH 0 ((c.length:Int)-1) z with
 | true=>
  refine js Z (jf [28,1,6,12,0,5] Z (bh Z (js Z (bh Z (js Z (bh Z ?_))))))
  have hzn:=(mj (z:=z)).1 hb28
  refine aR Z Z (jf [31,28,1,6,12,0,5] Z (bh Z (ak (aW O (ex:=bL (u.getD z.toNat default)) Z Z Z Z (vg (by omega) (by omega)) Z) Z (jf [32,28,1,6,12,0,5] Z (bh Z (js Z (ak (aB O Z Z Z Z Z) Z (jf [34,1,6,12,0,5] Z (jn ?_)))))))))
  exact⟨Z,Ent.to ⟨Z,Z,Z,Z,Z,aj⟩ Z⟩
 | false=>
  refine js Z (jf [28,1,6,12,0,5] Z (ay Z (ay Z (ay Z (jf [31,28,1,6,12,0,5] Z (ay Z (jf [32,28,1,6,12,0,5] Z (ay Z (ak (ap O Z Z Z Z Z) Z (jf [34,1,6,12,0,5] Z (jn ?_)))))))))))
  exact⟨Z,Ent.to ⟨Z,Z,Z,Z,Z,aj⟩ Z⟩
 refine ao Z (fun z34=>?_) (fun z34=>?_)
 refine af ?_
 obtain⟨z7,z8⟩:=uf z34
 have hzn:=(mj (z:=z)).1 z7
 obtain⟨k,rfl⟩: ∃k:Nat,z=(k:Int):=⟨z.toNat,by omega⟩
 have z9:=lg z8
 have hkn:k<c.length:=by omega
 have hcs:=ny (u:=u) (j:=k) (by omega) z9
 have htl:=rt (x:=c.getD k default) (k:=k)
 refine ag Z (aR Z Z (jf [37,34,0,1,5,6] Z (bc (bl (ex:=bL (u.getD k default)) (xs':=(u.set k true).map bL) O Z Z Z Z Z Z Z Z Z Z Z Z Z Z (vg (by omega) (by omega)) (yC (v:=true) (by omega) Z)) Z (aA ?_))))
 refine aA ?_
 refine jn (ab (bb Z (aC O (B0:=42000) Z Z Z Z (wU (c:=c) (k:=k) h1 h2 hkn (by omega)) (ae Z) Z Z Z Z Z Z (aA ?_))))
 refine jf [41,38,37,34,0,1,5,6] Z (bc (bE (zs:=(w2++tg (c.getD k default) k).map (fun n=>[D.int .i64 n])) (n:=(w2++tg (c.getD k default) k).length) O Z Z Z Z Z Z Z Z Z Z Z Z Z Z Z Z (.row Z (aQ _).symm) Z (aQ _).symm (by decide) Z (by simp only[aQ];omega) (by show _*8≤_;simp only[aQ];omega) (by rw[List.map_append]) (aQ _)) Z (aA ?_))
 refine aA ?_
 refine js Z (jf [1,37,34,0,5,6] Z (jn ?_))
 have hin:=nF htg hi1 (ws':=w2) (fun y=>by rw[List.mem_append,List.mem_singleton];exact Or.comm) (by omega) (by omega)
 refine⟨(u.set k true,w2++tg (c.getD k default) k),((aq [9,42] (e':=[(0,_),(1,_),(5,_)]) Z Z ⟨Z,Z,Z,aj⟩ Z).trans (am 42 901 Z Z)).trans (Ent.to ⟨Z,Z,Z,aj⟩ Z),⟨hin,?_⟩,?_⟩
 show(w2++tg (c.getD k default) k).length+3*ee (u.set k true)≤_
 rw[cG];omega
 show 3*ee (u.set k true)+(w2++tg (c.getD k default) k).length<3*ee u+(w2.length+1)
 rw[cG];omega
 refine ac ?_
 refine⟨(u,w2),Ent.to ⟨Z,Z,Z,aj⟩ Z,⟨hi1.out (ws':=w2) (fun y=>by rw[List.mem_append,List.mem_singleton];exact Or.comm) (fun hl=>?_),by show w2.length+3*ee u≤_;omega⟩,by show 3*ee u+w2.length<3*ee u+(w2.length+1);omega⟩
 rw[(mj (z:=z)).2 ⟨hzz.1,hl⟩]at z34
 exact pZ z34
 refine aM (af (ag Z (jr ?_)))
 have hw0:ws=[]:=by cases ws with|nil=>rfl|cons z w2=>have h9: ¬(0:Int)<((z::w2).length:Nat):=cS z12;rw[dF]at h9;omega
 rw[hw0]at hi1
 rw[←hi1.done]
 refine⟨.inl Z,_,(aq [9] (e':=[(4,_)]) Z Z ⟨Z,aj⟩ Z).trans (am 9 501 Z Z),_,Z,Z,Z⟩
noncomputable def eC(a:An):List Bool:=(cf a.code ((0:Int)::a.pts.map Pt.k)).map fun b=>!b
theorem gi{a:An}:(eC a).length=a.code.length:=by rw[eC,aQ,da]
theorem ns{a:An}{j:Nat}(hj:j<a.code.length):(eC a).getD j default= !(cf a.code ((0:Int)::a.pts.map Pt.k)).getD j default:=by
 rw[au (by rw[gi];exact hj),au (by rw[da];exact hj)]
 simp[eC]
noncomputable def c8(a:An):An:=aY (eC a) a
theorem sS{a:An}(hA:AOk a):WkOk a (eC a):=⟨gi,hA.dp.c80,hA.dp.jmp,hA.dp.pts⟩
theorem uE{a:An}(hA:AOk a): ∀z∈((0:Int)::a.pts.map Pt.k),0≤z∧z≤100:=t6 hA
theorem wX{a:An}(hA:AOk a):MQ h1 h2 42 [ptr a.data] [] (Rows (gM (c8 a)) (jd (c8 a))):=by
 refine bd (jB 26 h1 h2 Tryz.func42 Z fun O hF=>?_)
 have h80:=hA.len
 have hdl:=gi (a:=a)
 refine af (jl Z (aA ?_))
 refine bm (js Z (aC O (B0:=8000) Z Z Z Z (wV (a:=a) h1 h2 hA) (ae Z) Z Z Z Z Z Z (aA ?_)))
 refine js Z (jf [3,2,0] Z (bm (js Z (aC O (B0:=10000) Z Z Z Z (qb (a:=a) h1 h2) (ae Z) Z Z Z Z Z Z (aA ?_)))))
 refine jf [9,3,2,0] Z (jl Z (aA ?_))
 refine jo Z (aA ?_)
 refine jn (aa (af (js Z ?_)))
 first|refine bP Z ?_|refine js Z ?_|refine aR Z Z ?_
 first|refine ji Z ?_|refine aR Z Z ?_
 refine js Z (jf [5,4,9,3,2,0] Z (jn (ah (al (X:=Nat) (fun j=>⟨[(2,.c (.pt 2 0 0)),(3,.c (.rs 8000 0 a.code.length)),(4,.c (.pt 4 0 0)),(5,eI ((j:Int)-1))],[(2,.box [.d .nils,.d .nils,.d .nils,.d .nils]),(4,.box [.rs 901 0 (aY (dK (eC a) j) a).pre.length,.rs 902 0 (aY (dK (eC a) j) a).post.length,.rs 903 0 (aY (dK (eC a) j) a).code.length,.rs 904 0 (aY (dK (eC a) j) a).pts.length]),(901,bA (aY (dK (eC a) j) a).pre),(902,bA (aY (dK (eC a) j) a).post),(903,cQ (aY (dK (eC a) j) a).code),(904,cK (aY (dK (eC a) j) a).pts),(8000,jc (cf a.code ((0:Int)::a.pts.map Pt.k)))]⟩) (fun j=>j≤(eC a).length) (fun j=>j) (eC a).length ((((((aq [2,4,10000,10001,10002,10003,8000] (e':=[(2,_),(3,_),(4,_),(5,_)]) Z Z ⟨Z,Z,Z,Z,aj⟩ Z).trans (am 10000 901 Z Z)).trans (am 10001 902 Z Z)).trans (am 10002 903 Z Z)).trans (am 10003 904 Z Z)).trans (Ent.to ⟨Z,Z,Z,(by rw[hdl];rfl),aj⟩ (by rw[kI hdl];rfl))) ?_ (fun j hi=>?_)))))
 exact cm _
 refine aa (af (ag Z (jn (ao Z (fun z14=>?_) (fun z14=>?_)))))
 refine ac (aa (ah (af ?_)))
 obtain⟨m,rfl⟩: ∃m,j=m+1:=⟨j-1,by have:=bZ z14;omega⟩
 have hrl:=da (c:=a.code) (st:=((0:Int)::a.pts.map Pt.k))
 have hmd:m<(eC a).length:=by omega
 obtain⟨hin1,hin2,hin3,hin4⟩:=pR (a:=a) (d:=eC a) (j:=m) hA.dp hdl hmd
 have hdg:=ns (a:=a) (j:=m) (by omega)
 rw[show(((m+1:Nat):Int)-1)=(m:Nat) by omega]
 refine ag Z (aR Z Z (ak (aW O (ex:=bL ((cf a.code ((0:Int)::a.pts.map Pt.k)).getD m default)) Z Z Z Z (vg (by omega) (by omega)) Z) Z (js Z (jf [21,14,13,2,3,4,5] Z (jn (ao Z (fun z21=>?_) (fun z21=>?_)))))))
 refine ab (js Z (bc (HS.lit O Z Z Z) Z (aA ?_)))
 refine aC O (B0:=25000) Z Z Z Z (uv (a:=(aY (dK (eC a) (m+1)) a)) (k:=m) (n:=1) (b:=[]) h1 h2 hin1 hin2 (by simp) hin3 hin4) (.cons (.c (.pb Z (.cons (.whole Z (aQ _).symm) (.cons (.whole Z (aQ _).symm) (.cons (.whole Z (aQ _).symm) (.cons (.whole Z (aQ _).symm) .nil)))))) (.cons (.c .d) (.cons (.c .d) (.cons (.c (.whole Z Z)) .nil)))) Z Z Z Z Z Z (aA ?_)
 rw[jv hA.dp hdl hmd (hdg.trans z21)]
 refine jf [24,21,14,13,2,3,4,5] Z (jo Z (aA ?_))
 refine jn (ab (js Z ?_))
 first|rw[show((m:Nat):Int)=((m:Nat):Int)from Z]|skip
 refine ji Z (js Z (jf [5,24,21,14,13,2,3,4] Z (jn ?_)))
 refine⟨m,(((((aq [2,4,25000,25001,25002,25003,8000] (e':=[(2,_),(3,_),(4,_),(5,_)]) Z Z ⟨Z,Z,Z,Z,aj⟩ Z).trans (am 25000 901 Z Z)).trans (am 25001 902 Z Z)).trans (am 25002 903 Z Z)).trans (am 25003 904 Z Z)).trans (Ent.to ⟨Z,Z,Z,Z,aj⟩ Z),by omega,by omega⟩
 refine ac (ab (js Z ?_))
 first|rw[show((m:Nat):Int)=((m:Nat):Int)from Z]|skip
 refine ji Z (js Z (jf [5,21,14,13,2,3,4] Z (jn ?_)))
 have hdk:=vy hmd (hdg.trans z21)
 rw[←hdk]
 refine⟨m,Ent.to ⟨Z,Z,Z,Z,aj⟩ Z,by omega,by omega⟩
 refine aM (af (js Z (jo Z (aA ?_))))
 refine jr ?_
 obtain rfl:j=0:=by have:=cS z14;omega
 refine⟨.inl Z,_,bt,_,Z,[901,902,903,904],by decide,Z,Z,Z⟩
theorem uZ{a:An}(hv:bB a=true):MQ h1 h2 23 [aAn a] [] (Rows (.tup [gM (c8 a),eB true]) (jd (c8 a))):=by
 refine bd (jB 48 h1 h2 Tryz.func23 Z fun O hF=>?_)
 have hlp:a.pts.length≤L:=by simpa[As.fact,A.fact,M.fact,Ms.fact,D.fact,Ds.fact]using hF.1.2.2.2.1.1
 have hA:=eF hv
 have h80:=hA.len
 have h8:=hA.np
 have hrl:=da (c:=a.code) (st:=((0:Int)::a.pts.map Pt.k))
 refine af (jx Z (aA ?_))
 refine bw (Ent.freeze 1 (e':=[(1,_),(0,_)]) Z (.cons Z (.c (.box (cs:=a.data) Z (aV Z))) (fe [0] Z)) (.skip .nil)) ?_
 refine aA ?_
 refine jf [1] Z (jl Z (aA ?_))
 refine js Z (jn (aa (af (js Z (ba Z ((va (a:=a) h1 h2).plain (u:=eB true) (by rw[hv])) 11000 Z (js Z (jf [11,3,2,1] Z (jn (ao Z (fun z11=>?_) (fun z11=>?_))))))))))
 cases z11
 refine ac (af (bc (HS.lit O Z Z Z) Z (aA ?_)))
 refine js Z (jf [4,3,2,1] Z (jn (aa (af (ag Z ?_)))))
 first|refine bP Z ?_|refine js Z ?_|refine aR Z Z ?_
 refine js Z (jn (ah (al (X:=Nat) (fun i=>⟨[(1,ptr a.data),(2,.c (.pt 2 0 0)),(4,.c (.rs 900 0 ((0:Int)::(a.pts.take i).map Pt.k).length)),(15,lY a.pts),(16,eI a.pts.length),(17,eI i)],[(2,.box [.d .nils,.d .nils,.d .nils,.d .nils]),(900,ce ((0:Int)::(a.pts.take i).map Pt.k))]⟩) (fun i=>i≤a.pts.length) (fun i=>a.pts.length-i) 0 ((am 13 900 Z Z).trans (Ent.to ⟨Z,Z,Z,Z,Z,Z,aj⟩ Z)) ?_ (fun i hi=>?_))))
 exact co _
 refine af (js Z (jn (aa (ao Z (fun z18=>?_) (fun z18=>?_)))))
 refine ac (aa (ah (af ?_)))
 have hil:i<a.pts.length:=by have:=bZ z18;omega
 refine fO Z Z (js Z (jf [20,18,1,2,4,15,16,17] Z (jl Z (aA ?_))))
 refine jo Z (aA ?_)
 refine jn (ab (bb Z (jf [23,21,6,20,18,1,2,4,15,16,17] Z (bc (HS.lit O Z Z Z) Z (aA ?_)))))
 refine jf [24,21,6,20,18,1,2,4,15,16,17] Z ?_
 have hs1:((0:Int)::(a.pts.take (i+1)).map Pt.k)=((0:Int)::(a.pts.take i).map Pt.k)++[(a.pts.getD i default).k]:=by rw[List.take_succ_eq_append_getElem hil,au hil,List.map_append];rfl
 refine bc (bE (zs:=(((0:Int)::(a.pts.take (i+1)).map Pt.k)).map fun n=>[.int .i64 n]) (n:=((0:Int)::(a.pts.take (i+1)).map Pt.k).length) O Z Z Z Z Z Z Z Z Z Z Z Z Z Z Z Z (.row Z (aQ _).symm) Z Z (by decide) Z (by simp;omega) (by simp;omega) (by rw[hs1,List.map_append];rfl) (aQ _)) Z (aA ?_)
 refine aA ?_
 refine js Z (jf [4,6,20,18,1,2,15,16,17] Z (jn (ab ?_)))
 first|refine ji Z ?_|refine aR Z Z ?_
 refine js Z (jn ?_)
 refine⟨i+1,((aq [2,25] (e':=[(1,_),(2,_),(4,_),(15,_),(16,_),(17,_)]) Z Z ⟨Z,Z,Z,Z,Z,Z,aj⟩ Z).trans (am 25 900 Z Z)).trans (Ent.to ⟨Z,Z,Z,Z,Z,Z,aj⟩ Z),by omega,by omega⟩
 refine aM (af (bb Z (jf [29,28,18,1,2,4,15,16,17] Z ?_)))
 rw[show a.pts.take i=a.pts from List.take_of_length_le (by have:=cS z18;omega)]
 refine bH O [900] (bin:=[ce ((0:Int)::a.pts.map Pt.k)]) Z Z Z Z (wW (c:=a.code) (st:=((0:Int)::a.pts.map Pt.k)) h1 h2 hA.tg (uE hA) (by simp only[dF,aQ];omega)) Z Z Z Z Z Z (B0:=31000) Z Z (aA ?_)
 refine js Z (jf [7,18,1,2,4,15,16,17] Z (jn (aa (af (js Z ?_)))))
 first|refine bP Z ?_|refine js Z ?_|refine aR Z Z ?_
 refine js Z (jn (ah (al (X:=Nat) (fun i=>⟨[(1,ptr a.data),(2,.c (.pt 2 0 0)),(7,.c (.rs 31001 0 a.code.length)),(32,eI a.code.length),(33,eI i)],[(2,.box [.d .nils,.d .nils,.d .nils,.d .nils]),(31001,jc (e6 (fun b=>!b) (cf a.code ((0:Int)::a.pts.map Pt.k)) i))]⟩) (fun i=>i≤(cf a.code ((0:Int)::a.pts.map Pt.k)).length) (fun i=>(cf a.code ((0:Int)::a.pts.map Pt.k)).length-i) 0 (Ent.to ⟨Z,Z,Z,Z,Z,aj⟩ (by rw[kx];rfl)) ?_ (fun i hi=>?_))))
 exact co _
 refine af (js Z (jn (aa (ao Z (fun z34=>?_) (fun z34=>?_)))))
 refine ac (aa (ah (af (ag Z (jn (ab (bp Z ?_)))))))
 have hil2:i<(cf a.code ((0:Int)::a.pts.map Pt.k)).length:=by have:=bZ z34;omega
 have hup:=j6 (f:=fun b=>!b) (l:=(cf a.code ((0:Int)::a.pts.map Pt.k))) (i:=i)
 refine aR Z Z (ak (aW O (ex:=bL ((cf a.code ((0:Int)::a.pts.map Pt.k)).getD i default)) Z Z Z Z (cE hil2 (by omega)) Z) Z (js Z (aR Z Z (jf [43,42,35,34,1,2,7,32,33] Z (bc (bl (ex:=bL ((cf a.code ((0:Int)::a.pts.map Pt.k)).getD i default)) (xs':=(e6 (fun b=>!b) (cf a.code ((0:Int)::a.pts.map Pt.k)) (i+1)).map bL) O Z Z Z Z Z Z Z Z Z Z Z Z Z Z (cE hil2 (by omega)) (ge hil2 (by omega) Z)) Z (aA ?_))))))
 refine aA ?_
 refine jf [35,34,1,2,7,32,33] Z (jn (ab ?_))
 first|refine ji Z ?_|refine aR Z Z ?_
 refine js Z (jn ?_)
 refine⟨i+1,Ent.to ⟨Z,Z,Z,Z,Z,aj⟩ Z,by omega,by omega⟩
 refine aM (af ?_)
 obtain rfl:i=(cf a.code ((0:Int)::a.pts.map Pt.k)).length:=by have:=cS z34;omega
 rw[iA]
 refine ag Z (aC O (B0:=48000) Z Z Z Z (ut (a:=a) (d:=eC a) h1 h2 (sS hA)) (.cons (.agg (aV Z)) (.cons (.c (.whole Z (by rw[aQ,gi]))) .nil)) Z Z Z Z Z Z (aA ?_))
 refine jf [47,34,1,2,7,32,33] Z (jo Z (aA ?_))
 refine js Z (jr ?_)
 refine⟨.inl Z,_,bt,_,Z,[48000,48001,48002,48003],by decide,Z,Z,Z⟩
end Go.Al
