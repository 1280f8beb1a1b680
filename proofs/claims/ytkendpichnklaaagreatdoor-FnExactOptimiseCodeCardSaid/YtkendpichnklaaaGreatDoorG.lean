/- Rounds of the optimiser: plain Lean. -/
import Derived.Test.YtkendpichnklaaaGreatDoorQ
import Derived.Test.YtkendpichnklaaaGreatDoorE
set_option linter.unusedVariables false
set_option linter.unusedSimpArgs false
set_option maxRecDepth 10000
open Go.Proofs
/- Threaded jumps, idle jumps and rounds of the optimiser: plain Lean. -/
namespace Go.Al
theorem xh: ∀{n m:Nat} {f:Nat→Nat},(∀j,j<m→f j<n)→(∀i j,i<j→j<m→f i≠f j)→m≤n
 | 0,m,f,h,_=>by
  rcases Nat.eq_zero_or_pos m with e|e
  omega
  exact absurd (h 0 e) (Nat.not_lt_zero _)
 | n + 1,m,f,h,hd=>by
  by_cases he: ∃j,j<m∧f j=n
  obtain⟨j0,hj,e0⟩:=he
  have := xh (n:=n) (m:=m-1) (f:=fun j=>if j<j0 then f j else f (j+1)) (fun j hjm=>by
   show(if j<j0 then f j else f (j+1))<n
   split
   · rename_i h9
     have h1:=h j (by omega)
     have h2:=hd j j0 h9 hj
     omega
   · have h1:=h (j+1) (by omega)
     have h2:=hd j0 (j+1) (by omega) (by omega)
     omega) (fun i j hij hjm=>by
   show(if i<j0 then f i else f (i+1))≠(if j<j0 then f j else f (j+1))
   split<;>split
   · exact hd i j hij (by omega)
   · exact hd i (j+1) (by omega) (by omega)
   · omega
   · exact hd (i+1) (j+1) (by omega) (by omega))
  omega
  have:=xh (n:=n) (m:=m) (f:=f) (fun j hjm=>by
   have h1:=h j hjm
   have h2:f j≠n:=fun e=>he ⟨j,hjm,e⟩
   omega) hd
  omega
theorem fi{x:In}(h:aE x=true)(ho:x.op=5∨x.op=6):0≤x.a∧x.a≤79:=by
 unfold aE at h
 rw[if_neg (by omega),if_neg (by omega),if_pos ho]at h
 unfold cH at h;simp only[bD,decide_eq_true_eq]at h;exact h
def eK(a:An)(z:Int):Bool:=cH 0 ((a.code.length:Int)-1) z&&decide ((a.code.getD z.toNat default).op=5)&& !cT a.pts z
abbrev uh(a:An)(z:Int):Int:=(a.code.getD z.toNat default).a
def di(a:An):Nat→Int→Int
  | 0,z=>z
  | n+1,z=>di a n (uh a z)
def j1(a:An):Nat→Int→Option Int
  | 0,z=>if eK a z=true then none else some z
  | n+1,z=>if eK a z=true then j1 a n (uh a z)else some z
def cF(a:An)(z:Int):Int:=(j1 a a.code.length z).getD z
def qQ(a:An)(z:Int):Bool:=cH 0 ((a.code.length:Int)-1) z&&decide ((a.code.getD z.toNat default).op=11)&& !cT a.pts z
def fq(a:An)(x:In):In:=if bI x=true then(if x.op=5∧qQ a (cF a x.a)=true then⟨11,0⟩else⟨x.op,cF a x.a⟩)else x
def cp(a:An):An:=⟨a.pre,a.post,a.code.map (fq a),a.pts⟩
section
variable{a:An}
theorem eh{z:Int}(h:eK a z=true):0≤z∧z<a.code.length∧(a.code.getD z.toNat default).op=5∧cT a.pts z=false:=by
 unfold eK cH at h
 simp only[bD,decide_eq_true_eq,Bool.not_eq_true']at h
 exact⟨h.1.1.1,by omega,h.1.2,h.2⟩
theorem j7: ∀{m k:Nat} {z:Int},di a (m+k) z=di a k (di a m z)
 | 0,k,z=>by rw[Nat.zero_add];rfl
 | m+1,k,z=>by rw[show m+1+k=(m+k)+1 by omega];exact j7 (m:=m)
theorem rT{m:Nat}{z:Int}:di a (m+1) z=uh a (di a m z):=j7 (m:=m) (k:=1)
theorem rU: ∀{n:Nat} {z:Int},j1 a n z=none↔∀j,j≤n→eK a (di a j z)=true
 | 0,z=>by
  unfold j1
  constructor
  intro h j hj
  obtain rfl:j=0:=by omega
  by_cases e:eK a z=true
  exact e
  rw[if_neg e]at h;cases h
  intro h;rw[if_pos (show eK a z=true from h 0 (cm 0))]
 | n+1,z=>by
  unfold j1
  by_cases e:eK a z=true
  rw[if_pos e,rU (n:=n)]
  constructor
  intro h j hj
  cases j with
  | zero=>exact e
  | succ j=>exact h j (by omega)
  intro h j hj;exact h (j+1) (by omega)
  rw[if_neg e]
  exact⟨(fun h=>by cases h),fun h=>absurd (h 0 (co _)) e⟩
theorem iM: ∀{m n:Nat} {z:Int},m≤n→(∀j,j<m→eK a (di a j z)=true)→eK a (di a m z)=false→j1 a n z=some (di a m z)
 | 0,n,z,_,_,h=>by
  have h': ¬eK a z=true:=by rw[show eK a z=false from h];decide
  cases n<;>(unfold j1;rw[if_neg h'];rfl)
 | m+1,n,z,hm,hj,h=>by
  obtain⟨n,rfl⟩: ∃k,n=k+1:=⟨n-1,by omega⟩
  unfold j1
  rw[if_pos (show eK a z=true from hj 0 (Nat.zero_lt_succ m))]
  exact iM (m:=m) (by omega) (fun j h9=>hj (j+1) (by omega)) h
theorem pj: ∀{n:Nat} {z f:Int},j1 a n z=some f→eK a f=false
 | 0,z,f,h=>by
  unfold j1 at h
  by_cases e:eK a z=true
  rw[if_pos e]at h;cases h
  rw[if_neg e]at h;cases h;exact Bool.eq_false_iff.2 e
 | n+1,z,f,h=>by
  unfold j1 at h
  by_cases e:eK a z=true
  rw[if_pos e]at h;exact pj h
  rw[if_neg e]at h;cases h;exact Bool.eq_false_iff.2 e
theorem mU{z:Int}{i j:Nat}(hij:i<j)(he:di a i z=di a j z)(h: ∀k,k<j→eK a (di a k z)=true): ∀k,eK a (di a k z)=true:=by
 intro k
 induction k using Nat.strongRecOn with
 | _ k ih=>
  rcases Nat.lt_or_ge k j with hk|hk
  exact h k hk
  have e:di a k z=di a (i+(k-j)) z:=by
   rw[show k=j+(k-j) by omega,j7,←he,←j7,show j+(k-j)-j=k-j by omega]
  rw[e];exact ih _ (by omega)
theorem ky{z:Int}{m:Nat}(h: ∀k,k<m→eK a (di a k z)=true)(hd: ∀i j,i<j→j<m→di a i z≠di a j z):m≤a.code.length:=by
 refine xh (f:=fun j=>(di a j z).toNat) (fun j hj=>?_) fun i j hij hj e=>hd i j hij hj ?_
 have:=eh (h j hj);show(di a j z).toNat<_;omega
 have h1:=eh (h i (by omega));have h2:=eh (h j hj)
 have e:(di a i z).toNat=(di a j z).toNat:=e
 omega
theorem wk{z:Int}(h:j1 a a.code.length z=none): ∀k,eK a (di a k z)=true:=by
 have h1:=rU.1 h
 by_cases hd: ∀i j,i<j→j<a.code.length+1→di a i z≠di a j z
 have:=ky (m:=a.code.length+1) (fun k hk=>h1 k (by omega)) hd
 omega
 simp only[Classical.not_forall,Classical.not_not]at hd
 obtain⟨i,j,hij,hj,e⟩:=hd
 exact mU hij e fun k hk=>h1 k (by omega)
theorem gG{z:Int}(h: ∀k,eK a (di a k z)=true):cF a z=z:=by
 unfold cF;rw[rU.2 fun j _=>h j];rfl
theorem sl{z:Int}(h:eK a z=false):cF a z=z:=by
 unfold cF;rw[iM (m:=0) (co _) (fun j hj=>absurd hj (Nat.not_lt_zero j)) h];rfl
theorem uK{z:Int}{m:Nat}(h: ∀j,j<m→eK a (di a j z)=true)(hd: ∀i j,i<j→j<m→di a i z≠di a j z)(he:eK a (di a m z)=false):cF a z=di a m z:=by
 unfold cF;rw[iM (ky h hd) h he];rfl
theorem rF(hc: ∀x∈a.code,aE x=true): ∀{n:Nat} {z f:Int},(0≤z∧z≤79)→j1 a n z=some f→0≤f∧f≤79
 | 0,z,f,hz,h=>by
  unfold j1 at h
  by_cases e:eK a z=true
  rw[if_pos e]at h;cases h
  rw[if_neg e]at h;cases h;exact hz
 | n+1,z,f,hz,h=>by
  unfold j1 at h
  by_cases e:eK a z=true
  rw[if_pos e]at h
  refine rF hc (n:=n) ?_ h
  have h1:=eh e
  have hm:a.code.getD z.toNat default∈a.code:=by rw[au (by omega)];exact List.getElem_mem _
  exact fi (hc _ hm) (.inl h1.2.2.1)
  rw[if_neg e]at h;cases h;exact hz
theorem mo(hc: ∀x∈a.code,aE x=true){z:Int}(hz:0≤z∧z≤79):0≤cF a z∧cF a z≤79:=by
 unfold cF
 cases h:j1 a a.code.length z with
 | none=>exact hz
 | some f=>exact rF hc hz h
theorem sW{x:In}(hc: ∀x∈a.code,aE x=true)(hx:aE x=true):aE (fq a x)=true:=by
 unfold fq
 split
 rename_i hj
 split
 decide
 have h5:x.op=5∨x.op=6:=by unfold bI at hj;simpa using hj
 have:=mo hc (z:=x.a) (fi hx h5)
 unfold aE
 rw[if_neg (by show¬(x.op=0∨x.op=4);omega),if_neg (by show¬(x.op=1∨x.op=2);omega),if_pos (by show x.op=5∨x.op=6;exact h5)]
 unfold cH;simp;omega
 exact hx
theorem n8(h:bB a=true):bB (cp a)=true:=by
 have hc:=(eF h).code
 unfold bB dE at h ⊢
 simp only[bD,cp,aQ]at h ⊢
 refine⟨⟨List.all_eq_true.2 fun x hx=>?_,h.1.2⟩,h.2⟩
 obtain⟨y,hy,rfl⟩:=List.mem_map.1 hx
 exact sW hc (hc y hy)
theorem pm{k:Nat}(h:k<a.code.length):(cp a).code.getD k default=fq a (a.code.getD k default):=by
 rw[au (by simpa[cp]using h),au h];simp[cp]
theorem sV{x:In}(h:x.op≠5):(fq a x).op=x.op:=by
 unfold fq
 split
 rw[if_neg (fun e=>h e.1)]
 rfl
theorem ph{f:Int}(h:eK a f=false):eK (cp a) f=false∧qQ (cp a) f=qQ a f:=by
 have hl:(cp a).code.length=a.code.length:=by simp[cp]
 have hp:(cp a).pts=a.pts:=rfl
 unfold eK at h ⊢
 unfold qQ
 rw[hl,hp]
 cases h1:cH 0 ((a.code.length:Int)-1) f with
 | false=>exact⟨Z,Z⟩
 | true=>
  have hk:f.toNat<a.code.length:=by unfold cH at h1;simp at h1;omega
  rw[h1]at h
  rw[pm hk]
  cases h2:cT a.pts f with
  | true=>simp
  | false=>
   have h5:(a.code.getD f.toNat default).op≠5:=fun e=>by rw[h2,decide_eq_true e]at h;cases h
   rw[sV h5,decide_eq_false h5]
   exact⟨Z,Z⟩
theorem rS{z:Int}(h: ∀k,eK a (di a k z)=true):(cp a).code.getD z.toNat default=a.code.getD z.toNat default:=by
 obtain⟨h0,h1,h2,h3⟩:=eh (h 0)
 have hn: ∀k,eK a (di a k (uh a z))=true:=fun k=>h (k+1)
 have hf:=gG hn
 obtain⟨_,g1,g2,_⟩:=eh (hn 0)
 have h0':0≤z:=h0
 have h1':z<a.code.length:=h1
 rw[pm (by omega)]
 generalize hx:a.code.getD z.toNat default=x at h2
 have h2':x.op=5:=by rw[←hx];exact(eh (h 0)).2.2.1
 have hfx:cF a x.a=x.a:=by rw[←hx];exact hf
 have g2':(a.code.getD x.a.toNat default).op=5:=by rw[←hx];exact g2
 unfold fq
 rw[if_pos (show bI x=true by unfold bI;rw[h2'];rfl),hfx,if_neg]
 rintro⟨_,e⟩
 unfold qQ at e
 rw[g2']at e
 simp at e
theorem kz{z:Int}(h: ∀k,eK a (di a k z)=true):eK (cp a) z=true∧uh (cp a) z=uh a z:=by
 have e:=rS h
 have hz:eK a z=true:=h 0
 constructor
 unfold eK at hz ⊢
 rw[e,show(cp a).code.length=a.code.length by simp[cp],show(cp a).pts=a.pts from Z]
 exact hz
 show((cp a).code.getD z.toNat default).a=_;rw[e]
theorem nz: ∀{k:Nat} {z:Int},(∀k,eK a (di a k z)=true)→eK (cp a) (di (cp a) k z)=true
 | 0,z,h=>(kz h).1
 | k+1,z,h=>by
  show eK (cp a) (di (cp a) k (uh (cp a) z))=true
  rw[(kz h).2]
  exact nz fun k=>h (k+1)
theorem rV : cp (cp a)=cp a:=by
 have key : ∀y∈a.code,fq (cp a) (fq a y)=fq a y:=fun y _=>by
  by_cases hj:bI y=true
  · by_cases hh:y.op=5∧qQ a (cF a y.a)=true
    · have e:fq a y=⟨11,0⟩:=by unfold fq;rw[if_pos hj,if_pos hh]
      rw[e];rfl
    · have e:fq a y=⟨y.op,cF a y.a⟩:=by unfold fq;rw[if_pos hj,if_neg hh]
      rw[e]
      have hj2:bI ⟨y.op,cF a y.a⟩=true:=hj
      have hfin:cF (cp a) (cF a y.a)=cF a y.a∧(qQ (cp a) (cF a y.a)=true→qQ a (cF a y.a)=true):=by
        cases hf:j1 a a.code.length y.a with
        | none=>
          have hn:=wk hf
          rw[gG hn]
          refine⟨gG fun k=>nz hn,fun e=>?_⟩
          have hz:=(eh (kz hn).1).2.2.1
          unfold qQ at e
          rw[hz]at e
          simp at e
        | some f=>
          have hJ:=pj hf
          have ef:cF a y.a=f:=by unfold cF;rw[hf];rfl
          rw[ef]
          exact⟨sl (ph hJ).1,fun e=>by rw[←(ph hJ).2];exact e⟩
      have goal:fq (cp a) ⟨y.op,cF a y.a⟩=⟨y.op,cF (cp a) (cF a y.a)⟩:=by
        show(if bI ⟨y.op,cF a y.a⟩=true then _ else _)=_
        rw[if_pos hj2,if_neg]
        rintro⟨h5,h9⟩
        rw[hfin.1]at h9
        exact hh ⟨h5,hfin.2 h9⟩
      rw[goal,hfin.1]
  · have e:fq a y=y:=by unfold fq;rw[if_neg hj]
    rw[e];unfold fq;rw[if_neg hj]
 show(⟨a.pre,a.post,(a.code.map (fq a)).map (fq (cp a)),a.pts⟩:An)=⟨a.pre,a.post,a.code.map (fq a),a.pts⟩
 rw[List.map_map]
 congr 1
 exact List.map_congr_left key
end
end Go.Al
/- Rounds of the optimiser: what stays valid, what gets shorter; plain Lean. -/
namespace Go.Al
theorem w6{a:An}:bB a=true↔(∀x∈a.code,aE x=true)∧1≤a.code.length∧a.code.length≤80∧bQ a.pre 6=true∧bQ a.post 6=true∧a.pts.length≤8∧∀i,i<a.pts.length→nW a.code.length a.pts i=true:=by
 unfold bB dE n3 cH
 simp only[bD,decide_eq_true_eq,List.all_eq_true,List.mem_range]
 constructor
 rintro⟨⟨h1,h2,h3⟩,h4,h5,h6,h7⟩;exact⟨h1,by omega,by omega,h4,h5,h6,h7⟩
 rintro⟨h1,h2,h3,h4,h5,h6,h7⟩;exact⟨⟨h1,by omega,by omega⟩,h4,h5,h6,h7⟩
theorem tc{n:Nat}{ps:List Pt}{i:Nat}:nW n ps i=true↔0≤(ps.getD i default).k∧(ps.getD i default).k<n∧bQ (ps.getD i default).fs 6=true∧(0<i→(ps.getD (i-1) default).k<(ps.getD i default).k):=by
 unfold nW cH
 simp only[bD,decide_eq_true_eq,Bool.not_eq_true',Bool.and_eq_false_iff,decide_eq_false_iff_not]
 constructor
 rintro⟨⟨⟨h1,h2⟩,h3⟩,h4⟩;exact⟨h1,by omega,h3,fun h=>by omega⟩
 rintro⟨h1,h2,h3,h4⟩
 refine⟨⟨⟨h1,by omega⟩,h3⟩,?_⟩
 by_cases h:0<i
 right;have:=h4 h;omega
 left;exact h
theorem w4{x:In}:bI x=true↔x.op=5∨x.op=6:=by unfold bI;simp
theorem qu{x:In}{n:Int}(hj:bI x=true)(h:0≤n∧n≤79):aE ⟨x.op,n⟩=true:=by
 have h5:=w4.1 hj
 unfold aE
 rw[if_neg (by show¬(x.op=0∨x.op=4);omega),if_neg (by show¬(x.op=1∨x.op=2);omega),if_pos (by show x.op=5∨x.op=6;exact h5)]
 unfold cH;simp;omega
theorem kJ{a:An}{k n:Nat}{b:List In}(hv:bB a=true)(hk:k+n≤a.code.length)(hb: ∀x∈b,aE x=true∧bI x=false)(hbl:b.length≤n)(hn:1≤a.code.length-n+b.length)
    (hj: ∀x∈a.code,bI x=true→¬((k:Int)<x.a∧x.a<((k+n:Nat):Int))) (hp: ∀p∈a.pts,¬((k:Int)<p.k∧p.k<((k+n:Nat):Int))∧(0<b.length∨p.k≠k)):bB (bU a k n b)=true:=by
 obtain⟨h1,h2,h3,h4,h5,h6,h7⟩:=w6.1 hv
 have hl:(bU a k n b).code.length=a.code.length-n+b.length:=by
  simp only[bU,aQ,cG,List.length_take,List.length_drop];omega
 have hm: ∀x∈a.code,aE (fu k ((n:Int)-b.length) x)=true:=fun x hx=>by
  unfold fu
  split
  · rename_i h
    have h9:=hj x hx h.1
    have h8:=fi (h1 x hx) (w4.1 h.1)
    exact qu h.1 (by omega)
  · exact h1 x hx
 refine w6.2 ⟨fun x hx=>?_,by omega,by omega,h4,h5,by simpa[bU]using h6,fun i hi=>?_⟩
 obtain⟨y,hy,rfl⟩:=List.mem_map.1 (show x∈(a.code.take k++b++a.code.drop (k+n)).map (fu k ((n:Int)-b.length))from hx)
 rcases List.mem_append.1 hy with hy|hy
 rcases List.mem_append.1 hy with hy|hy
 exact hm y (List.mem_of_mem_take hy)
 unfold fu
 rw[if_neg (fun h=>by rw[(hb y hy).2]at h;cases h.1)]
 exact(hb y hy).1
 exact hm y (List.mem_of_mem_drop hy)
 have hi':i<a.pts.length:=by simpa[bU]using hi
 have hg: ∀j,j<a.pts.length→(bU a k n b).pts.getD j default=lp k ((n:Int)-b.length) (a.pts.getD j default):=fun j hj=>by
  rw[au (by simpa[bU]using hj),au hj];simp[bU]
 obtain⟨g1,g2,g3,g4⟩:=tc.1 (h7 i hi')
 obtain⟨p1,p2⟩:=hp (a.pts.getD i default) (by rw[au hi'];exact List.getElem_mem _)
 rw[tc,hg i hi',hl]
 have e3:(lp k ((n:Int)-b.length) (a.pts.getD i default)).fs=(a.pts.getD i default).fs:=by unfold lp;split<;>rfl
 have key: ∀p:Pt,(lp k ((n:Int)-b.length) p).k=if(k:Int)<p.k then p.k-((n:Int)-b.length)else p.k:=fun p=>by unfold lp;split<;>rfl
 rw[e3,key]
 refine⟨by split<;>omega,by split<;>omega,g3,fun h0=>?_⟩
 have g5:=g4 h0
 obtain⟨q1,q2⟩:=hp (a.pts.getD (i-1) default) (by rw[au (by omega)];exact List.getElem_mem _)
 rw[hg (i-1) (by omega),key]
 split<;>split<;>omega
theorem pr{a:An}{k n:Nat}{b:List In}(hk:k+n≤a.code.length):(bU a k n b).code.length=a.code.length-n+b.length:=by
 simp only[bU,aQ,cG,List.length_take,List.length_drop];omega
theorem DpOk.of{a:An}(h:bB a=true):DpOk a:=by
 obtain⟨h1,h2,h3,h4,h5,h6,h7⟩:=w6.1 h
 refine⟨h3,fun x hx=>?_,fun p hp=>(eF h).pts p hp⟩
 have ha:=cv (h1 x hx)
 exact⟨ha.1,ha.2,fun hj=>(fi (h1 x hx) (w4.1 hj)).1⟩
theorem pQ{a:An}{d:List Bool}(hv:bB a=true)(hd:d.length=a.code.length)(h0:d.getD 0 default=false)(hp: ∀p∈a.pts,d.getD p.k.toNat default=false): ∀{m j:Nat},j+m=d.length→
    bB (aY (dK d j) a)=true∧(aY (dK d j) a).code.length≤a.code.length∧((aY (dK d j) a).code.length=a.code.length→aY (dK d j) a=a)
 | 0,j,e=>by
  obtain rfl:j=d.length:=by omega
  rw[kI hd];exact⟨hv,cm _,fun _=>rfl⟩
 | m + 1,j,e=>by
  have hj:j<d.length:=by omega
  obtain⟨i1,i2,i3⟩:=pQ hv hd h0 hp (m:=m) (j:=j+1) (by omega)
  have hw:=DpOk.of hv
  cases hb:d.getD j default with
  | false=>rw[vy hj hb];exact⟨i1,i2,i3⟩
  | true=>
   have h9:=pR hw hd hj
   have hj0:j≠0:=fun e=>by rw[e,h0]at hb;cases hb
   have hl:=pr (a:=aY (dK d (j+1)) a) (k:=j) (n:=1) (b:=[]) (by omega)
   rw[←jv hw hd hj hb]
   refine⟨kJ i1 (by omega) (fun x hx=>by cases hx) (co _) (by simp only[List.length_nil];omega) (fun x _ _=>by omega) fun p hpm=>⟨by omega,.inr ?_⟩,by rw[hl];simp only[List.length_nil];omega,fun e=>by rw[hl]at e;simp only[List.length_nil]at e;omega⟩
   obtain⟨q,hq,rfl⟩:=List.mem_map.1 (show p∈a.pts.map (eo (dK d (j+1)))from hpm)
   have hq0:=(hw.pts q hq).1
   have hqd:=hp q hq
   have hc:=dJ (d:=d) (j:=j+1) (z:=q.k.toNat)
   have hne:q.k≠j:=fun e=>by rw[e,Int.toNat_natCast,hb]at hqd;cases hqd
   show q.k-(dk (dK d (j+1)) q.k.toNat:Nat)≠(j:Int)
   omega
theorem sj{a b:An}(hv:bB a=true)(h:cD a=some b):bB b=true:=by
 obtain⟨j,_,hj,h3,h4,_⟩:=c9 h
 subst h4
 have hr:=cN (s:=dA a.code a.pts j) h3
 have hin:=fT h3
 have hs: ∀x∈dA a.code a.pts j,aE x=true:=fun x hx=>by
  obtain⟨i,hi,rfl⟩:=List.getElem_of_mem hx
  have h1:=fQ (c:=a.code) (ps:=a.pts) (k:=j)
  have:=dW hi
  rw[au hi,au (by omega)]at this
  rw[this];exact(w6.1 hv).1 _ (List.getElem_mem _)
 have hjl:j<a.code.length:=by have:0<(az a j).1:=h3;omega
 obtain⟨n,e,hn⟩:=j8 (ps:=a.pts) hjl
 have hle:(az a j).1≤n+1:=by
  have h1:(az a j).1≤(dA a.code a.pts j).length:=hr.n
  rw[e,List.length_take]at h1;omega
 have hpl: ∀z:Int,(j:Int)<z→z<((j+(az a j).1:Nat):Int)→f8 a.code a.pts z=false:=fun z h1 h2=>by
  have:=hn (z.toNat-j) (by omega) (by omega) (by omega)
  rwa[show((j+(z.toNat-j):Nat):Int)=z by omega]at this
 have h1:=hr.one
 have h2:=hr.lt
 have h1':1≤(az a j).2.length:=h1
 have h2':(az a j).2.length<(az a j).1:=h2
 refine kJ hv hin (fun x hx=>⟨hr.ok hs x hx,hr.jmp x hx⟩) (by omega) (by omega) (fun x hx hj'=>?_) fun p hp=>⟨?_,.inl h1⟩
 rintro⟨c1,c2⟩
 have h9:=hpl x.a c1 c2
 have:fC a.code x.a=true:=List.any_eq_true.2 ⟨x,hx,by rw[hj'];simp⟩
 unfold f8 at h9
 rw[this]at h9;cases h9
 rintro⟨c1,c2⟩
 have h9:=hpl p.k c1 c2
 unfold f8 at h9
 rw[j9 hp,Bool.or_true]at h9;cases h9
theorem ke: ∀{n:Nat} {a:An},a.code.length≤n→bB a=true→bB (bT a)=true∧(bT a).code.length≤a.code.length∧((bT a).code.length=a.code.length→bT a=a)
 | 0,a,hn,hv=>by have:=(w6.1 hv).2.1;omega
 | n + 1,a,hn,hv=>by
  cases h:cD a with
  | none=>rw[il h];exact⟨hv,cm _,fun _=>rfl⟩
  | some b=>
   have hl:=iU h
   obtain⟨i1,i2,_⟩:=ke (n:=n) (a:=b) (by omega) (sj hv h)
   rw[ik h]
   exact⟨i1,by omega,fun e=>by omega⟩
def w8(a:An)(k:Nat):Bool:=decide ((a.code.getD k default).op=5)&&decide ((a.code.getD k default).a=(k:Int)+1)&& !cT a.pts k&&decide (1<a.code.length)
def j5(a:An)(k:Nat):An:=if w8 a k=true then bU a k 1 []else a
def lV:Nat→An→An
  | 0,a=>a
  | k+1,a=>lV k (j5 a k)
def qS(a:An):An:=lV a.code.length a
theorem oh{a:An}{k:Nat}(hv:bB a=true)(hk:k<a.code.length):bB (j5 a k)=true∧k≤(j5 a k).code.length∧(j5 a k).code.length≤a.code.length∧((j5 a k).code.length=a.code.length→j5 a k=a):=by
 unfold j5
 split
 rename_i h
 unfold w8 at h
 simp only[bD,decide_eq_true_eq,Bool.not_eq_true']at h
 have hl:=pr (a:=a) (k:=k) (n:=1) (b:=[]) (by omega)
 refine⟨kJ hv (by omega) (fun x hx=>by cases hx) (co _) (by simp only[List.length_nil];omega) (fun x _ _=>by omega) fun p hp=>⟨by omega,.inr fun e=>?_⟩,by rw[hl];simp only[List.length_nil];omega,by rw[hl];simp only[List.length_nil];omega,fun e=>by rw[hl]at e;simp only[List.length_nil]at e;omega⟩
 have:=j9 hp
 rw[e,h.1.2]at this;cases this
 exact⟨hv,by omega,cm _,fun _=>rfl⟩
theorem rC: ∀{k:Nat} {a:An},bB a=true→k≤a.code.length→bB (lV k a)=true∧(lV k a).code.length≤a.code.length∧((lV k a).code.length=a.code.length→lV k a=a)
 | 0,a,hv,_=>⟨hv,cm _,fun _=>rfl⟩
 | k+1,a,hv,hk=>by
  obtain⟨s1,s2,s3,s4⟩:=oh (k:=k) hv (by omega)
  obtain⟨i1,i2,i3⟩:=rC s1 s2
  show bB (lV k (j5 a k))=true∧(lV k (j5 a k)).code.length≤a.code.length∧((lV k (j5 a k)).code.length=a.code.length→lV k (j5 a k)=a)
  refine⟨i1,by omega,fun e=>?_⟩
  have e1:(j5 a k).code.length=a.code.length:=by omega
  rw[i3 (by omega),s4 e1]
def gT(n k:Nat):List Bool:=(List.replicate n false).set k true
theorem kC{n k:Nat}:(gT n k).length=n:=by simp[gT]
theorem su{a:An}{k:Nat}(hw:DpOk a)(hk:k<a.code.length):aY (gT a.code.length k) a=bU a k 1 []:=by
 have hd:(gT a.code.length k).length=a.code.length:=kC
 have hg:(gT a.code.length k).getD k default=true:=by rw[au (by omega)];simp[gT]
 have e0:dK (gT a.code.length k) k=gT a.code.length k:=by
  unfold dK gT
  refine List.ext_getElem? fun j=>?_
  rcases Nat.lt_or_ge j k with h|h
  rw[List.getElem?_append_left (by simpa using h),List.getElem?_set_ne (by omega)]
  simp[List.getElem?_replicate,h,show j<a.code.length by omega]
  rw[List.getElem?_append_right (by simpa using h),List.length_replicate,List.getElem?_drop,show k+(j-k)=j by omega]
 have eR:dK (List.replicate a.code.length false) (List.replicate a.code.length false).length=List.replicate a.code.length false:=by
  unfold dK
  rw[List.length_replicate,List.drop_of_length_le (by simp),List.append_nil]
 have e1:dK (gT a.code.length k) (k+1)=List.replicate a.code.length false:=by
  unfold dK gT
  refine List.ext_getElem? fun j=>?_
  rcases Nat.lt_or_ge j (k+1)with h|h
  rw[List.getElem?_append_left (by simpa using h)]
  simp[List.getElem?_replicate,h,show j<a.code.length by omega]
  rw[List.getElem?_append_right (by simpa using h),List.length_replicate,List.getElem?_drop,show k+1+(j-(k+1))=j by omega,List.getElem?_set_ne (by omega)]
 have h:=jv hw hd (by omega) hg
 rw[e0,e1,←eR,kI (by simp)]at h
 exact h.symm
end Go.Al
/- The optimiser goes round until nothing changes: plain Lean. -/
namespace Go.Al
theorem lK{a:An}{z:Int}(hz:z∈((0:Int)::a.pts.map Pt.k))(h0:0≤z)(h1:z<a.code.length):(eC a).getD z.toNat default=false:=by
 rw[ns (by omega)]
 have h:(cf a.code ((0:Int)::a.pts.map Pt.k)).getD z.toNat default=true:=by
  rw[kO (by omega)];exact .start hz h0 h1
 rw[h];rfl
theorem mq{a:An}(hv:bB a=true):bB (c8 a)=true∧(c8 a).code.length≤a.code.length∧((c8 a).code.length=a.code.length→c8 a=a):=by
 obtain⟨h1,h2,h3,h4,h5,h6,h7⟩:=w6.1 hv
 have hd:=gi (a:=a)
 have h:=pQ (d:=eC a) hv hd (lK (a:=a) (z:=0) List.mem_cons_self (Int.le_refl 0) (by omega)) (fun p hp=>by
  obtain⟨i,hi,rfl⟩:=List.getElem_of_mem hp
  have g:=tc.1 (h7 i hi)
  rw[au hi]at g
  exact lK (List.mem_cons_of_mem _ (List.mem_map.2 ⟨_,hp,Z⟩)) g.1 g.2.1) (m:=(eC a).length) (j:=0) (by omega)
 rwa[tB]at h
noncomputable def ct(a:An):An:=qS (bT (c8 (cp a)))
theorem pk{a:An}:(cp a).code.length=a.code.length:=by simp[cp]
theorem gb{a:An}(hv:bB a=true):bB (ct a)=true∧(ct a).code.length≤a.code.length∧((ct a).code.length=a.code.length→c8 (cp a)=cp a∧bT (cp a)=cp a∧ct a=cp a):=by
 obtain⟨d1,d2,d3⟩:=mq (n8 hv)
 obtain⟨f1,f2,f3⟩:=ke (cm _) d1
 obtain⟨i1,i2,i3⟩:=rC f1 (cm _)
 rw[pk]at d2 d3
 have i2':(ct a).code.length≤(bT (c8 (cp a))).code.length:=i2
 refine⟨i1,by omega,fun e=>?_⟩
 have e1:=d3 (by omega)
 have e2:=f3 (by omega)
 have e3:ct a=bT (c8 (cp a)):=i3 (by show(ct a).code.length=_;omega)
 rw[e1]at e2
 exact⟨e1,e2,by rw[e3,e1,e2]⟩
theorem kB{a:An}(hv:bB a=true)(h:(ct a).code=a.code):ct a=a∧cp a=a∧c8 a=a∧bT a=a:=by
 obtain⟨_,_,h3⟩:=gb hv
 obtain⟨e1,e2,e3⟩:=h3 (by rw[h])
 have e4:cp a=a:=by
  rw[e3]at h
  show(⟨a.pre,a.post,(cp a).code,a.pts⟩:An)=a
  rw[h]
 rw[e4]at e1 e2 e3
 exact⟨e3,e4,e1,e2⟩
def qR(a:An):Nat:=2*a.code.length+(if cp a=a then 0 else 1)
theorem oY{a:An}(hv:bB a=true)(h:ct a≠a):qR (ct a)<qR a:=by
 obtain⟨_,h2,h3⟩:=gb hv
 unfold qR
 by_cases e:(ct a).code.length=a.code.length
 obtain⟨_,_,e3⟩:=h3 e
 have hn: ¬cp a=a:=fun e4=>h (e3.trans e4)
 rw[e3,rV,if_pos Z,if_neg hn,pk];omega
 split<;>split<;>omega
noncomputable def gS:Nat→An→An
  | 0,a=>a
  | n+1,a=>if ct a=a then a else gS n (ct a)
theorem pD: ∀{n m:Nat} {a:An},bB a=true→qR a<n→qR a<m→gS n a=gS m a
 | 0,_,_,_,h,_=>absurd h (Nat.not_lt_zero _)
 | _,0,_,_,_,h=>absurd h (Nat.not_lt_zero _)
 | n+1,m+1,a,hv,h1,h2=>by
  unfold gS
  by_cases e:ct a=a
  rw[if_pos e,if_pos e]
  rw[if_neg e,if_neg e]
  have:=oY hv e
  exact pD (gb hv).1 (by omega) (by omega)
noncomputable def e7(a:An):An:=gS (qR a+1) a
theorem na{a:An}(h:ct a=a):e7 a=a:=by unfold e7 gS;rw[if_pos h]
theorem nb{a:An}(hv:bB a=true)(h:ct a≠a):e7 (ct a)=e7 a:=by
 have:=oY hv h
 show gS (qR (ct a)+1) (ct a)=gS (qR a+1) a
 conv=>rhs;unfold gS
 rw[if_neg h]
 exact pD (gb hv).1 (by omega) (by omega)
end Go.Al
/- The text of code tells the code: plain Lean. -/
namespace Go.Al
open Go.Lib Go.Proofs
theorem l4{n:Nat}:(10:UInt8) ∉ decDigits n:=fun hm=>by
 have:=gQ n _ hm
 revert this;decide
theorem rx{out:cJ}{c:Int}:(10:UInt8) ∉ ft out c:=by
 unfold ft
 split
 decide
 split<;>decide
theorem wb{out:cJ}{i:Nat}{c:Int}(h:(10:UInt8) ∉ out)(hi:i<150):(10:UInt8) ∉ tC out i c:=by
 unfold tC
 split
 exact h
 simp only[List.mem_append,List.mem_singleton,not_or]
 refine⟨⟨⟨h,rx⟩,?_⟩,fun e=>?_⟩
 split
 decide
 exact l4
 have:=congrArg UInt8.toNat e
 simp[tW]at this
 omega
theorem t1: ∀{xs:List Int} {i:Nat} {out:cJ},(10:UInt8) ∉ out→i+xs.length<150→(10:UInt8) ∉ tX i xs out
 | [],i,out,h,_=>h
 | c::r,i,out,h,hl=>by
  rw[tX]
  simp only[dF]at hl
  exact t1 (wb h (by omega)) (by omega)
theorem wa{t:Tm}(h:t.xs.length<150):(10:UInt8) ∉ tS t:=by
 have h1:=t1 (xs:=t.xs) (i:=0) (out:=[]) (by simp) (by omega)
 have h2:(10:UInt8) ∉ tK (tX 0 t.xs []) t.c:=by
  unfold tK
  split
  exact h1
  simp only[List.mem_append,not_or];exact⟨⟨h1,rx⟩,l4⟩
 show(10:UInt8) ∉ tZ (tK (tX 0 t.xs []) t.c)
 unfold tZ
 split
 decide
 exact h2
theorem rA{o:Int}(h0:0≤o)(h1:o≤11):(10:UInt8) ∉ jU o:=iO (P:=fun o=>(10:UInt8) ∉ jU o) (by decide) h0 h1
theorem tu{n:Int}:(10:UInt8) ∉ itoa n:=by
 intro h
 unfold itoa at h
 split at h
 rcases List.mem_cons.1 h with h|h
 revert h;decide
 exact l4 h
 exact l4 h
theorem uI{x:In}(h:aE x=true):(10:UInt8) ∉ iu x:=by
 obtain⟨⟨h0,h1⟩,_,_⟩:=eQ h
 unfold iu
 split
 intro hh
 rcases List.mem_append.1 hh with hh|hh
 rcases List.mem_append.1 hh with hh|hh
 exact rA h0 h1 hh
 revert hh;decide
 exact tu hh
 exact rA h0 h1
theorem wm{w:cJ}{fs:List Tm}(hw:(10:UInt8) ∉ w)(h: ∀t∈fs,t.xs.length<150): ∀l∈cB w fs,(10:UInt8) ∉ l:=fun l hl=>by
 obtain⟨t,ht,rfl⟩:=List.mem_map.1 (show l∈fs.map (fun t=>w++[32]++tS t)from hl)
 simp only[List.mem_append,List.mem_singleton,not_or]
 exact⟨⟨hw,by decide⟩,wa (h t ht)⟩
theorem r7{a:An}(hv:bB a=true)(k:Nat): ∀t∈(a.pts.getD k default).fs,t.xs.length<150:=by
 obtain⟨_,_,_,_,_,_,h7⟩:=w6.1 hv
 rcases Nat.lt_or_ge k a.pts.length with h|h
 obtain⟨_,_,h3,_⟩:=tc.1 (h7 k h)
 intro t ht
 have:=(dU (n:=6) h3).1 t ht
 unfold Tm.term at this
 simp only[bD,decide_eq_true_eq]at this
 have h9:=this.2
 omega
 intro t ht
 rw[List.getD_eq_getElem?_getD,List.getElem?_eq_none h]at ht
 cases ht
theorem rh{a:An}(hv:bB a=true): ∀{n:Nat},n≤a.code.length→∀l∈cZ a n,(10:UInt8) ∉ l
 | 0,_,l,hl=>by cases hl
 | n+1,hn,l,hl=>by
  have hx:aE (a.code.getD n default)=true:=(w6.1 hv).1 _ (by rw[au hn];exact List.getElem_mem _)
  rcases List.mem_append.1 (show l∈cZ a n++pY a n from hl)with hl|hl
  exact rh hv (by omega) l hl
  unfold pY at hl
  rcases List.mem_append.1 hl with hl|hl
  split at hl
  cases hl
  rcases List.mem_cons.1 hl with rfl|hl
  decide
  exact wm (by decide) (r7 hv _) l hl
  rw[List.mem_singleton.1 hl];exact uI hx
theorem te{o:Int}(h0:0≤o)(h1:o≤11):2≤(jU o).length∧(jU o).take 2≠[97,116]∧(jU o).take 2≠[112,111]:=iO (P:=fun o=>2≤(jU o).length∧(jU o).take 2≠[97,116]∧(jU o).take 2≠[112,111]) (by decide) h0 h1
theorem tn{x:In}(h:aE x=true):(iu x).take 2≠[97,116]∧(iu x).take 2≠[112,111]:=by
 obtain⟨⟨h0,h1⟩,_,_⟩:=eQ h
 obtain⟨g1,g2⟩:=te h0 h1
 have e:(iu x).take 2=(jU x.op).take 2:=by
  unfold iu
  split
  rw[dO,List.take_append_of_le_length g1]
  rfl
 rw[e];exact g2
def lX(l:cJ):Bool:=!decide (l.take 2=[97,116])&& !decide (l.take 2=[112,111])
theorem uJ{x:In}(h:aE x=true):lX (iu x)=true:=by
 obtain⟨h1,h2⟩:=tn h
 unfold lX
 rw[decide_eq_false h1,decide_eq_false h2];rfl
theorem wn{fs:List Tm}:(cB sH fs).filter lX=[]:=by
 refine List.filter_eq_nil_iff.2 fun l hl=>?_
 obtain⟨t,_,rfl⟩:=List.mem_map.1 (show l∈fs.map (fun t=>sH++[32]++tS t)from hl)
 show¬lX (97::116::(32::([]++tS t)))=true
 unfold lX;simp
theorem ri{a:An}(hv:bB a=true): ∀{n:Nat},n≤a.code.length→(cZ a n).filter lX=(a.code.take n).map iu
 | 0,_=>by rw[List.take_zero];rfl
 | n + 1,hn=>by
  have hx:aE (a.code.getD n default)=true:=(w6.1 hv).1 _ (by rw[au hn];exact List.getElem_mem _)
  have h1:=uJ hx
  have h2:(pY a n).filter lX=[iu (a.code.getD n default)]:=by
   unfold pY
   rw[List.filter_append,List.filter_cons,if_pos h1,List.filter_nil]
   split
   rfl
   rw[List.filter_cons,if_neg (by decide),wn];rfl
  show(cZ a n++pY a n).filter lX=_
  rw[List.filter_append,ri hv (by omega),h2,List.take_succ_eq_append_getElem hn,au hn,List.map_append];rfl
def xj(l:cJ)(n:Nat):Nat:=l.foldl (fun n b=>10*n+(b.toNat-48)) n
theorem pP: ∀u:Nat,xj (decDigits u) 0=u:=by
 intro u
 induction u using Nat.strongRecOn with
 | _ u ih=>
  rw[decDigits]
  split
  unfold xj;simp;omega
  have:=ih (u/10) (by omega)
  unfold xj at this ⊢
  rw[List.foldl_append,this];simp;omega
theorem pS{u v:Nat}(h:decDigits u=decDigits v):u=v:=by
 rw[←pP u,←pP v,h]
theorem rH{u:Nat}:(45:UInt8) ∉ decDigits u:=fun hm=>by
 have:=gQ u _ hm
 revert this;decide
theorem se{n m:Int}(h:itoa n=itoa m):n=m:=by
 unfold itoa at h
 split at h<;>split at h
 have:=pS (List.cons.inj h).2;omega
 exact absurd (h ▸ List.mem_cons_self) rH
 exact absurd (h ▸ List.mem_cons_self) rH
 have:=pS h;omega
theorem uF{o:Int}(h0:0≤o)(h1:o≤11): ∀b∈jU o,(b != 32)=true:=iO (P:=fun o=> ∀b∈jU o,(b != 32)=true) (by decide) h0 h1
theorem tf{o p:Int}(h0:0≤o)(h1:o≤11)(g0:0≤p)(g1:p≤11)(h:jU o=jU p):o=p:=by
 have key: ∀i j:Fin 12,jU (i.val:Int)=jU (j.val:Int)→i=j:=by decide
 have:=key ⟨o.toNat,by omega⟩ ⟨p.toNat,by omega⟩ (by
  show jU ((o.toNat:Nat):Int)=jU ((p.toNat:Nat):Int)
  rw[Int.toNat_of_nonneg h0,Int.toNat_of_nonneg g0];exact h)
 have:=congrArg Fin.val this
 simp only at this
 omega
theorem n7{p:UInt8→Bool}: ∀{l r:cJ},(∀b∈l,p b=true)→(l++r).takeWhile p=l++r.takeWhile p
 | [],_,_=>rfl
 | b::l,r,h=>by
  rw[List.cons_append,List.takeWhile_cons,if_pos (h b List.mem_cons_self),n7 fun c hc=>h c (List.mem_cons_of_mem _ hc)];rfl
theorem ne{x:In}(h:aE x=true):(iu x).takeWhile (fun b=>b != 32)=jU x.op:=by
 obtain⟨⟨h0,h1⟩,_,_⟩:=eQ h
 have hw:=uF h0 h1
 unfold iu
 split
 rw[dO,n7 hw];simp
 have:=n7 (r:=[]) hw;simpa using this
theorem tp{x y:In}(hx:aE x=true)(hy:aE y=true)(h:iu x=iu y):x=y:=by
 obtain⟨⟨h0,h1⟩,_,h3⟩:=eQ hx
 obtain⟨⟨g0,g1⟩,_,g3⟩:=eQ hy
 have ho:x.op=y.op:=tf h0 h1 g0 g1 (by rw[←ne hx,←ne hy,h])
 have ha:x.a=y.a:=by
  unfold iu at h
  rw[ho]at h
  cases hb:sL y.op with
  | true=>
   rw[hb,if_pos Z,if_pos Z]at h
   exact se (List.append_cancel_left h)
  | false=>rw[h3 (by rw[ho];exact hb),g3 hb]
 cases x;cases y;cases ho;cases ha;rfl
theorem pG: ∀{c d:List In},(∀x∈c,aE x=true)→(∀x∈d,aE x=true)→c.map iu=d.map iu→c=d
 | [],[],_,_,_=>rfl
 | [],_::_,_,_,h=>by cases h
 | _::_,[],_,_,h=>by cases h
 | x::c,y::d,hc,hd,h=>by
  simp only[List.map_cons,List.cons.injEq]at h
  rw[tp (hc x List.mem_cons_self) (hd y List.mem_cons_self) h.1,pG (fun z hz=>hc z (List.mem_cons_of_mem _ hz)) (fun z hz=>hd z (List.mem_cons_of_mem _ hz)) h.2]
theorem oz{a b:An}(ha:bB a=true)(hb:bB b=true)(h1:a.pre=b.pre)(h2:a.post=b.post)(h:ga a=ga b):a.code=b.code:=by
 unfold ga gd at h
 rw[dv,dv 10 _ (cZ b b.code.length),h1,h2]at h
 have h3:=List.append_cancel_left h
 have h4:=congrArg (spl 10) h3
 rw[kA (rh ha (cm _)),kA (rh hb (cm _))]at h4
 have h5:=congrArg (List.filter lX) (List.append_cancel_right h4)
 rw[ri ha (cm _),ri hb (cm _),List.take_length,List.take_length]at h5
 exact pG (w6.1 ha).1 (w6.1 hb).1 h5
theorem pN: ∀{k:Nat} {a:An},(lV k a).pre=a.pre∧(lV k a).post=a.post
 | 0,a=>⟨rfl,rfl⟩
 | k+1,a=>by
  have h:=pN (k:=k) (a:=j5 a k)
  have e:(j5 a k).pre=a.pre∧(j5 a k).post=a.post:=by unfold j5;split<;>exact⟨rfl,rfl⟩
  exact⟨h.1.trans e.1,h.2.trans e.2⟩
theorem lJ: ∀{n:Nat} {a:An},(dD n a).pre=a.pre∧(dD n a).post=a.post
 | 0,a=>⟨rfl,rfl⟩
 | n + 1,a=>by
  unfold dD
  cases h:cD a with
  | none=>exact⟨Z,Z⟩
  | some b=>
   obtain⟨j,_,_,_,h4,_⟩:=c9 h
   subst h4
   exact lJ (n:=n)
theorem xd{a:An}:(ct a).pre=a.pre∧(ct a).post=a.post:=by
 have h1:=pN (k:=(bT (c8 (cp a))).code.length) (a:=bT (c8 (cp a)))
 have h2:=lJ (n:=(c8 (cp a)).code.length) (a:=c8 (cp a))
 exact⟨h1.1.trans h2.1,h1.2.trans h2.2⟩
theorem m4{a:An}(hv:bB a=true):ga (ct a)=ga a↔ct a=a:=
  ⟨fun h=>(kB hv (oz (gb hv).1 hv xd.1 xd.2 h)).1,fun h=>by rw[h]⟩
end Go.Al
/- What the optimiser keeps; places that have been met: plain Lean. -/
namespace Go.Al
theorem uA{k l:Int}{p:Pt}:(lp k l p).fs=p.fs:=by unfold lp;split<;>rfl
theorem pu{a:An}{k n:Nat}{b:List In}:(bU a k n b).pts.map Pt.fs=a.pts.map Pt.fs:=by
 show(a.pts.map (lp k ((n:Int)-b.length))).map Pt.fs=_
 rw[List.map_map]
 exact List.map_congr_left fun p _=>uA
theorem rD: ∀{k:Nat} {a:An},(lV k a).pts.map Pt.fs=a.pts.map Pt.fs
 | 0,a=>rfl
 | k + 1,a=>by
  have e:(j5 a k).pts.map Pt.fs=a.pts.map Pt.fs:=by
   unfold j5
   split
   exact pu
   rfl
  exact(rD (k:=k)).trans e
theorem ni: ∀{n:Nat} {a:An},(dD n a).pts.map Pt.fs=a.pts.map Pt.fs
 | 0,a=>rfl
 | n + 1,a=>by
  unfold dD
  cases h:cD a with
  | none=>rfl
  | some b=>
   obtain⟨j,_,_,_,h4,_⟩:=c9 h
   subst h4
   exact(ni (n:=n)).trans pu
theorem uB{a:An}:(ct a).pts.map Pt.fs=a.pts.map Pt.fs:=by
 have h1:=rD (k:=(bT (c8 (cp a))).code.length) (a:=bT (c8 (cp a)))
 have h2:=ni (n:=(c8 (cp a)).code.length) (a:=c8 (cp a))
 refine h1.trans (h2.trans ?_)
 show(a.pts.map (eo (eC (cp a)))).map Pt.fs=_
 rw[List.map_map];rfl
theorem nc: ∀{n:Nat} {a:An},bB a=true→bB (gS n a)=true∧(gS n a).pre=a.pre∧(gS n a).post=a.post∧(gS n a).pts.map Pt.fs=a.pts.map Pt.fs∧(gS n a).code.length≤a.code.length
 | 0,a,hv=>⟨hv,rfl,rfl,rfl,cm _⟩
 | n+1,a,hv=>by
  unfold gS
  by_cases e:ct a=a
  rw[if_pos e];exact⟨hv,rfl,rfl,rfl,cm _⟩
  rw[if_neg e]
  obtain⟨r1,r2,_⟩:=gb hv
  obtain⟨i1,i2,i3,i4,i5⟩:=nc (n:=n) r1
  exact⟨i1,i2.trans xd.1,i3.trans xd.2,i4.trans uB,Nat.le_trans i5 r2⟩
def pX(a:An)(z:Int)(m:Nat):List (Int×D):=(List.range m).map fun j=>(di a j z,.bool true)
theorem nd{a:An}{z:Int}{m:Nat}:pX a z (m+1)=pX a z m++[(di a m z,.bool true)]:=by
 unfold pX;rw[List.range_succ,List.map_append];rfl
theorem ng: ∀{es fs:List (Int×D)} {v:Int},fc (es++fs) v=match fc es v with
    | some d=>some d
    | none=>fc fs v
  | [],fs,v=>rfl
  | (k, d)::es,fs,v=>by
    show(if v=k then some d else fc (es++fs) v)=match(if v=k then some d else fc es v)with
      | some d=>some d
      | none=>fc fs v
    by_cases e:v=k
    · rw[if_pos e,if_pos e]
    · rw[if_neg e,if_neg e];exact ng
theorem ml{a:An}{z v:Int}: ∀{m:Nat},(fc (pX a z m) v=some (.bool true)∧∃j,j<m∧di a j z=v)∨(fc (pX a z m) v=none∧∀j,j<m→di a j z≠v)
 | 0=>.inr ⟨rfl,fun j hj=>absurd hj (Nat.not_lt_zero j)⟩
 | m+1=>by
  rw[nd,ng]
  rcases ml (a:=a) (z:=z) (v:=v) (m:=m)with⟨h,j,hj,e⟩|⟨h,hn⟩
  rw[h];exact .inl ⟨rfl,j,by omega,e⟩
  rw[h]
  by_cases e:di a m z=v
  refine .inl ⟨?_,m,Nat.lt_succ_self m,e⟩
  show fc [(di a m z,.bool true)] v=_
  exact if_pos e.symm
  refine .inr ⟨?_,fun j hj=>?_⟩
  show fc [(di a m z,.bool true)] v=_
  exact if_neg fun h=>e h.symm
  rcases Nat.lt_or_ge j m with h9|h9
  exact hn j h9
  obtain rfl:j=m:=by omega
  exact e
theorem sf{es:List (Int×D)}{v:Int}{d:D}(h:fc es v=none):jb es v d=es++[(v,d)]:=by
 induction es with
 | nil=>rfl
 | cons p es ih=>
  obtain⟨k,x⟩:=p
  unfold fc at h
  split at h
  cases h
  rename_i hk
  show jb ((k,x)::es) v d=(k,x)::(es++[(v,d)])
  unfold jb
  rw[if_neg hk,ih h]
theorem tv{a:An}{z:Int}{m:Nat}(h:fc (pX a z m) (di a m z)=none):jb (pX a z m) (di a m z) (.bool true)=pX a z (m+1):=by
 rw[sf h,nd]
end Go.Al
