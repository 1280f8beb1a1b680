/- Annotated code as text: the writers of both sides and the readers of instructions, walked; plain Lean. -/
import Derived.Test.YtnjjkcooihngnaaGreatDoorE
import Derived.Test.YtnjjkcooihngnaaGreatDoorH
import Derived.WalkKit
import Derived.Deep.QuietTactic
import Derived.BigQuiet
import Derived.Lib.Join
import Derived.BigCall
set_option linter.unusedVariables false
set_option linter.unusedSimpArgs false
set_option maxRecDepth 10000
set_option maxHeartbeats 4000000
open Go.Proofs
/- The bytes of a package, in plain Lean. -/
namespace Go.Al
variable{L:Nat}(h1:4096≤L)(h2:L≤1073741824)
open Go.Lib
structure Pk where
  nm:Str
  an:An
  pf:List (List Nd)
end Go.Al
/- A slice of texts, read in a world. -/
namespace Go.Al
variable{L:Nat}(h1:4096≤L)(h2:L≤1073741824)
open Go.Proofs Go.RowKit
theorem ph{L:Nat}{w:World}{ok:Nat→Prop}{m:Nat→Loc}{ls:List Str}{v:Value}(h:RA L w ok m (.c (.d (strs ls))) v) :
    (ls=[]∧∃base cap,v= .slice base 0 cap)∨(∃b off cap,v= .slice (some ⟨b,off,none⟩) ls.length cap∧b<w.heap.size∧ls.length≤cap∧∀(j:Nat) s,ls[j]? = some s→w.cell? ⟨b,off+j,none⟩=some (.string (bS s))∧s.length≤L):=by
 cases h with
 | c h => cases h with
  | d h =>
    generalize hx:strs ls=x at h
    unfold strs at hx
    cases h with
    | slc0=>
      injection hx with h1 h2
      exact .inl ⟨List.map_eq_nil_iff.1 h2,_,_,Z⟩
    | slc h1 h2 h3 h4 h5 h6=>
      injection hx with e1 e2
      subst e1;subst e2
      rw[bl]at h1 h2 ⊢
      refine .inr ⟨_,_,_,Z,h5,h2,fun j s hj=>?_⟩
      have hf:(ls.map fun p=>[sD p]).flatten[j*1+0]? = some (sD s):=dS (sz:=1) h3 (e:=[sD s]) (by rw[List.getElem?_map,hj];rfl) Z
      rw[Nat.mul_one,Nat.add_zero]at hf
      obtain⟨u,hu,hr⟩:=h6.get rfl hf
      cases hr with
      | str hs=>exact⟨hu,by rw[bS_size]at hs;exact hs⟩
    | _=>cases hx
theorem ld(s:Str):Lib.strCells (bS s)=Lib.byteCells s:=by
 unfold Lib.strCells Lib.byteCells
 rw[fN]
theorem qG{x:Int}:(bif (bif (bif (bif (bif (bif decide (x=0)then true else decide (x=1))then true else decide (x=2))then true else decide (x=4))then true else decide (x=5))then true else decide (x=6))then true else decide (x=9))=ge x:=by
 by_cases e0:x=0
 subst e0;rfl
 by_cases e1:x=1
 subst e1;rfl
 by_cases e2:x=2
 subst e2;rfl
 by_cases e4:x=4
 subst e4;rfl
 by_cases e5:x=5
 subst e5;rfl
 by_cases e6:x=6
 subst e6;rfl
 by_cases e9:x=9
 subst e9;rfl
 unfold ge
 simp[e0,e1,e2,e4,e5,e6,e9]
theorem r4{k:Nat}(h:k<12):rq.getD k default=gu (k:Int):=rfl
theorem tQ{x:Int}:MQ h1 h2 94 [eI x] [] (Plain (eB (ge x))):=by
 refine am ?_ Z
 refine jB 29 h1 h2 Tryz.func94 Z fun O hF=>?_
 refine af (js Z (bq (aZ Z (jf [5,2,0] Z (ay 2 Z Z Z (fun hx=>au hx Z (au hx Z (AN.nil))) Z Z ?_)))))
 first|refine ab (aq O Z Z Z Z Z) Z ?_|refine ab (Val.pickB O Z Z Z Z Z) Z ?_|refine ab (aj O Z Z Z Z Z) Z ?_
 refine js Z (jf [9,2,0] Z (ay 2 Z Z Z (fun hx=>au hx Z (au hx Z (AN.nil))) Z Z ?_))
 first|refine ab (aq O Z Z Z Z Z) Z ?_|refine ab (Val.pickB O Z Z Z Z Z) Z ?_|refine ab (aj O Z Z Z Z Z) Z ?_
 refine js Z (jf [13,2,0] Z (ay 2 Z Z Z (fun hx=>au hx Z (au hx Z (AN.nil))) Z Z ?_))
 first|refine ab (aq O Z Z Z Z Z) Z ?_|refine ab (Val.pickB O Z Z Z Z Z) Z ?_|refine ab (aj O Z Z Z Z Z) Z ?_
 refine js Z (jf [17,2,0] Z (ay 2 Z Z Z (fun hx=>au hx Z (au hx Z (AN.nil))) Z Z ?_))
 first|refine ab (aq O Z Z Z Z Z) Z ?_|refine ab (Val.pickB O Z Z Z Z Z) Z ?_|refine ab (aj O Z Z Z Z Z) Z ?_
 refine js Z (jf [21,2,0] Z (ay 2 Z Z Z (fun hx=>au hx Z (au hx Z (AN.nil))) Z Z ?_))
 first|refine ab (aq O Z Z Z Z Z) Z ?_|refine ab (Val.pickB O Z Z Z Z Z) Z ?_|refine ab (aj O Z Z Z Z Z) Z ?_
 refine js Z (jf [25,2,0] Z (ay 2 Z Z Z (fun hx=>au hx Z (au hx Z (AN.nil))) Z Z ?_))
 first|refine ab (aq O Z Z Z Z Z) Z ?_|refine ab (Val.pickB O Z Z Z Z Z) Z ?_|refine ab (aj O Z Z Z Z Z) Z ?_
 refine js Z (jf [2] Z (jr ?_))
 refine aw Z ?_
 exact congrArg eB qG
theorem ra{k:Nat}(hk:k<12):MQ h1 h2 57 [eI (k:Nat)] [] (Plain (aS8 (gu (k:Int)))):=by
 refine am ?_ Z
 refine jB 9 h1 h2 Tryz.func57 Z fun O hF=>?_
 refine af (js Z (bq (bU (di O Z Z Z Z Z Z Z Z Z Z Z) Z (aI ?_))))
 refine aV (aD [4] (e':=[(0,_),(4,_)]) Z Z ⟨Z,Z,ao⟩ Z) (aV (Ent.freeze 4 (e':=[(0,_),(4,_)]) Z (.cons Z (.keep Z) (.cons Z (.c (.row Z Z)) .nil)) (.skip .nil)) ?_)
 refine aI ?_
 refine js Z (bq (ac Z (ab (aH O Z Z Z Z Z Z Z Z (show(rq.map fun p=>[sD p])[((k:Nat):Int).toNat]? = some [sD (rq.getD k default)]from dg (show k<rq.length from hk))) Z (ac Z (jf [2,4] Z (jr ?_))))))
 refine aw Z ?_
 rw[←r4 hk]
theorem om{x:In}(h:aC x=true):MQ h1 h2 60 [.agg (x.cells.map .d)] [] (Plain (aS8 (er x))):=by
 refine am ?_ Z
 refine jB 17 h1 h2 Tryz.func60 Z fun O hF=>?_
 obtain⟨⟨ho0,ho1⟩,ha,_⟩:=eC h
 have hol:=kf ho0 ho1
 have hal:=ic ha
 have z2:MC Tryz.prog L 57 [eI x.op] [] (Plain (aS8 (gu x.op))):=by
  obtain⟨k,hk⟩: ∃k:Nat,x.op=k:=⟨x.op.toNat,by omega⟩
  rw[hk];exact ra h1 h2 (by omega)
 refine af (jx Z (aI ?_))
 refine aV (Ent.freeze 1 (e':=[(1,_),(0,_)]) Z (.cons Z (.c (.box (cs:=x.cells) Z (aP Z))) (fe [0] Z)) (.skip .nil)) ?_
 refine aI ?_
 refine js Z (jn (ag (af (ac Z (jf [4,2,1,0] Z (aW Z (tQ (x:=x.op) h1 h2) 6000 Z (jn (ak Z (fun z5=>?_) (fun z5=>?_)))))))))
 refine ag (jw [4,1,0] Z (mq [_,_,_,_,_,_,_,_,_] [bv,aU [0],pe [0,1] 0,pn [0,1,2] 1 2,pn [] 0 1,pn [4] 0 1,pe [0,1,2,4,5] 1,pn (rg 0 7) 2 2,pn (rg 0 8) 2 2] [2,6] [_,_,_] (kc Z (kc Z (ai (aE O (B0:=9000) Z Z Z Z (z2) (al Z) Z Z Z Z Z) (ai (ai (aJ (p:=gu x.op) (q:=[32]) O Z Z Z Z Z Z (by show(gu x.op).length+1≤L;omega) (by show L≤_;omega)) (aJ (p:=gu x.op) (q:=[32]) O Z Z Z Z Z Z (by show(gu x.op).length+1≤L;omega) (by show L≤_;omega))) (ai (kc Z (V Z)) (ai (kc Z (V Z)) (ai (aE O (B0:=13000) Z Z Z Z (oq (n:=x.a) h1 h2 (by omega) (by omega)) (al Z) Z Z Z Z Z) (ai (aJ (p:=(gu x.op++[32])) (q:=Lib.itoa x.a) O Z Z Z Z Z Z (by rw[bV];show _+1+_≤L;omega) (by show L≤_;omega)) (kc Z trivial))))))))) ?_))
 refine jw [2,4,1,0] Z (m9 ?_)
 refine pU ?_
 refine aw Z ?_
 rw[show er x=gu x.op++[32]++Lib.itoa x.a from if_pos z5]
 refine ae (af (ac Z (jf [15,4,2,1,0] Z (aW Z (z2) 17000 Z (js Z (jf [2,4,1,0] Z (jr ?_)))))))
 refine aw Z ?_
 rw[show er x=gu x.op from if_neg (by simp[z5])]
theorem pB{p:Str}{ts:List Tm}{i:Nat}(h:i<ts.length):bb 10 (bA p (ts.take (i+1)))=bb 10 (bA p (ts.take i))++(p++[32]++tS (ts.getD i default)++[10]):=by
 rw[List.take_succ_eq_append_getElem h,getD_lt h]
 unfold bA
 rw[List.map_append,List.map_cons,List.map_nil,bM]
 simp[bb]
theorem sc{p:Str}{ts:List Tm}{i:Nat}(hp:p.length≤4)(h:terms ts 6=true):(bb 10 (bA p (ts.take i))).length≤306:=by
 refine dJ hp ?_
 unfold terms at h ⊢
 simp only[bh,decide_eq_true_eq,List.all_eq_true]at h ⊢
 exact⟨fun t ht=>h.1 t (List.mem_of_mem_take ht),by rw[List.length_take];omega⟩
variable{ts:List Tm}
theorem oo{p:Str}(hp:p.length≤4)(ht:terms ts 6=true):MQ h1 h2 64 [aS8 p,ff ts] [] (Plain (aS8 (bb 10 (bA p ts)))):=by
 refine am ?_ Z
 refine jB 24 h1 h2 Tryz.func64 Z fun O hF=>?_
 obtain⟨htm,htl⟩:=terms_sp (n:=6) ht
 have hl:ts.length≤L:=by omega
 refine af (js Z (bq (js Z (jn (ag (af (js Z (jn (ap (av (X:=Nat) (fun i=>⟨[(0,aS8 p),(1,ff ts),(5,aS8 (bb 10 (bA p (ts.take i)))),(6,eI i)],[]⟩) (fun i=>i≤ts.length) (fun i=>ts.length-i) 0 (Ent.to ⟨Z,Z,Z,Z,ao⟩ Z) ?_ (fun i hi=>?_)))))))))))
 exact cN _
 refine ag (af (ac Z ?_))
 first|refine db Z ?_|refine js Z ?_|refine be Z Z ?_
 refine js Z (jf [10,0,1,5,6] Z (jn (ak Z (fun z10=>?_) (fun z10=>?_))))
 refine ae (ag (ap (aa ?_)))
 have hi0:i<ts.length:=by have:=bJ z10;omega
 have hti:(ts.getD i default).term=true:=by rw[getD_lt hi0];exact htm _ (List.getElem_mem hi0)
 have hok:(ts.getD i default).ok=true:=by unfold Tm.term at hti;simp only[bh]at hti;exact hti.1
 have htl4:=j8 hti
 have hO:=sc (i:=i) hp ht
 refine ac Z (ab (aJ (p:=p) (q:=[32]) O Z Z Z Z Z Z (by show p.length+1≤L;omega) (by show L≤_;omega)) Z (ac Z (ab (aH O Z Z Z Z Z Z Z Z (dg hi0)) Z (jf [18,15,13,10,0,1,5,6] Z (bg O Z Z Z Z (rc (t:=(ts.getD i default)) h1 h2 hok) (.cons (.c (.sub Z)) .nil) Z Z Z Z Z (B0:=20000) Z (ab (aJ (p:=(p++[32])) (q:=(tS (ts.getD i default))) O Z Z Z Z Z Z (by rw[bV];show p.length+1+_≤L;omega) (by show L≤_;omega)) Z (ab (aJ (p:=(p++[32]++tS (ts.getD i default))) (q:=[10]) O Z Z Z Z Z Z (by rw[bV,bV];show p.length+1+_+1≤L;omega) (by show L≤_;omega)) Z (ab (aJ (p:=(bb 10 (bA p (ts.take i)))) (q:=(p++[32]++tS (ts.getD i default)++[10])) O Z Z Z Z Z Z (by rw[bV,bV,bV];show _+(p.length+1+_+1)≤L;omega) (by show L≤_;omega)) Z (js Z (jf [5,10,0,1,6] Z (jn (aa (js Z ?_)))))))))))))
 first|refine ji Z ?_|refine be Z Z ?_
 refine js Z (jf [6,5,10,0,1] Z (jn ?_))
 refine⟨i+1,Ent.to ⟨Z,Z,?_,Z,ao⟩ Z,by omega,by omega⟩
 exact congrArg (fun s=>some (aS8 s)) (pB hi0).symm
 refine aR (af (ac Z (jr ?_)))
 refine aw Z ?_
 obtain rfl:i=ts.length:=by have:=ck z10;omega
 rw[List.take_length]
variable{a:An}
theorem t6{k:Int}:MQ h1 h2 65 [ptr a.data,eI k] [] (Plain (eI (fc (fun p:Pt=>decide (p.k=k)) a.pts))):=by
 refine am ?_ Z
 refine jB 26 h1 h2 Tryz.func65 Z fun O hF=>?_
 have hlp:a.pts.length≤L:=by simpa[As.fact,A.fact,M.fact,D.fact,Ds.fact]using hF.1.2.2.2.1.1
 refine af (js Z (jn (ag (af (js Z (jn (ap (av (X:=Nat) (fun i=>⟨[(0,ptr a.data),(1,eI k),(5,eI i)],[]⟩) (fun i=>i≤a.pts.length∧∀j (h:j<a.pts.length),j<i→(fun p:Pt=>decide (p.k=k)) a.pts[j]=false) (fun i=>a.pts.length-i) 0 (Ent.env ⟨Z,Z,Z,ao⟩) ?_ (fun i hi=>?_)))))))))
 exact⟨cN _,fun j h hj=>absurd hj (Nat.not_lt_zero j)⟩
 refine ag (af (bn Z (js Z ?_)))
 first|refine db Z ?_|refine js Z ?_|refine be Z Z ?_
 refine js Z (jf [12,0,1,5] Z (jn (ak Z (fun z12=>?_) (fun z12=>?_))))
 refine ae (ag (ap (af ?_)))
 have hil:i<a.pts.length:=by have:=bJ z12;omega
 refine bn Z (js Z ?_)
 first|refine qQ Z Z ?_|refine kB Z Z ?_|refine be Z Z ?_
 refine bn Z (jf [24,12,0,1,5] Z (jn (ak Z (fun z24=>?_) (fun z24=>?_))))
 refine af (ac Z (jr ?_))
 refine aw Z ?_
 rw[show fc (fun p:Pt=>decide (p.k=k)) a.pts=i from gi hil hi.2 (by rw[←getD_lt hil];exact z24)]
 refine ae (aa (js Z ?_))
 first|refine ji Z ?_|refine be Z Z ?_
 refine js Z (jf [5,24,12,0,1] Z (jn ?_))
 refine⟨i+1,Ent.env ⟨Z,Z,Z,ao⟩,⟨by omega,fun j h hj=>?_⟩,by omega⟩
 by_cases e:j=i
 subst e;rw[←getD_lt h];exact z24
 exact hi.2 j h (by omega)
 refine aR (af (js Z (jr ?_)))
 refine aw Z ?_
 have h9:=ck z12
 rw[show fc (fun p:Pt=>decide (p.k=k)) a.pts= -1 from gh fun j hj=>hi.2 j hj (by omega)]
theorem mY{α:Type}{p:α→Bool}{l:List α}:fc p l=match l.findIdx? p with
 | none=> -1
 | some i=>(i:Int):=by
 cases h:l.findIdx? p with
 | none=>
  rw[List.findIdx?_eq_none_iff]at h
  exact gh fun j hj=>h _ (List.getElem_mem hj)
 | some i=>
  obtain⟨h1,h2⟩:=List.findIdx?_eq_some_iff_findIdx_eq.1 h
  obtain⟨h3,h4⟩:=(List.findIdx_eq h1).1 h2
  exact gi h1 (fun j hj hji=>by have:=h4 j hji;simpa using this) h3
theorem lL{a:An}{i:Nat}(h:fc (fun p:Pt=>decide (p.k=(i:Int))) a.pts<0):nZ a i=[er (a.code.getD i default)]:=by
 rw[mY]at h
 unfold nZ
 cases hx:a.pts.findIdx? (fun p=>decide (p.k=(i:Int)))with
 | none=>rfl
 | some k=>
  rw[hx]at h
  have h2:(k:Int)<0:=h
  omega
theorem iw{a:An}{i k:Nat}(h:fc (fun p:Pt=>decide (p.k=(i:Int))) a.pts=(k:Int)):k<a.pts.length∧nZ a i=bm::bA gt (a.pts.getD k default).fs++[er (a.code.getD i default)]:=by
 rw[mY]at h
 unfold nZ
 cases hx:a.pts.findIdx? (fun p=>decide (p.k=(i:Int)))with
 | none=>
  rw[hx]at h
  have h2:(-1:Int)=(k:Int):=h
  omega
 | some j=>
  rw[hx]at h
  obtain rfl:j=k:=by have h':(j:Int)=k:=h;omega
  exact⟨(List.findIdx?_eq_some_iff_findIdx_eq.1 hx).1,Z⟩
theorem fQ{α:Type}{p:α→Bool}{l:List α}(h:0≤fc p l): ∃k:Nat,fc p l=k:=⟨_,(Int.toNat_of_nonneg h).symm⟩
def sF(a:An):Str:=bb 10 (bA bK a.pre)++bb 10 (bA bj a.post)
def nN(a:An)(i:Nat):Str:=sF a++bb 10 (cz a i)
theorem qc{a:An}:nN a a.code.length=dO a:=by
 unfold nN sF dO et
 rw[bM,bM]
theorem pc{a:An}{i:Nat}:nN a (i+1)=nN a i++bb 10 (nZ a i):=by
 unfold nN
 rw[cz,bM,cM]
theorem qF{a:An}(h:annB a=true):(sF a).length≤612:=by
 obtain⟨_,_,_,h3,h4,_,_⟩:=annB_sp h
 have q1:=dJ (w:=bK) (by decide) h3
 have q2:=dJ (w:=bj) (by decide) h4
 unfold sF
 rw[bV];omega
theorem qb{a:An}(h:annB a=true){i:Nat}(hi:i≤a.code.length):(nN a i).length≤28000:=by
 have h1:=qF h
 have h2:=iH h hi
 obtain⟨_,h3,_⟩:=annB_sp h
 unfold nN
 rw[bV];omega
theorem tU(hv:annB a=true)(hL:1048576<L):MQ h1 h2 29 [ptr a.data] [] (Plain (aS8 (dO a))):=by
 refine am ?_ Z
 refine jB 55 h1 h2 Tryz.func29 Z fun O hF=>?_
 obtain⟨hin,hcl,hcl1,htp,hto,hpl,hpf⟩:=annB_sp hv
 have hl:a.code.length≤L:=by omega
 have hlp:a.pts.length≤L:=by omega
 have q1:=dJ (w:=bK) (by decide) htp
 have q2:=dJ (w:=bj) (by decide) hto
 refine af (js Z (jn (ag (mq [_,_,_,_,_,_,_,_,_,_,_,_] [bv,aU [0],aU [0,1],aU [0,1,2],pe (rg 0 4) 0,pn [] 0 1,pn [5] 0 1,pn [5,6] 0 1,pn [5,6,7] 0 1,pe (rg 0 9) 1,pn (rg 0 10) 2 2,pn (rg 0 11) 2 2] [4,9] [_,_,_] (sJ Z (ai (aE O (B0:=11000) Z Z Z Z (oo (p:=bK) (ts:=a.pre) h1 h2 (by decide) htp) (.cons (.c .d) (.cons (.c .d) .nil)) Z Z Z Z Z) (ai (kc Z (V Z)) (ai (kc Z (V Z)) (ai (kc Z (V Z)) (ai (kc Z (V Z)) (ai (aE O (B0:=16000) Z Z Z Z (oo (p:=bj) (ts:=a.post) h1 h2 (by decide) hto) (.cons (.c .d) (.cons (.c .d) .nil)) Z Z Z Z Z) (ai (aJ (p:=(bb 10 (bA bK a.pre))) (q:=(bb 10 (bA bj a.post))) O Z Z Z Z Z Z (by show _+_≤L;omega) (by show L≤_;omega)) (kc Z trivial))))))))) ?_))))
 refine jw [3,2,0] Z (m9 ?_)
 refine ag (af (js Z (jn (ap (av (X:=Nat) (fun i=>⟨[(0,ptr a.data),(3,aS8 (nN a i)),(4,eI i)],[]⟩) (fun i=>i≤a.code.length) (fun i=>a.code.length-i) 0 (Ent.to ⟨Z,congrArg (fun s=>some (aS8 s)) (by unfold nN sF;simp[cz,bb]),Z,ao⟩ Z) ?_ (fun i hi=>?_))))))
 exact cN _
 refine ag (af (bn Z (js Z ?_)))
 first|refine db Z ?_|refine js Z ?_|refine be Z Z ?_
 refine js Z (jf [23,0,3,4] Z (jn (ak Z (fun z23=>?_) (fun z23=>?_))))
 refine ae (ag (ap (af ?_)))
 have hi0:i<a.code.length:=by have:=bJ z23;omega
 have hAl:=qb hv (i:=i) (by omega)
 have hil:=kh (hin i hi0)
 refine ac Z (aW Z (t6 (a:=a) (k:=(i:Int)) h1 h2) 29000 Z (js Z (jf [5,23,0,3,4] Z (jn (ag (af (ac Z (jn ?_))))))))
 obtain⟨M,hM0,hM1,hMl,hmid⟩: ∃M:Str,((fc (fun p:Pt=>decide (p.k=(i:Int))) a.pts)<0→M=[])∧(∀k:Nat,(fc (fun p:Pt=>decide (p.k=(i:Int))) a.pts)=k→M=(bm++[10]++bb 10 (bA gt (a.pts.getD k default).fs)))∧M.length≤320∧M++(er (a.code.getD i default)++[10])=bb 10 (nZ a i):=by
  have hcl3:=m3 hv hi0
  by_cases h:(fc (fun p:Pt=>decide (p.k=(i:Int))) a.pts)<0
  exact⟨[],fun _=>rfl,fun k hk=>by omega,by simp,by rw[lL h];simp[bb]⟩
  obtain⟨k,hk⟩:=fQ (show 0≤(fc (fun p:Pt=>decide (p.k=(i:Int))) a.pts) by omega)
  obtain⟨hk1,hk2⟩:=iw hk
  have e:(bm++[10]++bb 10 (bA gt (a.pts.getD k default).fs))++(er (a.code.getD i default)++[10])=bb 10 (nZ a i):=by rw[hk2];simp[bb,bM]
  refine⟨_,fun h9=>by omega,fun j hj=>by rw[show j=k by omega],?_,e⟩
  have:=congrArg List.length e
  have hg:=dJ (w:=gt) (by decide) (hpf k hk1)
  rw[bV,bV];show 5+1+_≤320;omega
 refine bu ⟨[(0,ptr a.data),(3,aS8 (nN a i++M)),(4,eI i)],[]⟩ ?_ ?_
 refine ak Z (fun z30=>?_) (fun z30=>?_)
 refine aa ?_
 obtain⟨k,hk⟩:=fQ (show 0≤(fc (fun p:Pt=>decide (p.k=(i:Int))) a.pts) by simpa using z30)
 obtain⟨hk1,_⟩:=iw hk
 have hgl:=dJ (w:=gt) (by decide) (hpf k hk1)
 rw[hk]
 refine bn Z (ac Z (ab (aH O Z Z Z Z Z Z Z Z (dg hk1)) Z (ac Z (jf [39,31,30,29,5,23,0,3,4] Z (aW Z (oo (p:=gt) (ts:=(a.pts.getD k default).fs) h1 h2 (by decide) (hpf k hk1)) 41000 Z (ab (aJ (p:=(bm++[10])) (q:=(bb 10 (bA gt (a.pts.getD k default).fs))) O Z Z Z Z Z Z (by show 6+_≤L;omega) (by show L≤_;omega)) Z (ab (aJ (p:=(nN a i)) (q:=(bm++[10]++bb 10 (bA gt (a.pts.getD k default).fs))) O Z Z Z Z Z Z (by rw[bV,bV];show _+(6+_)≤L;omega) (by show L≤_;omega)) Z (js Z (jf [3,30,29,5,23,0,4] Z (jn ?_))))))))))
 exact⟨Z,Ent.to ⟨Z,congrArg (fun s=>some (aS8 s)) (by rw[hM1 k hk]),Z,ao⟩ Z⟩
 refine ae ?_
 exact⟨Z,Ent.to ⟨Z,congrArg (fun s=>some (aS8 s)) (by rw[hM0 (by simpa using z30),List.append_nil]),Z,ao⟩ Z⟩
 refine aa (bn Z (ac Z (ab (aH O Z Z Z Z Z Z Z Z (dg hi0)) Z (js Z (jf [50,43,0,3,4] Z (aW Z (om (x:=a.code.getD i default) h1 h2 (hin i hi0)) 52000 Z (ab (aJ (p:=(er (a.code.getD i default))) (q:=[10]) O Z Z Z Z Z Z (by show _+1≤L;omega) (by show L≤_;omega)) Z (ab (aJ (p:=(nN a i++M)) (q:=(er (a.code.getD i default)++[10])) O Z Z Z Z Z Z (by rw[bV,bV];show _+_+(_+1)≤L;omega) (by show L≤_;omega)) Z (js Z (jf [3,0,4] Z (jn (aa (js Z ?_)))))))))))))
 first|refine ji Z ?_|refine be Z Z ?_
 refine js Z (jf [4,3,0] Z (jn ?_))
 refine⟨i+1,Ent.to ⟨Z,?_,Z,ao⟩ Z,by omega,by omega⟩
 exact congrArg (fun s=>some (aS8 s)) (by rw[pc,←hmid];simp[bb])
 refine aR (af (ac Z (jr ?_)))
 refine aw Z ?_
 obtain rfl:i=a.code.length:=by have:=ck z23;omega
 rw[qc]
variable{xs:List Int}
theorem tO{v:Int}:MQ h1 h2 103 [cr xs,eI v] [] (Plain (eI (fc (fun x=>decide (x=v)) xs))):=by
 refine am ?_ Z
 refine jB 19 h1 h2 Tryz.func103 Z fun O hF=>?_
 have hl:xs.length≤L:=by simpa[As.fact,A.fact,M.fact,D.fact,Ds.fact]using hF.1.1
 refine af (js Z (jn (ag (af (js Z ?_)))))
 first|refine db Z ?_|refine js Z ?_|refine be Z Z ?_
 refine js Z (jn (ap (av (X:=Nat) (fun i=>⟨[(0,cr xs),(1,eI v),(6,cr xs),(7,eI xs.length),(8,eI i)],[]⟩) (fun i=>i≤xs.length∧∀j (h:j<xs.length),j<i→(fun x=>decide (x=v)) xs[j]=false) (fun i=>xs.length-i) 0 (Ent.to ⟨Z,Z,Z,Z,Z,ao⟩ Z) ?_ (fun i hi=>?_))))
 exact⟨cN _,fun j h hj=>absurd hj (Nat.not_lt_zero j)⟩
 refine af (js Z (jn (ag (ak Z (fun z9=>?_) (fun z9=>?_)))))
 refine ae (ag (ap (af ?_)))
 have hil:i<xs.length:=by have:=bJ z9;omega
 refine ac Z (bq (aZ Z (ab (aH O Z Z Z Z Z Z Z Z (dg hil)) Z (ac Z (jf [16,5,10,9,0,1,6,7,8] Z (jn (ak Z (fun z16=>?_) (fun z16=>?_))))))))
 refine af (ac Z (jr ?_))
 refine aw Z ?_
 rw[getD_lt hil]at z16
 rw[gi hil hi.2 (decide_eq_true (bJ z16).symm)]
 refine ae (aa ?_)
 first|refine ji Z ?_|refine be Z Z ?_
 refine js Z (jn ?_)
 refine⟨i+1,Ent.to ⟨Z,Z,Z,Z,Z,ao⟩ Z,⟨by omega,fun j h hj=>?_⟩,by omega⟩
 by_cases e:j=i
 subst e;rw[getD_lt h]at z16;exact decide_eq_false fun e=>ck z16 e.symm
 exact hi.2 j h (by omega)
 refine aR (af (js Z (jr ?_)))
 refine aw Z ?_
 have h9:=ck z9
 rw[gh (fun j hj=>hi.2 j hj (by omega))]
theorem tP{v:Int}:MQ h1 h2 74 [cr xs,eI v] [] (Plain (eB (xs.contains v))):=by
 refine am ?_ Z
 refine jB 9 h1 h2 Tryz.func74 Z fun O hF=>?_
 refine af (js Z (bq (ac Z (jf [6,5,4] Z (aW Z (tO (xs:=xs) (v:=v) h1 h2) 8000 Z (ac Z (jf [4] Z (jr ?_))))))))
 refine aw Z ?_
 refine congrArg eB (Eq.trans (oU (p:=fun x=>decide (x=v)) (l:=xs)) ?_)
 rw[List.contains_eq_any_beq]
 exact List.any_congr Z fun x=>decide_eq_decide.2 ⟨fun e=>e.symm,fun e=>e.symm⟩
theorem q9{x:Int}:MQ h1 h2 38 [eI x] [] (Plain (eB (ge x))):=by
 refine am ?_ Z
 refine jB 6 h1 h2 Tryz.func38 Z fun O hF=>?_
 refine af (js Z (bq (bU (di O Z Z Z Z Z Z Z Z Z Z Z) Z (aI ?_))))
 refine aV (aD [3] (e':=[(0,_),(3,_)]) Z Z ⟨Z,Z,ao⟩ Z) (aV (Ent.freeze 3 (e':=[(0,_),(3,_)]) Z (.cons Z (.keep Z) (.cons Z (.c (.row Z Z)) .nil)) (.skip .nil)) ?_)
 refine aI ?_
 refine js Z (jf [4,3] Z (aW Z (tP (xs:=[0,1,2,4,5,6,9]) (v:=x) h1 h2) 6000 Z (js Z (jf [2] Z (jr ?_)))))
 refine aw Z ?_
 rfl
theorem oi:MQ h1 h2 37 [] [] (Plain (.c (.d (strs rq)))):=by
 refine MC.data (jB 2 h1 h2 Tryz.func37 Z fun O hF=>?_)
 refine af (js Z (bq (bU (di O Z Z Z Z Z Z Z Z Z Z Z) Z (js Z (jr ?_)))))
 refine aw Z ?_
 exact .v (.c (.whole Z Z))
theorem sf{k:Nat}{a:Int}(hk:k<12)(ha: -1000000000≤a∧a≤1000000000):MQ h1 h2 41 [.agg [.d (.int .i64 (k:Nat)),.d (.int .i64 a)]] [] (Plain (aS8 (er (⟨(k:Int),a⟩:In)))):=by
 refine am ?_ Z
 refine jB 21 h1 h2 Tryz.func41 Z fun O hF=>?_
 have hol:=kf (o:=(k:Int)) (by omega) (by omega)
 have hal:=ic ha
 have hkw:rq.getD k default=gu (k:Int):=rfl
 refine af (jx Z (aI ?_))
 refine aV (Ent.freeze 1 (e':=[(1,_),(0,_)]) Z (.cons Z (.c (.box (cs:=[.int .i64 (k:Nat),.int .i64 a]) Z (aP Z))) (fe [0] Z)) (.skip .nil)) ?_
 refine aI ?_
 refine js Z (jn (ag (af (ac Z (jf [4,2,1,0] Z (aW Z (q9 (x:=(k:Int)) h1 h2) 6000 Z (jn (ak Z (fun z5=>?_) (fun z5=>?_)))))))))
 refine ag (jw [4,1,0] Z (mq [_,_,_,_,_,_,_,_,_,_,_] [pe [] 0,pn [] 0 2,pn [1] 0 2,pn [0,1,2] 1 2,pn (rg 0 4) 1 2,pn (rg 0 5) 1 2,pn [] 0 1,pn [6] 0 1,pe [0,6,7] 1,pn (rg 0 9) 2 2,pn (rg 0 10) 2 2] [0,8] [_,_,_] (ai (iX O (B0:=7000) Z Z Z Z (oi h1 h2) (al Z) Z Z Z Z Z) (ai (kc Z (kc Z (V Z))) (ai (kc Z (kc Z (V Z))) (ai (ai (aH O Z Z Z Z Z Z Z Z (show(rq.map fun p=>[sD p])[((k:Nat):Int).toNat]? = some [sD (rq.getD k default)]from dg (show k<rq.length from hk))) (aH O Z Z Z Z Z Z Z Z (show(rq.map fun p=>[sD p])[((k:Nat):Int).toNat]? = some [sD (rq.getD k default)]from dg (show k<rq.length from hk)))) (ai (kc Z (V Z)) (ai (ai (aJ (p:=rq.getD k default) (q:=[32]) O Z Z Z Z Z Z (by rw[hkw];show(gu (k:Int)).length+1≤L;omega) (by show L≤_;omega)) (aJ (p:=rq.getD k default) (q:=[32]) O Z Z Z Z Z Z (by rw[hkw];show(gu (k:Int)).length+1≤L;omega) (by show L≤_;omega))) (ai (kc Z (V Z)) (ai (kc Z (V Z)) (ai (aE O (B0:=15000) Z Z Z Z (mz (n:=a) h1 h2 (by omega) (by omega)) (al Z) Z Z Z Z Z) (ai (aJ (p:=(rq.getD k default++[32])) (q:=Lib.itoa a) O Z Z Z Z Z Z (by rw[bV,hkw];show _+1+_≤L;omega) (by show L≤_;omega)) (kc Z trivial))))))))))) ?_))
 refine jw [2,4,1,0] Z (m9 ?_)
 refine pU ?_
 refine aw Z ?_
 rw[show er (⟨(k:Int),a⟩:In)=rq.getD k default++[32]++Lib.itoa a from if_pos z5]
 refine ae (ag (jw [4,1,0] Z (mq [_,_,_,_,_,_] [pe [] 0,pn [] 0 1,pn [1] 0 1,pn [0,1,2] 1 1,pn (rg 0 4) 1 1,pn (rg 0 5) 1 1] [0] [_,_] (ai (iX O (B0:=17000) Z Z Z Z (oi h1 h2) (al Z) Z Z Z Z Z) (ai (kc Z (V Z)) (ai (kc Z (V Z)) (ai (aH O Z Z Z Z Z Z Z Z (show(rq.map fun p=>[sD p])[((k:Nat):Int).toNat]? = some [sD (rq.getD k default)]from dg (show k<rq.length from hk))) (kc Z (kc Z trivial)))))) ?_)))
 refine jw [2,4,1,0] Z (m9 ?_)
 refine pU ?_
 refine aw Z ?_
 rw[show er (⟨(k:Int),a⟩:In)=rq.getD k default from if_neg (by simp[z5])]
theorem rb{L:Nat}(h1:4096≤L)(h2:L≤1073741824){x:In}(h:aC x=true):MC Tryz.prog L 41 [.agg (x.cells.map .d)] [] (Plain (aS8 (er x))):=by
 obtain⟨⟨ho0,ho1⟩,ha,_⟩:=eC h
 obtain⟨op,a⟩:=x
 obtain⟨k,rfl⟩: ∃k:Nat,op=k:=⟨op.toNat,by simp only at ho0;omega⟩
 exact sf h1 h2 (by simp only at ho1;omega) ha
end Go.Al
/- What the program's withNewlines answers. -/
namespace Go.Al
variable{L:Nat}(h1:4096≤L)(h2:L≤1073741824)
open Go.Proofs Go.RowKit
set_option maxRecDepth 1000000
def vq:Value→Nat
  | .int _ n=>n.toNat
  | _=>0
theorem nx{c:UInt8}{ls:List Str}{i:Nat}(h:i<ls.length):bb c (ls.take (i+1))=bb c (ls.take i)++(ls[i]++[c]):=by
 rw[List.take_succ_eq_append_getElem h,bM];simp[bb]
theorem pI{c:UInt8}{ls:List Str}{i:Nat}:(bb c (ls.take i)).length≤(bb c ls).length:=by
 conv=>rhs;rw[←List.take_append_drop i ls,bM]
 rw[bV];omega
theorem qA{w:World}{base:Option Addr}{cap:Nat}{ls:List Str}(hc: ∀(j:Nat) s,ls[j]? = some s→∃b off,base=some ⟨b,off,none⟩∧b<w.heap.size∧w.cell? ⟨b,off+j,none⟩=some (.string (bS s)))
    (hl:(bb 10 ls).length≤1073741824) (hn:ls.length≤1073741824) :
    Calls Tryz.prog 47 #[.slice base ls.length cap] w fun e w'=>e= .returned (.string (bS (bb 10 ls)))∧Below w.heap.size w w':=by
  go_enter Tryz.func47,Tryz.ntmps47
  go_wp2_with fail
  go_loopw [8] (fun v wr=> ∃i:Nat,v= .int .i64 i∧i≤ls.length∧Lib.IsBuilderF 109 5 w.heap.size w.heap.size (Lib.byteCells (bb 10 (ls.take i))) wr∧Below w.heap.size w wr) (fun v _=>ls.length-vq v)
  case atStart=>exact⟨0,rfl,cN _,Lib.IsBuilderF.of (Lib.fresh_isBuilder 109 5 w),(Below.refl _ w).alloc (bH _) _⟩
  case round=>
    obtain⟨i,rfl,hi,hB,hbw⟩:=hrel
    by_cases hlt:i<ls.length
    · obtain⟨b,off,rfl,hb,hcell⟩:=hc i ls[i] (by simp[hlt])
      have hcw:wr.cell? ⟨b,off+i,none⟩=some (.string (bS ls[i])):=(Same.cell (show Same w wr b from hbw.block b hb)).trans hcell
      have hct:=nx (c:=10) hlt
      have hcl:=congrArg List.length hct
      have hcp:=pI (c:=10) (ls:=ls) (i:=i+1)
      rw[bV,bV,pP]at hcl
      have hov: ¬9223372036854775807<(bS ls[i]).size+1:=by rw[bS_size];omega
      have hap:bS ls[i]++({data:= #[10]}:ByteArray)=bS (ls[i]++[10]):=oX _ _
      go_wp2_with fail
      refine(Tryz.Builder_WriteString_f w.heap.size w.heap.size _ _ wr hB (by rw[Lib.byteCells_length,bS_size,bV,pP];omega) hbw.size).mono fun e W1 ⟨he,k1,b1⟩=>?_
      subst he
      go_wp2_with fail
      go_roundw
      case rel=>
        refine⟨i+1,by simp,by omega,Or.inr ?_,hbw.trans b1⟩
        rw[hct,Lib.byteCells_append,←ld]
        exact k1
      case measure=>
        simp[vq]
        omega
    · obtain rfl:i=ls.length:=by omega
      rw[List.take_length]at hB
      go_wp2_with fail
      refine(Tryz.Builder_String_any_f w.heap.size w.heap.size _ wr hB hbw.size).mono fun e W1 ⟨he,_,b1⟩=>?_
      subst he
      go_wp2_with fail
      go_ret
      exact⟨Z,hbw.trans b1⟩
theorem tR{ls:List Str}(hl:(bb 10 ls).length≤L)(hn:ls.length≤L):MQ h1 h2 47 [.c (.d (strs ls))] [] (Plain (aS8 (bb 10 ls))):=by
 refine iy ⟨_,_,Tryz.func47,by kernel_rfl,Z⟩ fun w ok m vs h0 h5=>?_
 cases h5 with
 | cons a1 a2=>
  cases a2
  have key: ∀{base cap},(∀(j:Nat) s,ls[j]? = some s→∃b off,base=some ⟨b,off,none⟩∧b<w.heap.size∧w.cell? ⟨b,off+j,none⟩=some (.string (bS s)))→Calls Tryz.prog 47 #[.slice base ls.length cap] w (ij fun x w'=>Frame w w' []∧∀ok' m',(∀b,w.heap.size≤b→ok' b)→RA L w' ok' m' (aS8 (bb 10 ls)) x):=fun hc=>
   Calls.mono (qA hc (by omega) (by omega)) fun e w' ⟨he,hw⟩=>by
    subst he
    exact⟨.of_below hw,fun ok' m' _=>.c (.d (.str (by show(bS _).size≤L;rw[bS_size];exact hl)))⟩
  rcases ph a1 with⟨rfl,base,cap,rfl⟩|⟨b,off,cap,rfl,hb,hcap,hc⟩
  exact key (fun j s h=>by cases h)
  exact key fun j s h=>⟨b,off,Z,hb,(hc j s h).1⟩
abbrev lB(ls:List Str)(l:Nat):B:=.box [.rs l 0 ls.length]
abbrev lR(ls:List Str):B:=.row false 1 (ls.map fun p=>[sD p])
theorem gvT{p:Str}{ts:List Tm}{ls:List Str}{i:Nat}(h:i<ts.length):ls++bA p (ts.take (i+1))=(ls++bA p (ts.take i))++[p++[32]++tS (ts.getD i default)]:=by
 rw[List.take_succ_eq_append_getElem h,getD_lt h]
 unfold bA
 rw[List.map_append,List.map_cons,List.map_nil,←cM]
theorem iI{c:UInt8}: ∀{ls:List Str},ls.length≤(bb c ls).length
 | []=>bH _
 | p::r=>by
  have:=iI (c:=c) (ls:=r)
  rw[bb,bV,ep,ep];omega
variable{ts:List Tm}
theorem ol{p:Str}{ls:List Str}(hp:p.length≤4)(ht:terms ts 6=true)(hll:ls.length≤1000):MQ h1 h2 45 [aS8 p,ff ts,.c (.pt 0 0 0)] [(0,lB ls 1),(1,lR ls)] (fM (.tup []) [(0,lB (ls++bA p ts) 2),(2,lR (ls++bA p ts))]):=by
 refine k8 500 Z (MC.keep [500,502] (bs:=[lB (ls++bA p ts) 502,lR (ls++bA p ts)]) (R:=.tup []) Z Z (jH 22 [500,501] h1 h2 Tryz.func45 Z fun O hF=>?_))
 refine m9 ?_
 obtain⟨htm,htl⟩:=terms_sp (n:=6) ht
 have hl:ts.length≤L:=by omega
 refine af (js Z ?_)
 first|refine db Z ?_|refine js Z ?_|refine be Z Z ?_
 refine js Z (jn (ap (av (X:=Nat) (fun i=>⟨[(0,aS8 p),(2,.c (.pt 500 0 0)),(7,ff ts),(8,eI ts.length),(9,eI i)],[(500,lB (ls++bA p (ts.take i)) 502),(502,lR (ls++bA p (ts.take i)))]⟩) (fun i=>i≤ts.length) (fun i=>ts.length-i) 0 ((bw 501 502 Z Z).trans (Ent.to ⟨Z,Z,Z,Z,Z,ao⟩ (by rw[show ls++bA p (ts.take 0)=ls by simp[bA]];rfl))) ?_ (fun i hi=>?_))))
 exact cN _
 refine af (js Z (jn (ag (ak Z (fun z10=>?_) (fun z10=>?_)))))
 refine ae (ag (ap (af ?_)))
 have hi0:i<ts.length:=by have:=bJ z10;omega
 have hti:(ts.getD i default).term=true:=by rw[getD_lt hi0];exact htm _ (List.getElem_mem hi0)
 have hok:(ts.getD i default).ok=true:=by unfold Tm.term at hti;simp only[bh]at hti;exact hti.1
 have htl4:=j8 hti
 have hCl:(bA p (ts.take i)).length≤6:=by unfold bA;rw[bl,List.length_take];omega
 refine ab (aH O Z Z Z Z Z Z Z Z (dg hi0)) Z (js Z (jf [12,10,0,2,7,8,9] Z (jl Z (aI ?_))))
 refine jo Z (aI ?_)
 refine aV (aD [500,502,6] (e':=[(6,_),(0,_),(2,_),(7,_),(8,_),(9,_)]) Z Z ⟨Z,Z,Z,Z,Z,Z,ao⟩ Z) (aV (Ent.freeze 6 (e':=[(6,_),(0,_),(2,_),(7,_),(8,_),(9,_)]) Z (.cons Z (.c (.box (cs:=(ts.getD i default).cells) Z (aP Z))) (fe [0,2,7,8,9] Z)) (pW Z (sK Z (.skip .nil)))) ?_)
 refine aI ?_
 refine jn (rn [_,_,_,_,_,_,_,_,_] [pn [] 0 2,pn [] 0 1,pn [1] 0 1,bv,pe [3] 0,pn (rg 1 4) 1 1,pe (rg 1 5) 1,pe (rg 0 7) 2,pe (rg 0 8) 3] [4,6,7,8] [_,_,_,_,_] [[],[],[502],[]] (ai (ka Z Z (ka Z Z (kw Z Z))) (ai (ka Z Z (kw Z Z)) (ai (ai (ai (aJ (p:=p) (q:=[32]) O Z Z Z Z Z Z (by show p.length+1≤L;omega) (by show L≤_;omega)) Z) (ai (aJ (p:=p) (q:=[32]) O Z Z Z Z Z Z (by show p.length+1≤L;omega) (by show L≤_;omega)) Z)) (ka Z Z (ai (ai (gB (aE O (B0:=18000) Z Z Z Z (ri (t:=(ts.getD i default)) h1 h2 hok) (al Z) Z Z Z Z Z)) Z) (ai (ai (aJ (p:=(p++[32])) (q:=(tS (ts.getD i default))) O Z Z Z Z Z Z (by rw[bV];show p.length+1+_≤L;omega) (by show L≤_;omega)) Z) (ai (ai (gB (k9 O Z Z Z Z Z Z Z Z Z Z Z Z Z Z)) Z) (ai (ai (gS (own:=false) (xs:=(ls++bA p (ts.take i)).map (fun p=>[sD p])) (ys:=[[sD (p++[32]++tS (ts.getD i default))]]) (zs:=((ls++bA p (ts.take i))++[(p++[32]++tS (ts.getD i default))]).map (fun p=>[sD p])) (n:=((ls++bA p (ts.take i))++[(p++[32]++tS (ts.getD i default))]).length) O Z Z Z Z Z Z Z Z Z Z Z Z Z Z Z Z (.row Z (bl _).symm) (.whole Z Z (.inr ⟨Z,Z⟩)) (by simp) Z (by simp;omega) (by simp;omega) (by simp) (by simp) Z) Z) (ai (ai (gB (eS Z Z Z)) Z) trivial))))))))) ?_)
 refine jw [6,0,2,7,8,9] Z (m9 ?_)
 refine aa ?_
 first|refine ji Z ?_|refine be Z Z ?_
 refine js Z (jn ?_)
 refine⟨i+1,((aD [500,20] (e':=[(0,_),(2,_),(7,_),(8,_),(9,_)]) Z Z ⟨Z,Z,Z,Z,Z,ao⟩ Z).trans (bw 20 502 Z Z)).trans (Ent.to ⟨Z,Z,Z,Z,Z,ao⟩ (by rw[gvT hi0];rfl)),by omega,by omega⟩
 refine aR ?_
 show _∧_
 obtain rfl:i=ts.length:=by have:=ck z10;omega
 rw[List.take_length]
 refine⟨.inr Z,_,el,_,Z,Z,Z⟩
theorem k4{a:An}(h:annB a=true): ∀{n:Nat},n≤a.code.length→(cz a n).length≤8*n
 | 0,_=>bH _
 | n + 1,hn=>by
  have h1:=k4 h (n:=n) (by omega)
  obtain⟨_,_,_,_,_,_,h7⟩:=annB_sp h
  have h2:(nZ a n).length≤8:=by
   by_cases h9:fc (fun p:Pt=>decide (p.k=(n:Int))) a.pts<0
   rw[lL h9];simp
   obtain⟨k,hk⟩:=fQ (show 0≤fc (fun p:Pt=>decide (p.k=(n:Int))) a.pts by omega)
   obtain⟨hk1,hk2⟩:=iw hk
   have:=(terms_sp (n:=6) (h7 k hk1)).2
   rw[hk2,bV,ep,pP]
   unfold bA;rw[bl];omega
  rw[cz,bV];omega
variable{a:An}
theorem tT(hv:annB a=true)(hL:1048576<L):MQ h1 h2 16 [n0 a] [] (Plain (aS8 (dO a))):=by
 refine am ?_ Z
 refine jB 49 h1 h2 Tryz.func16 Z fun O hF=>?_
 obtain⟨hin,hcl,hcl1,htp,hto,hpl,hpf⟩:=annB_sp hv
 have hl:a.code.length≤L:=by omega
 have hlp:a.pts.length≤L:=by omega
 have htl:=jp hv
 have q1:(bA bK a.pre).length≤6:=by unfold bA;rw[bl];exact(terms_sp (n:=6) htp).2
 have q2:(bA bj a.post).length≤6:=by unfold bA;rw[bl];exact(terms_sp (n:=6) hto).2
 refine af (jx Z (aI ?_))
 refine aV (Ent.freeze 1 (e':=[(1,_),(0,_)]) Z (.cons Z (.c (.box (cs:=a.data) Z (aP Z))) (fe [0] Z)) (.skip .nil)) ?_
 refine aI ?_
 refine js Z (bq (jl Z (aI ?_)))
 refine bq (aV (ar 3 900 1 false 0 Z Z Z) (ac Z (bq (aZ Z (jf [11,9,4,8,1,3] Z (ca O [3,900] (bin:=[lB [] 1,lR []]) Z Z Z Z (ol (p:=bK) (ts:=a.pre) (ls:=[]) h1 h2 (by decide) htp (by simp)) Z Z Z Z Z Z (B0:=13000) Z Z (aI ?_)))))))
 refine jf [4,8,1,3] Z (bq (aZ Z (jf [15,13,4,8,1,3] Z (ca O [3,13002] (bin:=[lB (bA bK a.pre) 1,lR (bA bK a.pre)]) Z Z Z Z (ol (p:=bj) (ts:=a.post) (ls:=bA bK a.pre) h1 h2 (by decide) hto (by omega)) Z Z Z Z Z Z (B0:=17000) Z Z (aI ?_)))))
 refine jf [4,8,1,3] Z (jn (ag (af (ac Z ?_))))
 first|refine db Z ?_|refine js Z ?_|refine be Z Z ?_
 refine js Z (jn (ap (av (X:=Nat) (fun i=>⟨[(1,ptr a.data),(3,.c (.pt 3 0 0)),(4,.c (.fn 45 [.pt 3 0 0])),(18,i8 a.code),(19,eI a.code.length),(20,eI i)],[(3,lB (bA bK a.pre++bA bj a.post++cz a i) 900),(900,lR (bA bK a.pre++bA bj a.post++cz a i))]⟩) (fun i=>i≤a.code.length) (fun i=>a.code.length-i) 0 ((bw 17002 900 Z Z).trans (Ent.to ⟨Z,Z,Z,Z,Z,Z,ao⟩ (by rw[show(bA bK a.pre++bA bj a.post++cz a 0)=bA bK a.pre++bA bj a.post from List.append_nil _];rfl))) ?_ (fun i hi=>?_))))
 exact cN _
 refine af (js Z (jn (ag (ak Z (fun z21=>?_) (fun z21=>?_)))))
 refine ae (ag (ap (af (js Z ?_))))
 have hi0:i<a.code.length:=by have:=bJ z21;omega
 have hCl:=k4 hv (n:=i) (by omega)
 have hil:=kh (hin i hi0)
 refine ab (aH O Z Z Z Z Z Z Z Z (dg hi0)) Z (js Z (jf [24,22,21,1,3,4,18,19,20] Z (jl Z (aI ?_))))
 refine js Z (jf [5,6,24,21,1,3,4,18,19,20] Z (jo Z (aI ?_)))
 refine aV (aD [3,900,6] (e':=[(6,_),(5,_),(1,_),(3,_),(4,_),(18,_),(19,_),(20,_)]) Z Z ⟨Z,Z,Z,Z,Z,Z,Z,Z,ao⟩ Z) (aV (Ent.freeze 6 (e':=[(6,_),(5,_),(1,_),(3,_),(4,_),(18,_),(19,_),(20,_)]) Z (.cons Z (.c (.box (cs:=(a.code.getD i default).cells) Z (aP Z))) (fe [5,1,3,4,18,19,20] Z)) (pW Z (sK Z (.skip .nil)))) ?_)
 refine aI ?_
 refine jn (ag (af (ac Z (jf [26,25,6,1,3,4,18,19,20] Z (aW Z (vg (a:=a) (k:=(i:Int)) h1 h2) 28000 Z (js Z (jf [7,6,1,3,4,18,19,20] Z (bq (ac Z (jn ?_))))))))))
 obtain⟨M,hM0,hM1,hMl,hnx⟩: ∃M:List Str,((fc (fun p:Pt=>decide (p.k=(i:Int))) a.pts)<0→M=[])∧(∀k:Nat,(fc (fun p:Pt=>decide (p.k=(i:Int))) a.pts)=k→M=bm::(bA gt (a.pts.getD k default).fs))∧M.length≤7∧(bA bK a.pre++bA bj a.post++cz a (i+1))=(bA bK a.pre++bA bj a.post++cz a i)++M++[er (a.code.getD i default)]:=by
  by_cases h:(fc (fun p:Pt=>decide (p.k=(i:Int))) a.pts)<0
  refine⟨[],fun _=>rfl,fun k hk=>by omega,by simp,?_⟩
  rw[cz,lL h];simp
  obtain⟨k,hk⟩:=fQ (show 0≤(fc (fun p:Pt=>decide (p.k=(i:Int))) a.pts) by omega)
  obtain⟨hk1,hk2⟩:=iw hk
  refine⟨bm::(bA gt (a.pts.getD k default).fs),fun h9=>by omega,fun j hj=>by rw[show j=k by omega],?_,by rw[cz,hk2];simp⟩
  have:=(terms_sp (n:=6) (hpf k hk1)).2
  unfold bA;rw[ep,bl];omega
 refine bu ⟨[(1,ptr a.data),(3,.c (.pt 3 0 0)),(4,.c (.fn 45 [.pt 3 0 0])),(6,ptr (a.code.getD i default).cells),(18,i8 a.code),(19,eI a.code.length),(20,eI i)],[(3,lB ((bA bK a.pre++bA bj a.post++cz a i)++M) 900),(900,lR ((bA bK a.pre++bA bj a.post++cz a i)++M))]⟩ ?_ ?_
 refine ak Z (fun z29=>?_) (fun z29=>?_)
 refine af ?_
 obtain⟨k,hk⟩:=fQ (show 0≤(fc (fun p:Pt=>decide (p.k=(i:Int))) a.pts) by simpa using z29)
 obtain⟨hk1,_⟩:=iw hk
 have hgl:=(terms_sp (n:=6) (hpf k hk1)).2
 rw[hk]
 refine js Z (bU (di O Z Z Z Z Z Z Z Z Z Z Z) Z (aI ?_))
 refine bU (kF (own:=false) (xs:=(bA bK a.pre++bA bj a.post++cz a i).map (fun p=>[sD p])) (ys:=[[sD bm]]) (zs:=((bA bK a.pre++bA bj a.post++cz a i)++[bm]).map (fun p=>[sD p])) (n:=((bA bK a.pre++bA bj a.post++cz a i)++[bm]).length) O Z (.row Z (bl _).symm) (.whole Z Z (.inr ⟨Z,Z⟩)) (by simp) Z (by simp;omega) (by simp;omega) (by simp) (by simp)) Z (aI ?_)
 refine aI ?_
 refine jf [32,29,28,7,6,1,3,4,18,19,20] Z (jo Z (aI ?_))
 refine aI ?_
 refine jn (aa (bn Z (ab (aH O Z Z Z Z Z Z Z Z (dg hk1)) Z (ac Z (jf [39,33,32,29,28,7,6,1,3,4,18,19,20] Z (ca O [3,32] (bin:=[lB ((bA bK a.pre++bA bj a.post++cz a i)++[bm]) 1,lR ((bA bK a.pre++bA bj a.post++cz a i)++[bm])]) Z Z Z Z (ol (p:=gt) (ts:=(a.pts.getD k default).fs) (ls:=(bA bK a.pre++bA bj a.post++cz a i)++[bm]) h1 h2 (by decide) (hpf k hk1) (by simp only[bV,pP];omega)) Z Z Z Z Z Z (B0:=41000) Z Z (aI ?_)))))))
 refine jf [32,29,28,7,6,1,3,4,18,19,20] Z (jn ?_)
 exact⟨Z,((aD [3,41002] (e':=[(1,_),(3,_),(4,_),(6,_),(18,_),(19,_),(20,_)]) Z Z ⟨Z,Z,Z,Z,Z,Z,Z,ao⟩ Z).trans (bw 41002 900 Z Z)).trans (Ent.to ⟨Z,Z,Z,Z,Z,Z,Z,ao⟩ (by rw[show(bA bK a.pre++bA bj a.post++cz a i)++M=(bA bK a.pre++bA bj a.post++cz a i)++[bm]++(bA gt (a.pts.getD k default).fs) by rw[hM1 k hk];simp];rfl))⟩
 refine ae ?_
 exact⟨Z,Ent.to ⟨Z,Z,Z,Z,Z,Z,Z,ao⟩ (by rw[hM0 (by simpa using z29),List.append_nil])⟩
 refine rn [_,_,_,_,_,_] [pn [] 0 2,bv,pe [1] 0,pe [1,2] 1,pe (rg 0 4) 2,pe (rg 0 5) 3] [2,3,4,5] [_,_,_,_,_] [[],[],[900],[]] (ai (ka Z Z (ka Z Z (kw Z Z))) (ka Z Z (ai (ai (gB (aE O (B0:=44000) Z Z Z Z (rb (x:=(a.code.getD i default)) h1 h2 (hin i hi0)) (al Z) Z Z Z Z Z)) Z) (ai (ai (gB (k9 O Z Z Z Z Z Z Z Z Z Z Z Z Z Z)) Z) (ai (ai (gS (own:=false) (xs:=((bA bK a.pre++bA bj a.post++cz a i)++M).map (fun p=>[sD p])) (ys:=[[sD (er (a.code.getD i default))]]) (zs:=(((bA bK a.pre++bA bj a.post++cz a i)++M)++[(er (a.code.getD i default))]).map (fun p=>[sD p])) (n:=(((bA bK a.pre++bA bj a.post++cz a i)++M)++[(er (a.code.getD i default))]).length) O Z Z Z Z Z Z Z Z Z Z Z Z Z Z Z Z (.row Z (bl _).symm) (.whole Z Z (.inr ⟨Z,Z⟩)) (by simp) Z (by simp;omega) (by simp;omega) (by simp) (by simp) Z) Z) (ai (ai (gB (eS Z Z Z)) Z) trivial)))))) ?_
 refine jw [1,3,4,6,18,19,20] Z (m9 ?_)
 refine aa ?_
 first|refine ji Z ?_|refine be Z Z ?_
 refine js Z (jn ?_)
 refine⟨i+1,((aD [3,45] (e':=[(1,_),(3,_),(4,_),(18,_),(19,_),(20,_)]) Z Z ⟨Z,Z,Z,Z,Z,Z,ao⟩ Z).trans (bw 45 900 Z Z)).trans (Ent.to ⟨Z,Z,Z,Z,Z,Z,ao⟩ (by rw[hnx];rfl)),by omega,by omega⟩
 refine aR (af ?_)
 obtain rfl:i=a.code.length:=by have:=ck z21;omega
 refine js Z (bg O Z Z Z Z (tR (ls:=et a) h1 h2 (by show(dO a).length≤L;omega) (by have:=iI (c:=10) (ls:=et a);have h:(bb 10 (et a)).length≤30000:=htl;omega)) (.cons (.c (.whole Z (show(et a).length=((et a).map _).length from(bl _).symm))) .nil) Z Z Z Z Z (B0:=49000) Z (js Z (jf [2,21,1,3,4,18,19,20] Z (jr ?_))))
 refine aw Z ?_
 rfl
abbrev sC(r:Tm×Bool):A:=.tup [.agg [.d (.int .i64 r.1.c),.rs 0 0 r.1.xs.length],eB r.2]
variable{xs:List Int}
theorem tG{c:Int}:MQ h1 h2 54 [eI c,cr xs] [] (Rows (sC (i7 c xs)) [dX (i7 c xs).1.xs]):=by
 refine dh (jB 32 h1 h2 Tryz.func54 Z fun O hF=>?_)
 have hl:xs.length≤L:=by simpa[As.fact,A.fact,M.fact,D.fact,Ds.fact]using hF.2.1.1
 refine af (jl Z (aI ?_))
 refine js Z (bq (js Z ?_))
 first|refine db Z ?_|refine js Z ?_|refine be Z Z ?_
 refine js Z (jf [6,5,4,0,1] Z (jn (ag (ap (av (X:=Nat) (fun n=>⟨[(0,eI c),(1,cr xs),(4,.c (.pt 4 0 0)),(6,eI n)],[(4,.box [.d (.int .i64 0),.d .nils])]⟩) (fun n=>n≤xs.length∧bL (xs.take n)=bL xs) (fun n=>n) xs.length (Ent.env ⟨Z,Z,Z,Z,ao⟩) ?_ (fun n hi=>?_))))))
 exact⟨bH _,by rw[List.take_length]⟩
 refine ag (af (aZ Z (jf [12,0,1,4,6] Z (ay 6 Z Z Z (fun hx=>au hx Z (au hx Z (bE hx (vF Z) Z (bE hx (vD Z) Z (au hx Z (au hx Z (AN.nil))))))) Z Z ?_))))
 first|refine ab (aj O Z Z Z Z Z) Z ?_|refine ab (aq O Z Z Z Z Z) Z ?_|refine ab (Val.pickB O Z Z Z Z Z) Z ?_
 refine jf [19,0,1,4,6] Z (jn (ak Z (fun z19=>?_) (fun z19=>?_)))
 refine ae (ap (aa (js Z ?_)))
 first|refine ji Z ?_|refine be Z Z ?_
 refine js Z (jf [6,19,0,1,4] Z (jn ?_))
 rw[Bool.cond_false_right,bh,decide_eq_true_eq,decide_eq_true_eq]at z19
 obtain⟨k,hk⟩: ∃k,n=k+1:=⟨n-1,by omega⟩
 subst hk
 have hk2:((k+1:Nat):Int)-1=k:=by omega
 rw[hk2]at z19
 refine⟨k,Ent.to ⟨Z,Z,Z,by rw[hk2];rfl,ao⟩ Z,⟨by omega,?_⟩,Nat.lt_succ_self k⟩
 rw[←hi.2,jm (by omega) (by simpa using z19.2)]
 refine aR (af (aZ Z ?_))
 have hd:bL (xs.take n)=xs.take n:=gm hi.1 (by
  rw[Bool.cond_false_right]at z19
  rcases Nat.eq_zero_or_pos n with h0|h0
  ·
   exact .inl h0
  ·
   refine .inr (fun h9=>?_)
   have e1:((n:Int)-1).toNat=n-1:=by omega
   rw[e1,h9]at z19;simp at z19;omega)
 have ht:=hi.2
 rw[hd]at ht
 refine ab ((br O Z Z ⟨by omega,by simp;omega⟩).cast (v':=cr (bL xs)) (by rw[←ht];simp[List.map_take])) Z (jf [25,22,19,0,1,4,6] Z (ch O (B0:=27000) Z Z Z Z (vd (xs:=bL xs) h1 h2) (al Z) Z Z Z Z Z Z (aI ?_)))
 refine js Z (jf [27,19,0,1,4,6] Z (jl Z (aI ?_)))
 refine jo Z (aI ?_)
 refine jn (ag (af (bg O Z Z Z Z (s4 (t:=⟨c,bL xs⟩) h1 h2) (.cons (.c (.pb (cs:=Tm.cells ⟨c,bL xs⟩) Z (.cons .d (.cons (.whole Z (bl _).symm) .nil)))) .nil) Z Z Z Z Z (B0:=29000) Z (js Z (jn (ak Z (fun z29=>?_) (fun z29=>?_)))))))
 refine af (js Z (jo Z (aI ?_)))
 refine js Z (jr ?_)
 have hok:(Tm.mk c (bL xs)).ok=false:=by simpa using z29
 rw[show i7 c xs=(⟨0,[]⟩,false)from if_neg (by rw[hok];decide)]
 refine⟨.inl Z,_,ar 4 900 1 true 1 Z Z Z,_,Z,[900],by decide,Z,Z,Z⟩
 refine ae (af (js Z (jo Z (aI ?_))))
 refine js Z (jr ?_)
 have hok:(Tm.mk c (bL xs)).ok=true:=by simpa using z29
 rw[show i7 c xs=(⟨c,bL xs⟩,true)from if_pos hok]
 refine⟨.inl Z,_,el,_,Z,[27000],by decide,Z,Z,Z⟩
theorem si{s:Str}(hs:s.length≤1100000):MQ h1 h2 26 [aS8 s] [] (Rows (sC (dd (nR s))) [dX (dd (nR s)).1.xs]):=by
 refine dh (jB 123 h1 h2 Tryz.func26 Z fun O hF=>?_)
 refine af (jl Z (aI ?_))
 refine js Z (bq (bU (m6 O Z Z Z Z Z Z Z Z Z (by first|omega|(simp at *;omega)) (by first|omega|(simp at *;omega)) (by first|omega|(simp at *;omega)) (by first|omega|(dsimp only;omega)|(simp only[aK]at *;omega)) (by first|omega|(simp at *;omega)) Z Z Z) Z (aI ?_)))
 refine js Z (bq (js Z (bq (js Z (bq (js Z (jn (ag (af (js Z (jn (ap (av (X:=Nat×List Int×Int×Int×Int) (fun z=>⟨[(0,aS8 s),(2,.c (.pt 2 0 0)),(4,.c (.rs 11 0 10)),(5,eI z.2.2.1),(6,eI z.2.2.2.1),(7,eI z.2.2.2.2),(8,eI (z.1:Nat))],[(2,.box [.d (.int .i64 0),.d .nils]),(11,dX z.2.1)]⟩) (fun z=>z.1≤s.length+1∧z.2.1.length=10∧(∀y∈z.2.1,-20000009≤y∧y≤20000009)∧(-20000009≤z.2.2.1∧z.2.2.1≤20000009)∧(-1≤z.2.2.2.1∧z.2.2.2.1≤20000009)∧(z.2.2.2.2=1∨z.2.2.2.2= -1)∧(z.1≤s.length→df (s.drop z.1) z.2.1 z.2.2.1 z.2.2.2.1 z.2.2.2.2=df s (zr 10) 0 (-1) 1)∧(z.1=s.length+1→df s (zr 10) 0 (-1) 1=some (z.2.1,z.2.2.1))) (fun z=>s.length+1-z.1) (0,zr 10,0,-1,1) (Ent.to ⟨Z,Z,Z,Z,Z,Z,Z,ao⟩ Z) ?_ (fun z hi=>?_))))))))))))))
 exact⟨cN _,Z,fun y hy=>by rw[show y=0 from List.eq_of_mem_replicate hy];simp,by simp,by simp,.inl Z,fun _=>rfl,fun h=>by have h9:0=s.length+1:=h;omega⟩
 refine ag (af (ac Z (ab (bd (p:=s) O Z Z Z Z Z Z Z Z Z) Z (js Z (jf [15,0,2,4,5,6,7,8] Z (jn (ak Z (fun z15=>?_) (fun z15=>?_))))))))
 refine ae (ag (ap (ap (af (ac Z ?_)))))
 have hzl:z.1≤s.length:=by have:=bJ z15;omega
 have hr:=hi.2.2.2.2.2.2.1 hzl
 have hby:0≤((s.getD z.1 0).toNat:Int)∧((s.getD z.1 0).toNat:Int)≤255:=mA s z.1
 refine ab (bd (p:=s) O Z Z Z Z Z Z Z Z Z) Z (ac Z (jf [24,15,0,2,4,5,6,7,8] Z (ay 4 Z Z Z (fun hx=>au hx Z (au hx Z (bE hx (aO (p:=s) (b:=s.getD z.1 0) O Z Z Z Z Z Z Z (by omega) (bW (by have:=su hx;omega))) Z (au hx Z (AN.nil))))) Z Z ?_)))
 first|refine ab (aj O Z Z Z Z Z) Z ?_|refine ab (aq O Z Z Z Z Z) Z ?_|refine ab (Val.pickB O Z Z Z Z Z) Z ?_
 refine js Z (jf [30,15,0,2,4,5,6,7,8] Z (ay 4 Z Z Z (fun hx=>au hx Z (au hx Z (bE hx (aO (p:=s) (b:=s.getD z.1 0) O Z Z Z Z Z Z Z (by omega) (bW (by have:=uc hx;omega))) Z (au hx Z (AN.nil))))) Z Z ?_))
 first|refine ab (aj O Z Z Z Z Z) Z ?_|refine ab (aq O Z Z Z Z Z) Z ?_|refine ab (Val.pickB O Z Z Z Z Z) Z ?_
 refine js Z (jf [19,15,0,2,4,5,6,7,8] Z (jn (ak Z (fun z19=>?_) (fun z19=>?_))))
 refine ag (af ?_)
 have z3:=ut.1 z19
 have hin:z.1<s.length:=by have:=z3.1;omega
 refine ac Z (jn (ak Z (fun z37=>?_) (fun z37=>?_)))
 refine af (js Z (jo Z (aI ?_)))
 refine js Z (jr ?_)
 rw[oG (by rw[←hr,oJ hin z3.2.1 z3.2.2,if_pos (bJ z37)])]
 refine⟨.inl Z,_,ar 2 900 1 true 1 Z Z Z,_,Z,[900],by decide,Z,Z,Z⟩
 refine ae ?_
 have hmx:mx z.2.2.2.1 0=max z.2.2.2.1 0:=by unfold mx;split<;>omega
 have hn2: ¬2000000<z.2.2.2.1:=ck z37
 refine mq [_,_,_,_,_,_,_,_,_,_] [bv,pe [0] 0,pn [0,1] 1 1,pn [] 0 1,pn [] 0 1,pn [3,4] 0 1,pn [3,4,5] 0 1,pn (rg 3 4) 0 1,pn (rg 0 8) 1 1,pn (rg 0 9) 1 1] [1] [_,_] (kc Z (ai (aE O (B0:=41000) Z Z Z Z ((uW (a:=z.2.2.2.1) (b:=0) h1 h2).plain (congrArg eI hmx)) (al Z) Z Z Z Z Z) (ai (aB O Z Z (by omega) (by omega)) (ai (kc Z (V Z)) (ai (kc Z (V Z)) (ai (ai (aO (p:=s) (b:=s.getD z.1 0) O Z Z Z Z Z Z Z (by omega) (bW hin)) (aO (p:=s) (b:=s.getD z.1 0) O Z Z Z Z Z Z Z (by omega) (bW hin))) (ai (ai (dv (k:=.u8) (n:=((s.getD z.1 0).toNat:Int)-48) O Z Z (by have:=z3.2.1;show(0:Int)≤_;omega) (by show _≤(255:Int);omega)) (dv (k:=.u8) (n:=((s.getD z.1 0).toNat:Int)-48) O Z Z (by have:=z3.2.1;show(0:Int)≤_;omega) (by show _≤(255:Int);omega))) (ai (ai ((Val.conv (b:=true) (dt:=.int .u8) O Z Z Z (by kernel_rfl) (by kernel_rfl)).cast (v':=eI (((s.getD z.1 0).toNat:Int)-48)) (by rw[dE .i64 _ (by show(-9223372036854775808:Int)≤_;omega) (by show _≤(9223372036854775807:Int);omega)])) ((Val.conv (b:=true) (dt:=.int .u8) O Z Z Z (by kernel_rfl) (by kernel_rfl)).cast (v':=eI (((s.getD z.1 0).toNat:Int)-48)) (by rw[dE .i64 _ (by show(-9223372036854775808:Int)≤_;omega) (by show _≤(9223372036854775807:Int);omega)]))) (ai (aB O Z Z (by omega) (by omega)) (kc Z trivial)))))))))) ?_
 refine aa (js Z ?_)
 first|refine ji Z ?_|refine be Z Z ?_
 refine js Z (jf [8,6,47,46,45,44,43,42,41,40,39,37,36,19,15,0,2,4,5,7] Z (jn ?_))
 refine⟨(z.1+1,z.2.1,z.2.2.1,10*max z.2.2.2.1 0+(((s.getD z.1 0).toNat:Int)-48),z.2.2.2.2),Ent.to ⟨Z,Z,Z,Z,Z,Z,Z,ao⟩ Z,⟨by show z.1+1≤_;omega,hi.2.1,hi.2.2.1,hi.2.2.2.1,by show -1≤10*max z.2.2.2.1 0+(((s.getD z.1 0).toNat:Int)-48)∧10*max z.2.2.2.1 0+(((s.getD z.1 0).toNat:Int)-48)≤20000009;omega,hi.2.2.2.2.2.1,fun _=>?_,fun h=>by have h9:z.1+1=s.length+1:=h;omega⟩,by show s.length+1-(z.1+1)<s.length+1-z.1;omega⟩
 show df (s.drop (z.1+1)) z.2.1 z.2.2.1 (10*max z.2.2.2.1 0+(((s.getD z.1 0).toNat:Int)-48)) z.2.2.2.2=_
 rw[←hr,oJ hin z3.2.1 z3.2.2,if_neg (ck z37)]
 refine af (ac Z ?_)
 have hnd0:=ft z19 ut
 refine ab (bd (p:=s) O Z Z Z Z Z Z Z Z Z) Z (ac Z (jf [53,19,15,0,2,4,5,6,7,8] Z (ay 4 Z Z Z (fun hx=>au hx Z (au hx Z (bE hx (aO (p:=s) (b:=s.getD z.1 0) O Z Z Z Z Z Z Z (by omega) (bW (by have:=su hx;omega))) Z (au hx Z (AN.nil))))) Z Z ?_)))
 first|refine ab (aj O Z Z Z Z Z) Z ?_|refine ab (aq O Z Z Z Z Z) Z ?_|refine ab (Val.pickB O Z Z Z Z Z) Z ?_
 refine js Z (jf [59,19,15,0,2,4,5,6,7,8] Z (ay 4 Z Z Z (fun hx=>au hx Z (au hx Z (bE hx (aO (p:=s) (b:=s.getD z.1 0) O Z Z Z Z Z Z Z (by omega) (bW (by have:=uc hx;omega))) Z (au hx Z (AN.nil))))) Z Z ?_))
 first|refine ab (aj O Z Z Z Z Z) Z ?_|refine ab (aq O Z Z Z Z Z) Z ?_|refine ab (Val.pickB O Z Z Z Z Z) Z ?_
 refine js Z (jf [48,19,15,0,2,4,5,6,7,8] Z (jn (ak Z (fun z48=>?_) (fun z48=>?_))))
 refine ag (af ?_)
 have hl3:=ut.1 z48
 have hin:z.1<s.length:=by have:=hl3.1;omega
 have hnd: ¬(48≤bt s z.1∧bt s z.1≤57):=fun h=>hnd0 ⟨by omega,h.1,h.2⟩
 refine ac Z (jn ?_)
 obtain⟨n1,hn1⟩: ∃n1:Int,n1=if z.2.2.2.1<0 then 1 else z.2.2.2.1:=⟨_,rfl⟩
 have hnb:0≤n1∧n1≤20000009:=by rw[hn1];split<;>omega
 have hm:=jW hi.2.2.2.2.2.1 hnb.1 hnb.2
 obtain⟨j,hj⟩: ∃j:Nat,((s.getD z.1 0).toNat:Int)-97=(j:Int):=⟨(((s.getD z.1 0).toNat:Int)-97).toNat,by have:=hl3.2.1;have:=hl3.2.2;omega⟩
 have hj10:j<10:=by have:=hl3.2.2;omega
 refine bu ⟨[(0,aS8 s),(2,.c (.pt 2 0 0)),(4,.c (.rs 11 0 10)),(5,eI z.2.2.1),(6,eI n1),(7,eI z.2.2.2.2),(8,eI (z.1:Nat))],[(2,.box [.d (.int .i64 0),.d .nils]),(11,dX z.2.1)]⟩ ?_ ?_
 refine ak Z (fun z66=>?_) (fun z66=>?_)
 refine aa (js Z (jn ?_))
 exact⟨Z,Ent.to ⟨Z,Z,Z,Z,congrArg (fun z=>some (eI z)) (show(1:Int)=n1 by rw[hn1,if_pos (bJ z66)]),Z,Z,ao⟩ Z⟩
 refine ae ?_
 exact⟨Z,Ent.to ⟨Z,Z,Z,Z,congrArg (fun z=>some (eI z)) (show z.2.2.2.1=n1 by rw[hn1,if_neg (ck z66)]),Z,Z,ao⟩ Z⟩
 refine af (aZ Z (ab (aO (p:=s) (b:=s.getD z.1 0) O Z Z Z Z Z Z Z (by omega) (bW hin)) Z (ab ((dv (k:=.u8) (n:=((s.getD z.1 0).toNat:Int)-97) O Z Z (by have:=hl3.2.1;show(0:Int)≤_;omega) (by show _≤(255:Int);omega)).cast (v':=.c (.d (.int .u8 (j:Int)))) (by rw[hj])) Z (ac Z (ab (aB O Z Z (by omega) (by omega)) Z (ab (br (c:=0≤(j:Int)∧(j:Int)<((10:Nat):Int)) (v:=.c (.pt 11 (0+(j:Int).toNat) 0)) O Z Z (by omega)) Z (jf [75,74,0,2,4,5,6,7,8] Z (bU (cd (ex:=[.int .i64 (z.2.1.getD j 0)]) (xs':=(z.2.1.set j (z.2.2.2.2*n1)).map (fun n=>[D.int .i64 n])) O Z Z Z Z Z Z Z Z Z Z Z Z Z Z (by simp[hi.2.1,hj10]) (by rw[List.map_set];simp only[Int.toNat_natCast,Nat.zero_add];rfl)) Z (aI ?_)))))))))
 refine aI ?_
 refine jf [0,2,4,5,6,7,8] Z (jn (aa (js Z (jn (aa (js Z ?_))))))
 first|refine ji Z ?_|refine be Z Z ?_
 refine js Z (jf [8,6,0,2,4,5,7] Z (jn ?_))
 refine⟨(z.1+1,z.2.1.set j (z.2.2.2.2*n1),z.2.2.1,-1,z.2.2.2.2),Ent.to ⟨Z,Z,Z,Z,Z,Z,Z,ao⟩ Z,⟨by show z.1+1≤_;omega,by show(z.2.1.set j _).length=10;rw[List.length_set];exact hi.2.1,rO hi.2.2.1 hm.1 hm.2,hi.2.2.2.1,by show -1≤(-1:Int)∧(-1:Int)≤20000009;omega,hi.2.2.2.2.2.1,fun _=>?_,fun h=>by have h9:z.1+1=s.length+1:=h;omega⟩,by show s.length+1-(z.1+1)<s.length+1-z.1;omega⟩
 show df (s.drop (z.1+1)) (z.2.1.set j (z.2.2.2.2*n1)) z.2.2.1 (-1) z.2.2.2.2=_
 rw[←hr,rU hin hnd hl3.2.1 hl3.2.2,←hn1,show(s.getD z.1 0).toNat-97=j by omega]
 refine af (ac Z ?_)
 have hnl0:=ft z48 ut
 refine ab (bd (p:=s) O Z Z Z Z Z Z Z Z Z) Z (ac Z (jf [81,48,19,15,0,2,4,5,6,7,8] Z (ay 4 Z Z Z (fun hx=>au hx Z (au hx Z (bE hx (aO (p:=s) (b:=s.getD z.1 0) O Z Z Z Z Z Z Z (by omega) (bW (by have:=uS hx;omega))) Z (au hx Z (AN.nil))))) Z Z ?_)))
 first|refine ab (aq O Z Z Z Z Z) Z ?_|refine ab (Val.pickB O Z Z Z Z Z) Z ?_|refine ab (aj O Z Z Z Z Z) Z ?_
 refine js Z (jf [87,48,19,15,0,2,4,5,6,7,8] Z (ay 4 Z Z Z (fun hx=>au hx Z (au hx Z (bE hx (aO (p:=s) (b:=s.getD z.1 0) O Z Z Z Z Z Z Z (by omega) (bW (by have:=uR hx;omega))) Z (au hx Z (AN.nil))))) Z Z ?_))
 first|refine ab (aq O Z Z Z Z Z) Z ?_|refine ab (Val.pickB O Z Z Z Z Z) Z ?_|refine ab (aj O Z Z Z Z Z) Z ?_
 refine js Z (jf [76,48,19,15,0,2,4,5,6,7,8] Z (jn (ak Z (fun z76=>?_) (fun z76=>?_))))
 refine ag (af ?_)
 have ht0:=c3o.1 z76
 have ht3:z.1<s.length→bt s z.1=43∨bt s z.1=45:=fun h=>ht0.resolve_left (fun e=>by omega)
 have hnd:z.1<s.length→¬(48≤bt s z.1∧bt s z.1≤57):=fun q h=>hnd0 ⟨by omega,h.1,h.2⟩
 have hnl:z.1<s.length→¬(97≤bt s z.1∧bt s z.1≤106):=fun q h=>hnl0 ⟨by omega,h.1,h.2⟩
 refine ac Z (jn ?_)
 obtain⟨c1,z1⟩: ∃c1:Int,c1=if 0≤z.2.2.2.1 then z.2.2.2.2*z.2.2.2.1 else z.2.2.1:=⟨_,rfl⟩
 have hc1b: -20000009≤c1∧c1≤20000009:=by
  rw[z1];split
  exact jW hi.2.2.2.2.2.1 (by omega) hi.2.2.2.2.1.2
  exact hi.2.2.2.1
 refine bu ⟨[(0,aS8 s),(2,.c (.pt 2 0 0)),(4,.c (.rs 11 0 10)),(5,eI c1),(6,eI z.2.2.2.1),(7,eI z.2.2.2.2),(8,eI (z.1:Nat))],[(2,.box [.d (.int .i64 0),.d .nils]),(11,dX z.2.1)]⟩ ?_ ?_
 refine ak Z (fun z94=>?_) (fun z94=>?_)
 refine aa (ac Z (ab (aB O Z Z (by have:=jW hi.2.2.2.2.2.1 (bJ z94) hi.2.2.2.2.1.2;omega) (by have:=jW hi.2.2.2.2.2.1 (bJ z94) hi.2.2.2.2.1.2;omega)) Z (js Z (jf [5,94,93,76,48,19,15,0,2,4,6,7,8] Z (jn ?_)))))
 exact⟨Z,Ent.to ⟨Z,Z,Z,congrArg (fun z=>some (eI z)) (show z.2.2.2.2*z.2.2.2.1=c1 by rw[z1,if_pos (bJ z94)]),Z,Z,Z,ao⟩ Z⟩
 refine ae ?_
 exact⟨Z,Ent.to ⟨Z,Z,Z,congrArg (fun z=>some (eI z)) (show z.2.2.1=c1 by rw[z1,if_neg (ck z94)]),Z,Z,Z,ao⟩ Z⟩
 refine af (js Z (bq (js Z (bq (ac Z (ab (bd (p:=s) O Z Z Z Z Z Z Z Z Z) Z (ac Z (jf [102,7,6,0,2,4,5,8] Z (ay 4 Z Z Z (fun hx=>au hx Z (au hx Z (bE hx (aO (p:=s) (b:=s.getD z.1 0) O Z Z Z Z Z Z Z (by omega) (bW (by have:=su hx;omega))) Z (au hx Z (AN.nil))))) Z Z ?_)))))))))
 first|refine ab (aj O Z Z Z Z Z) Z ?_|refine ab (aq O Z Z Z Z Z) Z ?_|refine ab (Val.pickB O Z Z Z Z Z) Z ?_
 refine jf [107,7,6,0,2,4,5,8] Z (jn ?_)
 obtain⟨sg1,hsgv⟩: ∃sg1:Int,sg1=if z.1<s.length then(if bt s z.1=45 then -1 else 1)else 1:=⟨_,rfl⟩
 have hsg1:sg1=1∨sg1= -1:=by
  rw[hsgv];split
  split
  exact .inr Z
  exact .inl Z
  exact .inl Z
 refine bu ⟨[(0,aS8 s),(2,.c (.pt 2 0 0)),(4,.c (.rs 11 0 10)),(5,eI c1),(6,eI (-1)),(7,eI sg1),(8,eI (z.1:Nat))],[(2,.box [.d (.int .i64 0),.d .nils]),(11,dX z.2.1)]⟩ ?_ ?_
 refine ak Z (fun z107=>?_) (fun z107=>?_)
 refine aa (js Z (jn ?_))
 exact⟨Z,Ent.to ⟨Z,Z,Z,Z,Z,congrArg (fun z=>some (eI z)) (show(-1:Int)=sg1 by have h9:=uv.1 z107;rw[hsgv,if_pos (by omega),if_pos h9.2]),Z,ao⟩ Z⟩
 refine ae ?_
 exact⟨Z,Ent.to ⟨Z,Z,Z,Z,Z,congrArg (fun z=>some (eI z)) (show(1:Int)=sg1 by rw[hsgv,rN (fun e=>ft z107 uv ⟨by have:=e.1;omega,e.2⟩)]),Z,ao⟩ Z⟩
 refine aa (js Z ?_)
 first|refine ji Z ?_|refine be Z Z ?_
 refine js Z (jf [8,0,2,4,5,6,7] Z (jn ?_))
 refine⟨(z.1+1,z.2.1,c1,-1,sg1),Ent.to ⟨Z,Z,Z,Z,Z,Z,Z,ao⟩ Z,⟨by show z.1+1≤_;omega,hi.2.1,hi.2.2.1,hc1b,by show -1≤(-1:Int)∧(-1:Int)≤20000009;omega,hsg1,fun h=>?_,fun h=>?_⟩,by show s.length+1-(z.1+1)<s.length+1-z.1;omega⟩
 have h9:z.1+1≤s.length:=h
 show df (s.drop (z.1+1)) z.2.1 c1 (-1) sg1=_
 have hsn:=ht3 (by omega)
 rw[←hr,rT (by omega) (hnd (by omega)) (hnl (by omega)) hsn,←z1,hsgv,if_pos (by omega)]
 have h9:z.1+1=s.length+1:=h
 show df s (zr 10) 0 (-1) 1=some (z.2.1,c1)
 rw[←hr,show z.1=s.length by omega,qn,←z1]
 refine af ?_
 have ht0:=ft z76 c3o
 have hin:z.1<s.length:=by have: ¬(z.1:Int)=(s.length:Int):=fun e=>ht0 (.inl e);omega
 have hnone:df s (zr 10) 0 (-1) 1=none:=by
  rw[←hr,qo hin (fun h=>hnd0 ⟨by omega,h.1,h.2⟩) (fun h=>hnl0 ⟨by omega,h.1,h.2⟩)]
  exact fun h=>ht0 (.inr h)
 refine js Z (jo Z (aI ?_))
 refine js Z (jr ?_)
 rw[oG hnone]
 refine⟨.inl Z,_,ar 2 900 1 true 1 Z Z Z,_,Z,[900],by decide,Z,Z,Z⟩
 refine aR (af ?_)
 have hz1:z.1=s.length+1:=by have:=ck z15;omega
 have hr:=hi.2.2.2.2.2.2.2 hz1
 refine aV (Ent.freeze 11 (e':=[(0,_),(2,_),(4,_),(5,_)]) Z (.cons Z (.keep Z) (.cons Z (.keep Z) (.cons Z (.c (.row Z (by rw[bl,hi.2.1]))) (fe [5] Z)))) (pW Z (.skip .nil))) ?_
 refine ac Z (ch O (B0:=112000) Z Z Z Z (tG (c:=z.2.2.1) (xs:=z.2.1) h1 h2) (al Z) Z Z Z Z Z Z (aI ?_))
 refine aZ Z (jf [113,112,0,2,4,5] Z (jl Z (aI ?_)))
 refine jo Z (aI ?_)
 refine js Z (jf [10,9,0,2,4,5] Z (jn (ag (af (aZ Z (jf [116,9,0,2,4,5] Z (ay 3 Z Z Z (fun hx=>bD O hx Z Z Z Z (rc (t:=(i7 z.2.2.1 z.2.1).1) h1 h2 (oQ (by simpa using hx))) (.cons (.c (.pb (cs:=(i7 z.2.2.1 z.2.1).1.cells) Z (.cons .d (.cons (.whole Z (bl _).symm) .nil)))) .nil) Z Z Z Z Z Z Z (B0:=118000) Z (au hx Z (bE hx (cH (p:=tS (i7 z.2.2.1 z.2.1).1) (q:=s) O Z Z Z Z Z Z) Z (AN.nil)))) Z Z ?_)))))))
 first|refine ab (aq O Z Z Z Z Z) Z ?_|refine ab (Val.pickB O Z Z Z Z Z) Z ?_|refine ab (aj O Z Z Z Z Z) Z ?_
 refine jf [120,9,0,2,4,5] Z (jn (ak Z (fun z120=>?_) (fun z120=>?_)))
 refine af (js Z (jo Z (aI ?_)))
 refine js Z (jr ?_)
 have hno:nR s=none:=by rw[oF hr,if_neg];intro hh;revert z120;simp[hh.1,hh.2]
 rw[hno]
 refine⟨.inl Z,_,ar 2 900 1 true 1 Z Z Z,_,Z,[900],by decide,Z,Z,Z⟩
 refine ae (af (js Z (jo Z (aI ?_))))
 refine js Z (jr ?_)
 have hyes:nR s=some (i7 z.2.2.1 z.2.1).1:=by rw[oF hr,if_pos];revert z120;cases h7:(i7 z.2.2.1 z.2.1).2<;>simp
 rw[hyes]
 refine⟨.inl Z,_,el,_,Z,[112000],by decide,Z,Z,Z⟩
theorem sj{s:Str}(hs:s.length≤1100000):MQ h1 h2 12 [aS8 s] [] (Rows (sC (dd (e8 s))) [dX (dd (e8 s)).1.xs]):=by
 refine dh (jB 120 h1 h2 Tryz.func12 Z fun O hF=>?_)
 refine af (jl Z (aI ?_))
 refine js Z (bq (bU (m6 O Z Z Z Z Z Z Z Z Z (by first|omega|(simp at *;omega)) (by first|omega|(simp at *;omega)) (by first|omega|(simp at *;omega)) (by first|omega|(dsimp only;omega)|(simp only[aK]at *;omega)) (by first|omega|(simp at *;omega)) Z Z Z) Z (aI ?_)))
 refine js Z (jf [10,3,2,0] Z (jl Z (aI ?_)))
 refine jo Z (aI ?_)
 refine jn (ag (af (js Z (jn (ap (av (X:=Nat×List Int×Int) (fun z=>⟨[(0,aS8 s),(2,.c (.pt 2 0 0)),(4,.c (.pt 4 0 0)),(5,eI (z.1:Nat))],[(2,.box [.d (.int .i64 0),.d .nils]),(4,.box [.d (.int .i64 z.2.2),.rs 9 0 10]),(9,dX z.2.1)]⟩) (fun z=>z.1≤s.length∧z.2.1.length=10∧(∀y∈z.2.1,-(100000000*(z.1:Int))≤y∧y≤100000000*(z.1:Int))∧(-(100000000*(z.1:Int))≤z.2.2∧z.2.2≤100000000*(z.1:Int))∧i6 (s.drop z.1) z.2.1 z.2.2=i6 s (zr 10) 0) (fun z=>s.length-z.1) (0,zr 10,0) (Ent.to ⟨Z,Z,Z,Z,ao⟩ Z) ?_ (fun z hi=>?_)))))))
 exact⟨cN _,Z,fun y hy=>by rw[show y=0 from List.eq_of_mem_replicate hy];simp,by simp,Z⟩
 refine ag (af (ac Z (ab (bd (p:=s) O Z Z Z Z Z Z Z Z Z) Z (js Z (jf [14,0,2,4,5] Z (jn (ak Z (fun z14=>?_) (fun z14=>?_))))))))
 refine ae (ap (af (js Z (jn (ag (af (ac Z ?_)))))))
 have hz0:z.1<s.length:=by have:=bJ z14;omega
 have hiz:=hi
 obtain⟨sg,i1,hsg,hi1,hsg1,hsv⟩:=qs hz0
 refine ab (aO (p:=s) (b:=s.getD z.1 0) O Z Z Z Z Z Z Z (by omega) (bW hz0)) Z (jf [17,6,14,0,2,4,5] Z (jn (bu ⟨[(0,aS8 s),(2,.c (.pt 2 0 0)),(4,.c (.pt 4 0 0)),(5,eI (i1:Nat)),(6,eI sg)],[(2,.box [.d (.int .i64 0),.d .nils]),(4,.box [.d (.int .i64 z.2.2),.rs 9 0 10]),(9,dX z.2.1)]⟩ ?_ ?_)))
 refine ap (af (ac Z (jn (ak Z (fun z18=>?_) (fun z18=>?_)))))
 refine af (js Z (jn (aa (js Z ?_))))
 first|refine ji Z ?_|refine be Z Z ?_
 refine js Z (jf [5,6,18,19,17,14,0,2,4] Z (jn ?_))
 exact⟨Z,Ent.to ⟨Z,Z,Z,congrArg (fun z=>some (eI z)) (show(z.1:Int)+1=(i1:Int) by rw[if_pos (bJ z18)]at hsv;omega),congrArg (fun z=>some (eI z)) (show(-1:Int)=sg by rw[if_pos (bJ z18)]at hsv;omega),ao⟩ Z⟩
 refine af (ac Z (jn (ak Z (fun z22=>?_) (fun z22=>?_))))
 refine aa (js Z ?_)
 first|refine ji Z ?_|refine be Z Z ?_
 refine js Z (jf [5,22,23,18,19,17,6,14,0,2,4] Z (jn ?_))
 exact⟨Z,Ent.to ⟨Z,Z,Z,congrArg (fun z=>some (eI z)) (show(z.1:Int)+1=(i1:Int) by rw[if_neg (ck z18),if_pos (bJ z22)]at hsv;omega),congrArg (fun z=>some (eI z)) (show(1:Int)=sg by rw[if_neg (ck z18),if_pos (bJ z22)]at hsv;omega),ao⟩ Z⟩
 refine ae ?_
 exact⟨Z,Ent.to ⟨Z,Z,Z,congrArg (fun z=>some (eI z)) (show(z.1:Int)=(i1:Int) by rw[if_neg (ck z18),if_neg (ck z22)]at hsv;omega),congrArg (fun z=>some (eI z)) (show(1:Int)=sg by rw[if_neg (ck z18),if_neg (ck z22)]at hsv;omega),ao⟩ Z⟩
 refine af (aZ Z (jn (ag (ap (av (X:=Nat×Int) (fun y=>⟨[(0,aS8 s),(2,.c (.pt 2 0 0)),(4,.c (.pt 4 0 0)),(5,eI (y.1:Nat)),(6,eI sg),(7,eI (i1:Nat)),(8,eI y.2)],[(2,.box [.d (.int .i64 0),.d .nils]),(4,.box [.d (.int .i64 z.2.2),.rs 9 0 10]),(9,dX z.2.1)]⟩) (fun y=>i1≤y.1∧y.1≤s.length∧y.1≤i1+8∧0≤y.2∧y.2<10^(y.1-i1)∧bP (8-(y.1-i1)) y.2 (s.drop y.1)=bP 8 0 (s.drop i1)) (fun y=>s.length-y.1) (i1,0) (Ent.to ⟨Z,Z,Z,Z,Z,Z,Z,ao⟩ Z) ?_ (fun y hi=>?_))))))
 exact⟨bH _,hi1.2.2,by show i1≤i1+8;omega,Int.le_refl _,by show(0:Int)<10^(i1-i1);rw[Nat.sub_self];decide,by show bP (8-(i1-i1)) 0 _=_;rw[Nat.sub_self]⟩
 refine ag (af (ac Z (ab (bd (p:=s) O Z Z Z Z Z Z Z Z Z) Z (ac Z (jf [31,0,2,4,5,6,7,8] Z (ay 4 Z Z Z (fun hx=>au hx Z (au hx Z (bE hx (aO (p:=s) (b:=s.getD y.1 0) O Z Z Z Z Z Z Z (by omega) (bW (by have:=su hx;omega))) Z (au hx Z (AN.nil))))) Z Z ?_))))))
 first|refine ab (aj O Z Z Z Z Z) Z ?_|refine ab (aq O Z Z Z Z Z) Z ?_|refine ab (Val.pickB O Z Z Z Z Z) Z ?_
 refine js Z (jf [37,0,2,4,5,6,7,8] Z (ay 4 Z Z Z (fun hx=>au hx Z (au hx Z (bE hx (aO (p:=s) (b:=s.getD y.1 0) O Z Z Z Z Z Z Z (by omega) (bW (by have:=uc hx;omega))) Z (au hx Z (AN.nil))))) Z Z ?_))
 first|refine ab (aj O Z Z Z Z Z) Z ?_|refine ab (aq O Z Z Z Z Z) Z ?_|refine ab (Val.pickB O Z Z Z Z Z) Z ?_
 refine js Z (jf [43,0,2,4,5,6,7,8] Z (ay 4 Z Z Z (fun hx=>au hx Z (au hx Z (bE hx (vF Z) Z (au hx Z (AN.nil))))) Z Z ?_))
 first|refine ab (aj O Z Z Z Z Z) Z ?_|refine ab (aq O Z Z Z Z Z) Z ?_|refine ab (Val.pickB O Z Z Z Z Z) Z ?_
 refine jf [48,0,2,4,5,6,7,8] Z (jn (ak Z (fun z48=>?_) (fun z48=>?_)))
 refine ae (ag (ap (aa ?_)))
 have z4:=c4t.1 z48
 have hc4n:y.1<s.length:=by have:=z4.1;omega
 have hp8:=qX (k:=y.1-i1) (by omega)
 have hby:0≤((s.getD y.1 0).toNat:Int)∧((s.getD y.1 0).toNat:Int)≤255:=mA s y.1
 refine js Z ?_
 first|refine ji Z ?_|refine be Z Z ?_
 refine ac Z (ab (aO (p:=s) (b:=s.getD y.1 0) O Z Z Z Z Z Z Z (by omega) (bW hc4n)) Z (ab (dv (k:=.u8) (n:=((s.getD y.1 0).toNat:Int)-48) O Z Z (by show(0:Int)≤_;omega) (by show _≤(255:Int);omega)) Z (ab ((Val.conv (b:=true) (dt:=.int .u8) O Z Z Z (by kernel_rfl) (by kernel_rfl)).cast (v':=eI (((s.getD y.1 0).toNat:Int)-48)) (by rw[dE .i64 _ (by show(-9223372036854775808:Int)≤_;omega) (by show _≤(9223372036854775807:Int);omega)])) Z ?_)))
 first|refine ji Z ?_|refine be Z Z ?_
 refine js Z (jf [8,48,0,2,4,5,6,7] Z (jn (aa (js Z ?_))))
 first|refine ji Z ?_|refine be Z Z ?_
 refine js Z (jf [5,8,48,0,2,4,6,7] Z (jn ?_))
 refine⟨(y.1+1,10*y.2+(((s.getD y.1 0).toNat:Int)-48)),Ent.to ⟨Z,Z,Z,Z,Z,Z,Z,ao⟩ Z,⟨by show i1≤y.1+1;omega,by show y.1+1≤_;omega,by show y.1+1≤i1+8;omega,by show 0≤10*y.2+(((s.getD y.1 0).toNat:Int)-48);omega,?_,?_⟩,by show s.length-(y.1+1)<s.length-y.1;omega⟩
 show 10*y.2+(((s.getD y.1 0).toNat:Int)-48)<10^(y.1+1-i1)
 rw[show y.1+1-i1=(y.1-i1)+1 by omega]
 exact pp hi.2.2.2.2.1 (by omega)
 show bP (8-(y.1+1-i1)) (10*y.2+(((s.getD y.1 0).toNat:Int)-48)) (s.drop (y.1+1))=_
 rw[←hi.2.2.2.2.2,show 8-(y.1-i1)=(8-(y.1+1-i1))+1 by omega,pj hc4n z4.2.1 z4.2.2.1]
 refine aR (ap (af ?_))
 have hend:=lU (s:=s) (i:=y.1) (i1:=i1) (n:=y.2) (fun hh=>ft z48 c4t ⟨by omega,hh.2.1,hh.2.2.1,by omega⟩) hi.1 hi.2.2.1 hi.2.1
 rw[hi.2.2.2.2.2]at hend
 have hst0:=rJ hsg hend hi.1 hi.2.1
 have hp8:=qX (k:=y.1-i1) (by omega)
 have hby:0≤((s.getD y.1 0).toNat:Int)∧((s.getD y.1 0).toNat:Int)≤255:=mA s y.1
 refine ac Z ?_
 have hiy:=hi
 refine ab (bd (p:=s) O Z Z Z Z Z Z Z Z Z) Z (ac Z (jf [71,48,0,2,4,5,6,7,8] Z (ay 4 Z Z Z (fun hx=>au hx Z (au hx Z (bE hx (aO (p:=s) (b:=s.getD y.1 0) O Z Z Z Z Z Z Z (by omega) (bW (by have:=su hx;omega))) Z (au hx Z (AN.nil))))) Z Z ?_)))
 first|refine ab (aj O Z Z Z Z Z) Z ?_|refine ab (aq O Z Z Z Z Z) Z ?_|refine ab (Val.pickB O Z Z Z Z Z) Z ?_
 refine js Z (jf [77,48,0,2,4,5,6,7,8] Z (ay 4 Z Z Z (fun hx=>au hx Z (au hx Z (bE hx (aO (p:=s) (b:=s.getD y.1 0) O Z Z Z Z Z Z Z (by omega) (bW (by have:=uc hx;omega))) Z (au hx Z (AN.nil))))) Z Z ?_))
 first|refine ab (aj O Z Z Z Z Z) Z ?_|refine ab (aq O Z Z Z Z Z) Z ?_|refine ab (Val.pickB O Z Z Z Z Z) Z ?_
 refine js Z (jf [66,48,0,2,4,5,6,7,8] Z (jn (ak Z (fun z66=>?_) (fun z66=>?_))))
 refine ag (af ?_)
 have z3:=ut.1 z66
 have hc3n:y.1<s.length:=by have:=z3.1;omega
 refine aZ Z (jf [85,66,48,0,2,4,5,6,7,8] Z (jn ?_))
 obtain⟨n1,hn1⟩: ∃n1,n1=if y.1=i1 then 1 else y.2:=⟨_,rfl⟩
 have hnb:0≤n1∧n1≤100000000:=by rw[hn1];split<;>omega
 have hm1: -100000000≤sg*n1:=by rcases hsg1 with e|e<;>rw[e]<;>omega
 have hm2:sg*n1≤100000000:=by rcases hsg1 with e|e<;>rw[e]<;>omega
 obtain⟨j,hj⟩: ∃j:Nat,((s.getD y.1 0).toNat:Int)-97=(j:Int):=⟨(((s.getD y.1 0).toNat:Int)-97).toNat,by omega⟩
 have hj10:j<10:=by omega
 have hgj:=sd (i:=j) (B:=100000000*(z.1:Int)) (by omega) hiz.2.2.1
 have hst:mn (s.drop z.1)=some (s.drop (y.1+1),some j,sg*n1):=by rw[hst0,if_pos ⟨hc3n,z3.2.1,z3.2.2⟩,←hn1,show(s.getD y.1 0).toNat-97=j by omega]
 refine bu ⟨[(0,aS8 s),(2,.c (.pt 2 0 0)),(4,.c (.pt 4 0 0)),(5,eI (y.1:Nat)),(6,eI sg),(8,eI n1)],[(2,.box [.d (.int .i64 0),.d .nils]),(4,.box [.d (.int .i64 z.2.2),.rs 9 0 10]),(9,dX z.2.1)]⟩ ?_ ?_
 refine ak Z (fun z85=>?_) (fun z85=>?_)
 refine aa (js Z (jn ?_))
 exact⟨Z,Ent.to ⟨Z,Z,Z,Z,Z,congrArg (fun z=>some (eI z)) (show(1:Int)=n1 by rw[hn1,if_pos (by have:=bJ z85;omega)]),ao⟩ Z⟩
 refine ae ?_
 exact⟨Z,Ent.to ⟨Z,Z,Z,Z,Z,congrArg (fun z=>some (eI z)) (show y.2=n1 by rw[hn1,if_neg (by have:=ck z85;omega)]),ao⟩ Z⟩
 refine ag ?_
 have hi:=hiz
 refine mq [_,_,_,_,_,_,_,_,_,_,_,_,_,_] [bv,aU [0],bv,bv,aU [2,3],aU [2,3,4],aU (rg 0 6),aU (rg 0 7),bv,bv,aU [8,9],aU (rg 0 11),aU (rg 0 12),pe (rg 0 13) 0] [13] [_,_] (sJ Z (ai (aO (p:=s) (b:=s.getD y.1 0) O Z Z Z Z Z Z Z (by omega) (bW hc3n)) (ai ((dv (k:=.u8) (n:=((s.getD y.1 0).toNat:Int)-97) O Z Z (by show(0:Int)≤_;omega) (by show _≤(255:Int);omega)).cast (v':=.c (.d (.int .u8 (j:Int)))) (by rw[hj])) (ai (br (c:=0≤(j:Int)∧(j:Int)<((10:Nat):Int)) (v:=.c (.pt 9 (0+(j:Int).toNat) 0)) O Z Z (by omega)) (ai (bo O (ex:=[.int .i64 (z.2.1.getD j 0)]) Z Z Z Z (by simp[hi.2.1,hj10]) Z) (kc Z (kc Z (ai (aB O Z Z (by omega) (by omega)) (ai (aB O Z Z (by omega) (by omega)) (ai (br (c:=0≤(j:Int)∧(j:Int)<((10:Nat):Int)) (v:=.c (.pt 9 (0+(j:Int).toNat) 0)) O Z Z (by omega)) (ai (ky (ex:=[.int .i64 (z.2.1.getD j 0)]) (xs':=(de z.2.1 j (sg*n1)).map (fun n=>[D.int .i64 n])) O Z Z Z Z Z Z Z Z Z Z Z Z Z Z Z (by simp[hi.2.1,hj10]) (by unfold de;rw[List.map_set];simp only[Int.toNat_natCast,Nat.zero_add];rfl) Z) trivial))))))))))) ?_
 refine aa (js Z ?_)
 first|refine ji Z ?_|refine be Z Z ?_
 refine js Z (jf [5,98,97,96,95,94,93,92,91,90,89,88,87,86,0,2,4,6,8] Z (jn ?_))
 refine⟨(y.1+1,de z.2.1 j (sg*n1),z.2.2),Ent.to ⟨Z,Z,Z,Z,ao⟩ Z,⟨by show y.1+1≤_;omega,by show(de _ _ _).length=10;rw[nA];exact hiz.2.1,?_,?_,?_⟩,by show s.length-(y.1+1)<s.length-z.1;omega⟩
 exact fun q hq=>by have:=pL (B:=100000000*(z.1:Int)) (M:=100000000) (by omega) hiz.2.2.1 hm1 hm2 q hq;show -(100000000*((y.1+1:Nat):Int))≤q∧q≤100000000*((y.1+1:Nat):Int);omega
 show -(100000000*((y.1+1:Nat):Int))≤z.2.2∧z.2.2≤100000000*((y.1+1:Nat):Int);have:=hiz.2.2.2.1;omega
 show i6 (s.drop (y.1+1)) (de z.2.1 j (sg*n1)) z.2.2=_
 rw[←mO hst,hiz.2.2.2.2]
 refine af ?_
 have z3:=ft z66 ut
 rw[if_neg (fun hh=>z3 ⟨by omega,hh.2.1,hh.2.2⟩)]at hst0
 refine bn Z (jf [101,66,48,0,2,4,5,6,7,8] Z (jn (ak Z (fun z101=>?_) (fun z101=>?_))))
 refine af (js Z (jo Z (aI ?_)))
 refine js Z (jr ?_)
 rw[rV (by rw[←hiz.2.2.2.2,pk (by rw[cG hz0];simp) (by rw[hst0,if_pos (by have:=bJ z101;omega)])])]
 refine⟨.inl Z,_,ar 2 900 1 true 1 Z Z Z,_,Z,[900],by decide,Z,Z,Z⟩
 refine aa ?_
 have hne: ¬y.1=i1:=by have:=ck z101;omega
 have hst:=hst0
 rw[if_neg hne]at hst
 have hm1: -100000000≤sg*y.2:=by rcases hsg1 with e|e<;>rw[e]<;>omega
 have hm2:sg*y.2≤100000000:=by rcases hsg1 with e|e<;>rw[e]<;>omega
 have hi:=hiz
 refine bn Z ?_
 first|refine ji Z ?_|refine be Z Z ?_
 first|refine ji Z ?_|refine be Z Z ?_
 refine js Z (jf [65,64,101,66,48,0,2,4,5,6,7,8] Z (jo Z (aI ?_)))
 refine jf [101,66,48,0,2,4,5,6,7,8] Z (jn ?_)
 refine⟨(y.1,z.2.1,z.2.2+sg*y.2),Ent.to ⟨Z,Z,Z,Z,ao⟩ Z,⟨by show y.1≤_;omega,hiz.2.1,?_,?_,?_⟩,by show s.length-y.1<s.length-z.1;omega⟩
 exact fun q hq=>by have:=hiz.2.2.1 q hq;show -(100000000*(y.1:Int))≤q∧q≤100000000*(y.1:Int);omega
 show -(100000000*(y.1:Int))≤z.2.2+sg*y.2∧z.2.2+sg*y.2≤100000000*(y.1:Int);have:=hiz.2.2.2.1;omega
 show i6 (s.drop y.1) z.2.1 (z.2.2+sg*y.2)=_
 rw[←kd hst,hiz.2.2.2.2]
 refine aR (af ?_)
 have hz1:z.1=s.length:=by have:=ck z14;omega
 have hr:=hi.2.2.2.2
 rw[hz1,List.drop_length,eJ]at hr
 refine aV (Ent.freeze 9 (e':=[(0,_),(2,_),(4,_)]) Z (fe [0,2,4] Z) (pW Z (.cons Z (.box (uy Z (.cons (.row Z (by rw[bl,hi.2.1])) .nil))) (.skip .nil)))) ?_
 refine js Z (aY O Z Z Z Z (uV (t:=(⟨z.2.2,z.2.1⟩:Tm)) h1 h2) (al Z) Z Z Z Z (B0:=108000) Z Z (jf [107,0,2,4] Z (jo Z (aI ?_))))
 refine jn (ag (af (js Z (aW Z (sY (t:=(⟨z.2.2,bL z.2.1⟩:Tm)) h1 h2) 110000 Z (ac Z (jf [111,107,0,2,4] Z (ay 4 Z Z Z (fun hx=>au hx Z (bD O hx Z Z Z Z (ri (t:=(⟨z.2.2,bL z.2.1⟩:Tm)) h1 h2 (by simpa using hx)) (al Z) Z Z Z Z Z Z Z (B0:=114000) Z (au hx Z (bE hx (cH (p:=tS (⟨z.2.2,bL z.2.1⟩:Tm)) (q:=s) O Z Z Z Z Z Z) Z (AN.nil))))) Z Z ?_)))))))
 first|refine ab (aq O Z Z Z Z Z) Z ?_|refine ab (Val.pickB O Z Z Z Z Z) Z ?_|refine ab (aj O Z Z Z Z Z) Z ?_
 refine jf [116,107,0,2,4] Z (jn (ak Z (fun z116=>?_) (fun z116=>?_)))
 refine af (js Z (jo Z (aI ?_)))
 refine js Z (jr ?_)
 have hno:e8 s=none:=by rw[oL hr.symm,if_neg];intro hh;revert z116;simp[hh.1,hh.2]
 rw[hno]
 refine⟨.inl Z,_,ar 2 900 1 true 1 Z Z Z,_,Z,[900],by decide,Z,Z,Z⟩
 refine ae (af (js Z (ch O (B0:=120000) Z Z Z Z (tI (t:=(⟨z.2.2,bL z.2.1⟩:Tm)) h1 h2) (al Z) Z Z Z Z Z Z (aI ?_))))
 refine jf [119,116,107,0,2,4] Z (jo Z (aI ?_))
 refine js Z (jr ?_)
 have hyes:e8 s=some (⟨z.2.2,bL z.2.1⟩:Tm):=by rw[oL hr.symm,if_pos];revert z116;cases h7:Tm.ok (⟨z.2.2,bL z.2.1⟩:Tm)<;>simp
 rw[hyes]
 refine⟨.inl Z,_,el,_,Z,[120000],by decide,Z,Z,Z⟩
def jP:Option In→In×Bool
  | none=>(⟨0,0⟩,false)
  | some x=>(x,true)
abbrev vB(r:Option In):A:=.tup [.agg ((jP r).1.cells.map .d),eB (jP r).2]
theorem tz(w:Str):fc (fun v=>decide (v=w)) rq=dm w:=by
 unfold fc dm
 cases h:rq.findIdx? (fun v=>decide (v=w))with
 | none=>
  rw[if_neg]
  rw[List.findIdx?_eq_none_iff]at h
  rw[List.any_eq_true]
  rintro⟨v,h1,h2⟩
  rw[h v h1]at h2;cases h2
 | some i=>
  have h2:=List.findIdx?_eq_some_iff_findIdx_eq.1 h
  rw[if_pos,h2.2]
  have h3:rq.findIdx (fun v=>decide (v=w))<rq.length:=by omega
  exact List.any_eq_true.2 (List.findIdx_lt_length.1 h3)
theorem sa(w:Str): -1≤dm w∧dm w≤11:=by
 unfold dm
 split
 rename_i i h
 obtain⟨h2,_⟩:=List.findIdx?_eq_some_iff_getElem.1 h
 have:rq.length=12:=rfl
 omega
 omega
theorem qD{w:Str}(h:0≤dm w):gu (dm w)=w:=by
 unfold dm at h ⊢
 split
 rename_i i h3
 obtain⟨h2,h4,_⟩:=List.findIdx?_eq_some_iff_getElem.1 h3
 have h5:=bJ h4
 unfold gu
 rw[Int.toNat_natCast,List.getD_eq_getElem?_getD,List.getElem?_eq_getElem h2]
 exact h5
 rename_i h3
 rw[h3]at h;simp at h
def pS(w:Str)(n:Nat):Int:=if 0≤dm w∧dm w<(n:Int)then dm w else -1
theorem tA{w:Str}{n:Nat}(hn:n<12)(h:gu (n:Int)=w):pS w (n+1)=n:=by
 have h2:dm w=n:=by rw[←h];exact iu (by omega) (by omega)
 unfold pS
 rw[h2,if_pos (by omega)]
theorem tB{w:Str}{n:Nat}(h: ¬gu (n:Int)=w):pS w (n+1)=pS w n:=by
 have h2: ¬dm w=n:=fun e=>h (by rw[←e];exact qD (by omega))
 unfold pS
 by_cases h3:0≤dm w∧dm w<(n:Int)
 rw[if_pos h3,if_pos (by omega)]
 rw[if_neg h3,if_neg (by omega)]
theorem tD{w:Str}:pS w 0= -1:=if_neg (by omega)
theorem sb{w:Str}:pS w 12=dm w:=by
 have:=sa w
 unfold pS
 split<;>omega
theorem lF{s:Str}(h:(bO 32 s).length=2):jQ s=if(fL (lv ((bO 32 s).getD 1 default))).2=true∧aC ⟨dm ((bO 32 s).getD 0 default),(fL (lv ((bO 32 s).getD 1 default))).1⟩=true∧er ⟨dm ((bO 32 s).getD 0 default),(fL (lv ((bO 32 s).getD 1 default))).1⟩=s then some ⟨dm ((bO 32 s).getD 0 default),(fL (lv ((bO 32 s).getD 1 default))).1⟩else none:=by
 rw[←tn]
 unfold jQ sB rk
 simp only[h,if_true];rfl
theorem oN{s:Str}(h: ¬(bO 32 s).length=2):jQ s=if aC ⟨dm ((bO 32 s).getD 0 default),0⟩=true∧er ⟨dm ((bO 32 s).getD 0 default),0⟩=s then some ⟨dm ((bO 32 s).getD 0 default),0⟩else none:=by
 unfold jQ sB rk
 simp only[h,if_false,true_and];rfl
theorem oh{b:Bool}{p:Prop}[Decidable p](h:(bif !b then true else !decide p)=true): ¬(b=true∧p):=by
 cases b<;>simp_all
theorem lE{b:Bool}{p:Prop}[Decidable p](h:(bif !b then true else !decide p)=false):b=true∧p:=by
 cases b<;>simp_all
theorem qW{s:Str}:jO s=if aC ⟨dm (Lib.cut s [32]).1,if ge (dm (Lib.cut s [32]).1)=true then(fL (jb (Lib.cut s [32]).2.1)).1 else 0⟩=true∧er ⟨dm (Lib.cut s [32]).1,if ge (dm (Lib.cut s [32]).1)=true then(fL (jb (Lib.cut s [32]).2.1)).1 else 0⟩=s then some ⟨dm (Lib.cut s [32]).1,if ge (dm (Lib.cut s [32]).1)=true then(fL (jb (Lib.cut s [32]).2.1)).1 else 0⟩else none:=rfl
theorem tJ{ws:List Str}{w:Str}:MQ h1 h2 36 [.c (.d (strs ws)),aS8 w] [] (Plain (eI (fc (fun v=>decide (v=w)) ws))):=by
 refine am ?_ Z
 refine jB 19 h1 h2 Tryz.func36 Z fun O hF=>?_
 have hl:ws.length≤L:=by have h:=hF;simp only[As.fact,A.fact,M.fact,D.fact,bl]at h;exact h.1.1
 refine af (js Z (jn (ag (af (js Z ?_)))))
 first|refine db Z ?_|refine js Z ?_|refine be Z Z ?_
 refine js Z (jn (ap (av (X:=Nat) (fun i=>⟨[(0,.c (.d (strs ws))),(1,aS8 w),(6,.c (.d (strs ws))),(7,eI ws.length),(8,eI i)],[]⟩) (fun i=>i≤ws.length∧∀j (h:j<ws.length),j<i→(fun v=>decide (v=w)) ws[j]=false) (fun i=>ws.length-i) 0 (Ent.to ⟨Z,Z,Z,Z,Z,ao⟩ Z) ?_ (fun i hi=>?_))))
 exact⟨cN _,fun j h hj=>absurd hj (Nat.not_lt_zero j)⟩
 refine af (js Z (jn (ag (ak Z (fun z9=>?_) (fun z9=>?_)))))
 refine ae (ag (ap (af ?_)))
 have hil:i<ws.length:=by have:=bJ z9;omega
 refine ac Z (bq (aZ Z (ab (aH O Z Z Z Z Z Z Z Z (dg hil)) Z (js Z (ab (Val.seq (p:=w) (q:=ws.getD i default) O Z Z Z Z Z Z) Z (jf [16,5,10,9,0,1,6,7,8] Z (jn (ak Z (fun z16=>?_) (fun z16=>?_)))))))))
 refine af (ac Z (jr ?_))
 refine aw Z ?_
 rw[getD_lt hil]at z16
 rw[gi hil hi.2 (decide_eq_true (bJ z16).symm)]
 refine ae (aa ?_)
 first|refine ji Z ?_|refine be Z Z ?_
 refine js Z (jn ?_)
 refine⟨i+1,Ent.to ⟨Z,Z,Z,Z,Z,ao⟩ Z,⟨by omega,fun j h hj=>?_⟩,by omega⟩
 by_cases e:j=i
 subst e;rw[getD_lt h]at z16;exact decide_eq_false fun e=>ck z16 e.symm
 exact hi.2 j h (by omega)
 refine aR (af (js Z (jr ?_)))
 refine aw Z ?_
 have h9:=ck z9
 rw[gh (fun j hj=>hi.2 j hj (by omega))]
theorem tM{s:Str}(hL:1048576<L)(hs:s.length≤1048576):MQ h1 h2 14 [aS8 s] [] (Plain (vB (jO s))):=by
 refine MC.data (jB 38 h1 h2 Tryz.func14 Z fun O hF=>?_)
 refine af (jl Z (aI ?_))
 refine js Z (bq (js Z (aY O Z Z Z Z (rh (s:=s) (sep:=[32]) h1 h2) (al Z) Z Z Z Z (B0:=11000) Z Z (js Z ?_))))
 obtain⟨F,hF0⟩: ∃F,F=(Lib.cut s [32]).1:=⟨_,rfl⟩
 obtain⟨G,hG0⟩: ∃G,G=(Lib.cut s [32]).2.1:=⟨_,rfl⟩
 have hcl:=ig s [32]
 rw[←hF0,←hG0]at hcl
 rw[←hF0,←hG0]
 refine bn Z (ac Z (jf [5,4,3,2,0] Z (bq (aY O Z Z Z Z (oi h1 h2) (al Z) Z Z Z Z (B0:=15000) Z Z (js Z (jf [15,14,5,3,2,0] Z (aW Z (tJ (ws:=rq) (w:=F) h1 h2) 17000 Z ?_)))))))
 rw[tz]
 refine js Z (jf [17,5,3,2,0] Z (jl Z (aI ?_)))
 refine jo Z (aI ?_)
 refine jn (ag (af (ac Z (jf [19,7,17,5,3,2,0] Z (aW Z (q9 (x:=dm F) h1 h2) 21000 Z (jn ?_))))))
 obtain⟨a,ha⟩: ∃a:Int,a=if ge (dm F)=true then(fL (jb G)).1 else 0:=⟨_,rfl⟩
 refine bu ⟨[(0,aS8 s),(2,.c (.pt 2 0 0)),(7,.c (.pt 7 0 0))],[(2,.box [.d (.int .i64 0),.d (.int .i64 0)]),(7,.box [.d (.int .i64 (dm F)),.d (.int .i64 a)])]⟩ ?_ ?_
 refine ak Z (fun z20=>?_) (fun z20=>?_)
 refine aa (js Z (jf [22,19,7,17,3,2,0] Z (aY O Z Z Z Z (tW (s:=G) h1 h2 (by omega)) (al Z) Z Z Z Z (B0:=24000) Z Z (bn Z (jf [26,24,19,7,17,3,2,0] Z (jo Z (aI ?_)))))))
 refine jf [19,7,17,3,2,0] Z (jn ?_)
 exact⟨Z,Ent.to ⟨Z,Z,Z,ao⟩ (by rw[ha,if_pos z20])⟩
 refine ae ?_
 exact⟨Z,Ent.to ⟨Z,Z,Z,ao⟩ (by rw[ha,if_neg (by rw[z20];decide)])⟩
 refine ag (af (js Z (aW Z (sZ (x:=(⟨dm F,a⟩:In)) h1 h2) 29000 Z (ac Z (jf [30,0,2,7] Z (ay 4 Z Z Z (fun hx=>au hx Z (bD O hx Z Z Z Z (rb (x:=(⟨dm F,a⟩:In)) h1 h2 (by simpa using hx)) (al Z) Z Z Z Z Z Z Z (B0:=33000) Z (au hx Z (bE hx (cH (p:=er (⟨dm F,a⟩:In)) (q:=s) O Z Z Z Z Z Z) Z (AN.nil))))) Z Z ?_))))))
 first|refine ab (aq O Z Z Z Z Z) Z ?_|refine ab (Val.pickB O Z Z Z Z Z) Z ?_|refine ab (aj O Z Z Z Z Z) Z ?_
 refine jf [35,0,2,7] Z (jn (ak Z (fun z35=>?_) (fun z35=>?_)))
 refine af (js Z (jf [36,0,2,7] Z (jo Z (aI ?_))))
 refine js Z (jr ?_)
 refine aw Z ?_
 have hno:jO s=none:=by rw[qW,←hF0,←hG0,←ha,if_neg];intro hh;revert z35;simp[hh.1,hh.2]
 rw[hno]
 exact .tup (.cons (.agg (aP Z)) (.cons (.c .d) .nil))
 refine ae (af (js Z (jf [37,0,2,7] Z (jo Z (aI ?_)))))
 refine js Z (jr ?_)
 refine aw Z ?_
 have hyes:jO s=some (⟨dm F,a⟩:In):=by rw[qW,←hF0,←hG0,←ha,if_pos];revert z35;cases h7:aC (⟨dm F,a⟩:In)<;>simp
 rw[hyes]
 exact .tup (.cons (.agg (aP Z)) (.cons (.c .d) .nil))
theorem tL{s:Str}(hL:1048576<L)(hs:s.length≤1048576):MQ h1 h2 27 [aS8 s] [] (Plain (vB (jQ s))):=by
 refine MC.data (jB 50 h1 h2 Tryz.func27 Z fun O hF=>?_)
 refine af (jl Z (aI ?_))
 refine js Z (bq (js Z (aY O Z Z Z Z (t0 (s:=s) (m:=32) h1 h2 (by omega) (by omega)) (al Z) Z Z Z Z (B0:=11000) Z Z (js Z (jf [4,3,2,0] Z (bq ?_))))))
 obtain⟨P0,q0,hQ,_⟩:=eu 32 s
 have hQ1:0<(bO 32 s).length:=by rw[hQ];simp
 refine js Z (jl Z (aI ?_))
 refine jo Z (aI ?_)
 refine jn (ag (af (js Z (jn (ap (av (X:=Nat) (fun i=>⟨[(0,aS8 s),(2,.c (.pt 2 0 0)),(4,.c (.d (strs (bO 32 s)))),(5,.c (.pt 5 0 0)),(6,eI i)],[(2,.box [.d (.int .i64 0),.d (.int .i64 0)]),(5,.box [.d (.int .i64 (pS ((bO 32 s).getD 0 default) i)),.d (.int .i64 0)])]⟩) (fun i=>i≤12) (fun i=>12-i) 0 (Ent.to ⟨Z,Z,Z,Z,Z,ao⟩ (by rw[tD])) ?_ (fun i hi=>?_)))))))
 exact cN _
 refine ag (af (ac Z (jn (ak Z (fun z13=>?_) (fun z13=>?_)))))
 refine ae (ag (ap (ag (mq [_,_,_,_,_,_] [bv,pe [0] 0,pn [] 0 1,pn [2] 0 1,pn [2,3] 0 1,pn (rg 0 5) 1 1] [1] [_,_] (kc Z (ai (aE O (B0:=18000) Z Z Z Z (ra (k:=i) h1 h2 (by have:=bJ z13;omega)) (al Z) Z Z Z Z Z) (ai (kc Z (V Z)) (ai (ai (aH O Z Z Z Z Z Z Z Z (dg (n:=0) hQ1)) (aH O Z Z Z Z Z Z Z Z (dg (n:=0) hQ1))) (ai (kc Z (V Z)) (ai (Val.seq (p:=gu (i:Int)) (q:=((bO 32 s).getD 0 default)) O Z Z Z Z Z Z) trivial)))))) ?_))))
 refine jw [21,13,12,0,2,4,5,6] Z (m9 ?_)
 refine ak Z (fun z21=>?_) (fun z21=>?_)
 refine aa (ac Z (jo Z (aI ?_)))
 refine jf [21,13,12,0,2,4,5,6] Z (jn (aa (js Z ?_)))
 first|refine ji Z ?_|refine be Z Z ?_
 refine js Z (jf [6,21,13,12,0,2,4,5] Z (jn ?_))
 have hi0:i<12:=by have:=bJ z13;omega
 refine⟨i+1,Ent.to ⟨Z,Z,Z,Z,Z,ao⟩ (by rw[tA hi0 (bJ z21)]),by omega,by omega⟩
 refine ae (aa (js Z ?_))
 first|refine ji Z ?_|refine be Z Z ?_
 refine js Z (jf [6,21,13,12,0,2,4,5] Z (jn ?_))
 have hi0:i<12:=by have:=bJ z13;omega
 refine⟨i+1,Ent.to ⟨Z,Z,Z,Z,Z,ao⟩ (by rw[tB (ck z21)]),by omega,by omega⟩
 refine aR (ag (af ?_))
 obtain rfl:i=12:=by have:=ck z13;omega
 rw[sb]
 refine js Z ?_
 first|refine db Z ?_|refine js Z ?_|refine be Z Z ?_
 refine js Z (jf [26,13,12,0,2,4,5,6] Z (jn (ak Z (fun z26=>?_) (fun z26=>?_))))
 refine af (js Z ?_)
 have h2l:(bO 32 s).length=2:=by have:=bJ z26;omega
 refine ab (aH O Z Z Z Z Z Z Z Z (dg (n:=1) (by omega))) Z (js Z (jf [30,26,13,12,0,2,4,5,6] Z (aY O Z Z Z Z (tY (s:=((bO 32 s).getD 1 default)) h1 h2) (al Z) Z Z Z Z (B0:=32000) Z Z (bn Z (js Z (jf [8,7,26,13,12,0,2,4,5,6] Z (jn (ag (af (ac Z (jf [35,7,26,13,12,0,2,4,5,6] Z (jn (ak Z (fun z35=>?_) (fun z35=>?_))))))))))))))
 refine af (js Z (jo Z (aI ?_)))
 refine js Z (jr ?_)
 refine aw Z ?_
 rw[lF h2l,if_neg (fun hh=>by rw[hh.1]at z35;cases z35)]
 exact .tup (.cons (.agg (aP Z)) (.cons (.c .d) .nil))
 refine ae (aa (ac Z (jf [38,37,35,26,13,12,0,2,4,5,6] Z (jo Z (aI ?_)))))
 refine jf [35,26,13,12,0,2,4,5,6] Z (jn (ag (af (js Z (aW Z (rA (x:=(⟨dm ((bO 32 s).getD 0 default),_⟩:In)) h1 h2) 41000 Z (ac Z (jf [42,35,26,13,12,0,2,4,5,6] Z (ay 4 Z Z Z (fun hx=>au hx Z (bD O hx Z Z Z Z (om (x:=(⟨dm ((bO 32 s).getD 0 default),_⟩:In)) h1 h2 (by simpa using hx)) (al Z) Z Z Z Z Z Z Z (B0:=45000) Z (au hx Z (bE hx (cH (p:=er (⟨dm ((bO 32 s).getD 0 default),_⟩:In)) (q:=s) O Z Z Z Z Z Z) Z (AN.nil))))) Z Z ?_))))))))
 first|refine ab (aq O Z Z Z Z Z) Z ?_|refine ab (Val.pickB O Z Z Z Z Z) Z ?_|refine ab (aj O Z Z Z Z Z) Z ?_
 refine jf [47,35,26,13,12,0,2,4,5,6] Z (jn (ak Z (fun z47=>?_) (fun z47=>?_)))
 refine af (js Z (jo Z (aI ?_)))
 refine js Z (jr ?_)
 refine aw Z ?_
 rw[lF h2l,if_neg (fun hh=>oh z47 hh.2)]
 exact .tup (.cons (.agg (aP Z)) (.cons (.c .d) .nil))
 refine ae (af (js Z (jo Z (aI ?_))))
 refine js Z (jr ?_)
 refine aw Z ?_
 rw[lF h2l,if_pos ⟨by simpa using z35,lE z47⟩]
 exact .tup (.cons (.agg (aP Z)) (.cons (.c .d) .nil))
 refine ae (ag (af (js Z (aW Z (rA (x:=(⟨dm ((bO 32 s).getD 0 default),_⟩:In)) h1 h2) 41000 Z (ac Z (jf [42,26,13,12,0,2,4,5,6] Z (ay 4 Z Z Z (fun hx=>au hx Z (bD O hx Z Z Z Z (om (x:=(⟨dm ((bO 32 s).getD 0 default),_⟩:In)) h1 h2 (by simpa using hx)) (al Z) Z Z Z Z Z Z Z (B0:=45000) Z (au hx Z (bE hx (cH (p:=er (⟨dm ((bO 32 s).getD 0 default),_⟩:In)) (q:=s) O Z Z Z Z Z Z) Z (AN.nil))))) Z Z ?_)))))))
 first|refine ab (aq O Z Z Z Z Z) Z ?_|refine ab (Val.pickB O Z Z Z Z Z) Z ?_|refine ab (aj O Z Z Z Z Z) Z ?_
 refine jf [47,26,13,12,0,2,4,5,6] Z (jn (ak Z (fun z47=>?_) (fun z47=>?_)))
 refine af (js Z (jo Z (aI ?_)))
 refine js Z (jr ?_)
 refine aw Z ?_
 have h2n: ¬(bO 32 s).length=2:=by have:=ck z26;omega
 rw[oN h2n,if_neg (fun hh=>oh z47 hh)]
 exact .tup (.cons (.agg (aP Z)) (.cons (.c .d) .nil))
 refine ae (af (js Z (jo Z (aI ?_))))
 refine js Z (jr ?_)
 refine aw Z ?_
 have h2n: ¬(bO 32 s).length=2:=by have:=ck z26;omega
 rw[oN h2n,if_pos (lE z47)]
 exact .tup (.cons (.agg (aP Z)) (.cons (.c .d) .nil))
end Go.Al
/- Annotated code as text: the steps of reading, in plain Lean. -/
namespace Go.Al
variable{L:Nat}(h1:4096≤L)(h2:L≤1073741824)
open Go.Lib
theorem tu(s:Str):nR s=e8 s:=by
 cases h:nR s with
 | some x=>exact((mN s x).2 ((mJ s x).1 h)).symm
 | none=>
  cases h2:e8 s with
  | none=>rfl
  | some x=>rw[(mJ s x).2 ((mN s x).1 h2)]at h;cases h
def ud(fs:List Tm):D:=if fs=[]then .nils else .slc 2 (fs.map Tm.cells)
def ii(p:Pt):List D:=[.int .i64 p.k,ud p.fs]
abbrev mu(ps:List Pt):B:=.row true 2 (ps.map ii)
theorem ke: ∀(ps:List Pt),NLess (ps.map ii) (ps.map Pt.cells)
 | []=>.nil
 | p::r=>.cons (ux (.cons (by
  unfold ud
  by_cases h:p.fs=[]
  · rw[if_pos h,h];exact .nil
  · rw[if_neg h];exact .refl) .nil)) (ke r)
theorem lG{p:Pt}(h:p.fs≠[]):ii p=[.int .i64 p.k,.slc 2 (p.fs.map Tm.cells)]:=by
 unfold ii ud;rw[if_neg h]
theorem g9{p:Pt}(h:p.fs=[]):ii p=[.int .i64 p.k,.nils]:=by
 unfold ii ud;rw[if_pos h]
theorem pu{k:Int}{fs:List Tm}{r:Tm}:ii ⟨k,fs++[r]⟩=[.int .i64 k,.slc 2 ((fs++[r]).map Tm.cells)]:=lG (by simp)
def gc(ps:List Pt)(k:Nat)(r:Tm):List Pt:=ps.set k ⟨(ps.getD k default).k,(ps.getD k default).fs++[r]⟩
theorem fX{ps:List Pt}{k:Nat}{r:Tm}:(gc ps k r).length=ps.length:=by unfold gc;rw[List.length_set]
theorem kN{ps:List Pt}{k:Nat}{r:Tm}{x:D}:((ps.map ii).set k [.int .i64 (ps.getD k default).k,x]).set k ([.int .i64 (ps.getD k default).k,x].take 1++(.slc 2 (((ps.getD k default).fs++[r]).map Tm.cells)::[.int .i64 (ps.getD k default).k,x].drop 2))=(gc ps k r).map ii:=by
 rw[List.set_set,gc,List.map_set,pu];rfl
theorem jy{ps:List Pt}{k:Nat}{r:Tm}(h:(ps.getD k default).fs=[]):(ps.map ii).set k ([D.int .i64 (ps.getD k default).k,.nils].take 1++(.slc 2 ([r].map Tm.cells)::[D.int .i64 (ps.getD k default).k,.nils].drop 2))=(gc ps k r).map ii:=by
 rw[gc,h,List.map_set]
 rfl
theorem hJ{ps:List Pt}{k:Nat}(h:k<ps.length):(ps.map ii)[k]? = some (ii (ps.getD k default)):=by
 rw[List.getElem?_map,List.getElem?_eq_getElem h,getD_lt h];rfl
theorem mU{ps:List Pt}{k:Nat}{e:List D}(h:k<ps.length):((ps.map ii).set k e)[k]? = some e:=by
 rw[List.getElem?_set_self (by rw[bl];exact h)]
section
variable{a:An}{l:Str}{r:Tm×Bool}
abbrev fq(l:Str):Str:=(cut l [32]).1
abbrev lx(l:Str):Str:=(cut l [32]).2.1
theorem jF:fq bm=bm:=by decide +kernel
theorem mG(hr:r=dd (e8 (lx l)))(h:fq l=bK∧r.2=true):f9 a l=some ⟨a.pre++[r.1],a.post,a.code,a.pts⟩:=by
 subst hr;exact if_pos h
theorem kI(hr:r=dd (e8 (lx l)))(h1: ¬(fq l=bK∧r.2=true))(h:fq l=bj∧r.2=true):f9 a l=some ⟨a.pre,a.post++[r.1],a.code,a.pts⟩:=by
 subst hr;exact(if_neg h1).trans (if_pos h)
theorem jq(hr:r=dd (e8 (lx l)))(h:l=bm):f9 a l=some ⟨a.pre,a.post,a.code,a.pts++[⟨(a.code.length:Int),[]⟩]⟩:=by
 subst hr
 have hF:fq l=bm:=by rw[h];exact jF
 have h1: ¬(fq l=bK∧(dd (e8 (lx l))).2=true):=fun e=>by rw[hF]at e;exact absurd e.1 (by decide)
 have h2: ¬(fq l=bj∧(dd (e8 (lx l))).2=true):=fun e=>by rw[hF]at e;exact absurd e.1 (by decide)
 exact(if_neg h1).trans ((if_neg h2).trans (if_pos h))
theorem jS(hr:r=dd (e8 (lx l)))(h:fq l=gt∧r.2=true∧0<a.pts.length):f9 a l=some ⟨a.pre,a.post,a.code,gc a.pts (a.pts.length-1) r.1⟩:=by
 subst hr
 have h1: ¬(fq l=bK∧(dd (e8 (lx l))).2=true):=fun e=>by rw[h.1]at e;exact absurd e.1 (by decide)
 have h2: ¬(fq l=bj∧(dd (e8 (lx l))).2=true):=fun e=>by rw[h.1]at e;exact absurd e.1 (by decide)
 have h3: ¬l=bm:=fun e=>by have h4:=h.1;rw[e,jF]at h4;exact absurd h4 (by decide)
 exact(if_neg h1).trans ((if_neg h2).trans ((if_neg h3).trans (if_pos h)))
theorem oA(hr:r=dd (e8 (lx l)))(h1: ¬(fq l=bK∧r.2=true))(h2: ¬(fq l=bj∧r.2=true))(h3: ¬l=bm)(h4: ¬(fq l=gt∧r.2=true∧0<a.pts.length)):f9 a l=match jO l with
    | none=>none
    | some x=>some ⟨a.pre,a.post,a.code++[x],a.pts⟩:=by
  subst hr;exact(if_neg h1).trans ((if_neg h2).trans ((if_neg h3).trans (if_neg h4)))
theorem oz(hr:r=dd (e8 (lx l)))(h1: ¬(fq l=bK∧r.2=true))(h2: ¬(fq l=bj∧r.2=true))(h3: ¬l=bm)(h4: ¬(fq l=gt∧r.2=true∧0<a.pts.length))(h:(jP (jO l)).2=true):f9 a l=some ⟨a.pre,a.post,a.code++[(jP (jO l)).1],a.pts⟩:=by
 rw[oA hr h1 h2 h3 h4]
 cases hx:jO l with
 | none=>rw[hx]at h;cases h
 | some x=>rfl
theorem oy(hr:r=dd (e8 (lx l)))(h1: ¬(fq l=bK∧r.2=true))(h2: ¬(fq l=bj∧r.2=true))(h3: ¬l=bm)(h4: ¬(fq l=gt∧r.2=true∧0<a.pts.length))(h:(jP (jO l)).2=false):f9 a l=none:=by
 rw[oA hr h1 h2 h3 h4]
 cases hx:jO l with
 | none=>rfl
 | some x=>rw[hx]at h;cases h
end
theorem j1{p:Prop}[Decidable p]{b:Bool}:(bif decide p then b else false)=true↔p∧b=true:=by
 by_cases h:p<;>simp[h]
theorem oY{p:Prop}[Decidable p]{b c:Bool}:(bif (bif decide p then b else false)then c else false)=true↔p∧b=true∧c=true:=by
 by_cases h:p<;>cases b<;>simp[h]
theorem cR{ls:List Str}{i:Nat}{a b:An}(hi:i<ls.length)(h:bI (ls.take i) an0=some a)(hs:f9 a (ls.getD i default)=some b):bI (ls.take (i+1)) an0=some b:=by
 rw[List.take_succ_eq_append_getElem hi,fE,h,←getD_lt hi];exact hs
theorem pD{ls:List Str}{i:Nat}{a:An}(hi:i<ls.length)(h:bI (ls.take i) an0=some a)(hs:f9 a (ls.getD i default)=none):bI ls an0=none:=by
 have h1:ls=ls.take i++ls.getD i default::ls.drop (i+1):=by
  conv=>lhs;rw[←List.take_append_drop i ls,List.drop_eq_getElem_cons hi,←getD_lt hi]
 rw[h1];exact gq h hs
def gU:Option An→An×Bool
  | none=>(an0,false)
  | some a=>(a,true)
theorem rX{t:Str}{a:An}(h: ¬kA t)(hf:bI (bO 10 t).dropLast an0=some a):rdA t=if annB a=true∧dO a=t then some a else none:=by
 rw[oM h,hf]
theorem rY{t:Str}(h: ¬kA t)(hf:bI (bO 10 t).dropLast an0=none):rdA t=none:=by
 rw[oM h,hf]
theorem lC{c:UInt8}: ∀{ls:List Str} {q:Str},(∀p∈ls,c ∉ p)→bO c (bb c ls++q)=ls++bO c q
 | [],q,_=>rfl
 | p::r,q,h=>by
  rw[bb,cM,List.cons_append,fO _ (h p (List.mem_cons_self ..)),lC (fun q hq=>h q (List.mem_cons_of_mem _ hq))];rfl
structure Rdg(t:Str)(f:Nat)(a:An)(ls:List Str):Prop where
  le:f≤t.length
  cat:t.take f=bb 10 ls
  no: ∀p∈ls,(10:UInt8) ∉ p
  fold:bI ls an0=some a
theorem Rdg.zero{t:Str}:Rdg t 0 an0 []:=⟨cN _,rfl,by simp,rfl⟩
abbrev gT(t:Str)(f i:Nat):Str:=(t.drop f).take (i-f)
theorem Rdg.step{t:Str}{f i:Nat}{a b:An}{ls:List Str}(h:Rdg t f a ls)(hf:f≤i)(hi:i<t.length)(hc:t.getD i 0=10)(hn:(10:UInt8) ∉ gT t f i)(hs:f9 a (gT t f i)=some b):Rdg t (i+1) b (ls++[gT t f i]):=by
 refine⟨hi,?_,fun p hp=>?_,?_⟩
 rw[bM,←h.cat]
 have h1:t.take (i+1)=t.take f++(gT t f i++[10]):=by
  rw[List.take_succ_eq_append_getElem hi,←cM]
  congr 1
  conv=>lhs;rw[show i=f+(i-f) by omega,List.take_add]
  rw[List.getD_eq_getElem?_getD,List.getElem?_eq_getElem hi]at hc
  exact congrArg (fun x=>[x]) hc
 rw[h1];simp[bb]
 rcases List.mem_append.1 hp with hp|hp
 exact h.no p hp
 rw[List.mem_singleton.1 hp];exact hn
 rw[fE,h.fold];exact hs
theorem Rdg.bad{t:Str}{f i:Nat}{a:An}{ls:List Str}(h:Rdg t f a ls)(hf:f≤i)(hi:i<t.length)(hc:t.getD i 0=10)(hn:(10:UInt8) ∉ gT t f i)(hs:f9 a (gT t f i)=none):rdA t=none:=by
 have h1:t=bb 10 ls++(gT t f i++10::t.drop (i+1)):=by
  rw[←h.cat]
  conv=>lhs;rw[←List.take_append_drop f t]
  congr 1
  conv=>lhs;rw[←List.take_append_drop (i-f) (t.drop f)]
  rw[List.drop_drop,show f+(i-f)=i by omega,List.drop_eq_getElem_cons hi]
  congr 2
  rw[List.getD_eq_getElem?_getD,List.getElem?_eq_getElem hi]at hc
  exact hc
 have h2:bO 10 t=ls++gT t f i::bO 10 (t.drop (i+1)):=by
  conv=>lhs;rw[h1]
  rw[lC h.no,fO _ hn]
 have h3:(bO 10 t).dropLast=ls++gT t f i::(bO 10 (t.drop (i+1))).dropLast:=by
  rw[h2,List.dropLast_append_of_ne_nil (by simp)]
  cases h4:bO 10 (t.drop (i+1))with
  | nil=>exact absurd h4 (rK 10 _)
  | cons x r=>rfl
 unfold rdA
 rw[h3,gq h.fold hs]
theorem Rdg.fin{t:Str}{f:Nat}{a:An}{ls:List Str}(h:Rdg t f a ls)(hn:(10:UInt8) ∉ gT t f t.length):rdA t=if f=t.length∧annB a=true∧dO a=t then some a else none:=by
 have h0:gT t f t.length=t.drop f:=List.take_of_length_le (by rw[List.length_drop];omega)
 rw[h0]at hn
 have h2:bO 10 t=ls++[t.drop f]:=by
  conv=>lhs;rw[←List.take_append_drop f t,h.cat]
  rw[lC h.no,fW hn]
 have hle:=h.le
 unfold rdA
 rw[h2,List.dropLast_concat,h.fold]
 simp only[List.getLast?_concat]
 have h3:some (t.drop f)=some ([]:Str)↔f=t.length:=by
  constructor
  intro e
  have:=congrArg List.length (Option.some.inj e)
  rw[List.length_drop]at this
  simp at this;omega
  intro e;rw[e,List.drop_length]
 simp only[h3]
theorem qy{t:Str}{f i:Nat}(hf:f≤i)(hi:i<t.length)(hn:(10:UInt8) ∉ gT t f i)(hc:t.getD i 0≠10):(10:UInt8) ∉ gT t f (i+1):=by
 have h1:gT t f (i+1)=gT t f i++[t.getD i 0]:=by
  show(t.drop f).take (i+1-f)=_
  rw[show i+1-f=(i-f)+1 by omega,List.take_succ_eq_append_getElem (by rw[List.length_drop];omega)]
  congr 2
  rw[List.getElem_drop,List.getD_eq_getElem?_getD,List.getElem?_eq_getElem hi]
  congr 1;omega
 rw[h1]
 intro h
 rcases List.mem_append.1 h with h|h
 exact hn h
 exact hc (List.mem_singleton.1 h).symm
theorem du{t:Str}{f:Nat}:gT t f f=[]:=by show(t.drop f).take (f-f)=[];rw[Nat.sub_self];rfl
theorem qK{l:Str}{k:Nat}(hk:k<l.length)(hn:(32:UInt8) ∉ l.take k)(hc:l.getD k 0=32):cut l [32]=(l.take k,l.drop (k+1),true):=by
 have h1:l=l.take k++32::l.drop (k+1):=by
  conv=>lhs;rw[←List.take_append_drop k l,List.drop_eq_getElem_cons hk]
  rw[List.getD_eq_getElem?_getD,List.getElem?_eq_getElem hk]at hc
  congr 2
 conv=>lhs;rw[h1]
 exact oW _ hn
theorem qd{l:Str}{k:Nat}(hk:k<l.length)(hn:(32:UInt8) ∉ l.take k)(hc:l.getD k 0≠32):(32:UInt8) ∉ l.take (k+1):=by
 rw[List.take_succ_eq_append_getElem hk]
 intro h
 rcases List.mem_append.1 h with h|h
 exact hn h
 rw[List.getD_eq_getElem?_getD,List.getElem?_eq_getElem hk]at hc
 exact hc (List.mem_singleton.1 h).symm
structure AnL(n:Nat)(a:An):Prop where
  pre:a.pre.length≤n
  post:a.post.length≤n
  code:a.code.length≤n
  pts:a.pts.length≤n
  fs: ∀p∈a.pts,p.fs.length≤n
theorem qj{n:Nat}{a b:An}{l:Str}(h:AnL n a)(hs:f9 a l=some b):AnL (n+1) b:=by
 obtain⟨q1,q2,q3,q4,q5⟩:=h
 have q6: ∀p∈a.pts,p.fs.length≤n+1:=fun p hp=>Nat.le_succ_of_le (q5 p hp)
 unfold f9 at hs
 split at hs
 cases hs;exact⟨by rw[bV];exact Nat.add_le_add_right q1 1,by show a.post.length≤_;omega,by show a.code.length≤_;omega,by show a.pts.length≤_;omega,q6⟩
 split at hs
 cases hs;exact⟨by show a.pre.length≤_;omega,by rw[bV];exact Nat.add_le_add_right q2 1,by show a.code.length≤_;omega,by show a.pts.length≤_;omega,q6⟩
 split at hs
 cases hs
 refine⟨by show a.pre.length≤_;omega,by show a.post.length≤_;omega,by show a.code.length≤_;omega,by rw[bV];exact Nat.add_le_add_right q4 1,fun p hp=>?_⟩
 rcases List.mem_append.1 hp with hp|hp
 exact q6 p hp
 rw[List.mem_singleton.1 hp];exact cN _
 split at hs
 rename_i h4
 cases hs
 refine⟨by show a.pre.length≤_;omega,by show a.post.length≤_;omega,by show a.code.length≤_;omega,by rw[List.length_set];omega,fun p hp=>?_⟩
 rcases List.mem_or_eq_of_mem_set hp with hp|hp
 exact q6 p hp
 rw[hp]
 show((a.pts.getD (a.pts.length-1) default).fs++[_]).length≤n+1
 rw[bV]
 have h5:a.pts.getD (a.pts.length-1) default∈a.pts:=by
  have:a.pts.length-1<a.pts.length:=by have:=h4.2.2;omega
  rw[getD_lt this];exact List.getElem_mem this
 exact Nat.add_le_add_right (q5 _ h5) 1
 split at hs
 cases hs
 cases hs;exact⟨by show a.pre.length≤_;omega,by show a.post.length≤_;omega,by rw[bV];exact Nat.add_le_add_right q3 1,by show a.pts.length≤_;omega,q6⟩
theorem gp: ∀{ls:List Str} {n:Nat} {a b:An},AnL n a→bI ls a=some b→AnL (n+ls.length) b
 | [],n,a,b,h,hs=>by rw[bI]at hs;cases hs;exact h
 | l :: r,n,a,b,h,hs=>by
  rw[bI]at hs
  cases hx:f9 a l with
  | none=>rw[hx]at hs;cases hs
  | some c=>
   rw[hx]at hs
   have:=gp (qj h hx) hs
   rw[ep]
   rwa[show n+(r.length+1)=n+1+r.length by omega]
theorem AnL.zero:AnL 0 an0:=⟨bH _,bH _,bH _,bH _,by simp⟩
theorem pd{ls:List Str}{i:Nat}{a:An}(h:bI (ls.take i) an0=some a):AnL ls.length a:=by
 have h1:=gp .zero h
 have h2:0+(ls.take i).length≤ls.length:=by rw[List.length_take];omega
 exact⟨Nat.le_trans h1.pre h2,Nat.le_trans h1.post h2,Nat.le_trans h1.code h2,Nat.le_trans h1.pts h2,fun p hp=>Nat.le_trans (h1.fs p hp) h2⟩
theorem Rdg.anl{t:Str}{f:Nat}{a:An}{ls:List Str}(h:Rdg t f a ls):AnL t.length a:=by
 have h1:=gp .zero h.fold
 have h3:ls.length≤(bb 10 ls).length:=iI
 have h2:0+ls.length≤t.length:=by
  rw[←h.cat,List.length_take]at h3
  have:=h.le;omega
 exact⟨Nat.le_trans h1.pre h2,Nat.le_trans h1.post h2,Nat.le_trans h1.code h2,Nat.le_trans h1.pts h2,fun p hp=>Nat.le_trans (h1.fs p hp) h2⟩
def lw(t:Str):List Str×Bool:=if kA t then([],false)else((bO 10 t).dropLast,true)
theorem t7{t:Str}:sI t= .tup [.c (.d (strs (lw t).1)),eB (lw t).2]:=by
 unfold sI lw
 by_cases h:kA t
 rw[if_pos h,if_pos h]
 rw[if_neg h,if_neg h]
theorem r8{t:Str}(h:(lw t).2=false):kA t:=by
 unfold lw at h
 by_cases h2:kA t
 exact h2
 rw[if_neg h2]at h;cases h
theorem mW{t:Str}(h:(lw t).2=true): ¬kA t∧(lw t).1=(bO 10 t).dropLast:=by
 unfold lw at h ⊢
 by_cases h2:kA t
 rw[if_pos h2]at h;cases h
 exact⟨h2,by rw[if_neg h2]⟩
theorem qB{t:Str}:(lw t).1.length≤t.length:=by
 unfold lw
 split
 exact cN _
 have:=j9 10 t
 rw[List.length_dropLast];omega
theorem r9{t:Str}{i:Nat}(h:i<(lw t).1.length):((lw t).1.getD i default).length≤t.length:=by
 unfold lw at h ⊢
 split
 rename_i h2;rw[if_pos h2]at h;cases h
 rename_i h2
 rw[if_neg h2]at h
 rw[getD_lt h]
 exact rL _ (List.dropLast_subset _ (List.getElem_mem h))
end Go.Al
