/- Annotated code and packages as text and bytes: the writers of both sides, walked. -/
import Derived.Test.YtdlhjplhmmfnnaaGreatDoorE
import Derived.Test.YtdlhjplhmmfnnaaGreatDoorH
import Derived.WalkKit
import Derived.Deep.QuietTactic
import Derived.BigQuiet
import Derived.Lib.Join
import Derived.BigCall
set_option linter.unusedVariables false
set_option linter.unusedSimpArgs false
set_option maxRecDepth 10000
set_option maxHeartbeats 4000000
open Go.Proofs
/- The bytes of a package, in plain Lean. -/
namespace Go.Al
variable{L:Nat}(h1:4096≤L)(h2:L≤1073741824)
open Go.Lib
structure Pk where
  nm:Str
  an:An
  pf:List (List Nd)
def gD(p:List Nd):Str:=ba 47 (p.map bo)
def ck(m:Nat):Str:=if h:m<128 then[UInt8.ofNat m]else UInt8.ofNat (m%128+128)::ck (m/128)
termination_by m
decreasing_by omega
theorem fF{m:Nat}(h:m<128):ck m=[UInt8.ofNat m]:=by rw[ck,dif_pos h]
theorem m1{m:Nat}(h:128≤m):ck m=UInt8.ofNat (m%128+128)::ck (m/128):=by rw[ck,dif_neg (by omega)]
theorem nU: ∀{k m:Nat},m<128^(k+1)→(ck m).length≤k+1
 | 0,m,h=>by rw[fF (by simpa using h)];simp
 | k + 1,m,h=>by
  by_cases h1:m<128
  rw[fF h1];simp
  rw[m1 (by omega),db]
  have:m/128<128^(k+1):=by
   rw[Nat.pow_succ]at h
   exact Nat.div_lt_of_lt_mul (by rw[Nat.mul_comm];exact h)
  have:=nU (k:=k) this
  omega
theorem cJ{m:Nat}(h:m<1180591620717411303424):(ck m).length≤10:=nU (k:=9) (by simpa using h)
def jI(s:Str):Nat×Nat:=s.foldl (fun z c=>((z.1+c.toNat)%65521,(z.2+(z.1+c.toNat)%65521)%65521)) (1,0)
def kt(s:Str):Nat:=(jI s).1+65521*(jI s).2
theorem kZ{s:Str}{i:Nat}(h:i<s.length):jI (s.take (i+1))=(((jI (s.take i)).1+(s.getD i 0).toNat)%65521,((jI (s.take i)).2+((jI (s.take i)).1+(s.getD i 0).toNat)%65521)%65521):=by
 rw[List.take_succ_eq_append_getElem h]
 unfold jI
 rw[List.foldl_append]
 simp[List.getD_eq_getElem?_getD,List.getElem?_eq_getElem h]
theorem kE{s:Str}: ∀{i:Nat},i≤s.length→(jI (s.take i)).1<65521∧(jI (s.take i)).2<65521
 | 0,_=>by simp[jI]
 | i+1,h=>by rw[kZ (by omega)];exact⟨Nat.mod_lt _ (by decide),Nat.mod_lt _ (by decide)⟩
theorem pL{s:Str}:kt s<4293001441:=by
 have h:=kE (s:=s) (bQ _)
 rw[List.take_length]at h
 unfold kt
 omega
def fT(t:Str):Str:=ck (2*t.length)++t
theorem kk{t:Str}(h:t.length≤40000):(fT t).length≤40010:=by
 have:=cJ (m:=2*t.length) (by omega)
 unfold fT
 rw[bP];omega
def i6(ts:List Str)(c:Str):Nat→Str
  | 0=>[]
  | i+1=>i6 ts c i++fT (ts.getD i [])++(if i=1 then c else[])
theorem oy{ts:List Str}{c:Str}(h: ∀t∈ts,t.length≤40000)(hc:c.length≤10): ∀{i:Nat},i≤ts.length→(i6 ts c i).length≤40020*i
 | 0,_=>by simp[i6]
 | i+1,hi=>by
  have h1:=oy h hc (i:=i) (by omega)
  have h2:=kk (h (ts.getD i []) (by rw[List.getD_eq_getElem?_getD,List.getElem?_eq_getElem (by omega)];exact List.getElem_mem _))
  rw[i6,bP,bP]
  have h3:(if i=1 then c else[]).length≤10:=by split<;>simp[hc]
  omega
def j8(p:Pk):List Str:=p.nm::cH p.an::p.pf.map gD
def se(p:Pk):Str:=ck (2*p.pf.length)
def sl(p:Pk):Str:=fT p.nm++fT (cH p.an)++se p
def iq(p:Pk):Str:=sl p++(p.pf.map fun q=>fT (gD q)).flatten
def fR(p:Pk):Str:=iq p++ck (2*kt (iq p))
theorem rn{x y c:Str}{ps:List Str}: ∀{k:Nat},k≤ps.length→i6 (x::y::ps) c (k+2)=fT x++fT y++c++((ps.take k).map fT).flatten
 | 0,_=>by simp[i6]
 | k+1,h=>by
  rw[show k+1+2=(k+2)+1 by omega,i6,rn (by omega),if_neg (by omega),List.take_succ_eq_append_getElem (show k<ps.length by omega),List.map_append,List.flatten_append]
  have e:(x::y::ps).getD (k+2) []=ps[k]:=by simp[List.getD_eq_getElem?_getD,show k<ps.length by omega]
  rw[e]
  simp only[List.map_cons,List.map_nil,List.flatten_cons,List.flatten_nil,List.append_nil,dh]
theorem uz{p:Pk}:i6 (j8 p) (se p) (j8 p).length=iq p:=by
 have h:=rn (x:=p.nm) (y:=cH p.an) (c:=se p) (ps:=p.pf.map gD) (k:=(p.pf.map gD).length) (bQ _)
 rw[List.take_length,List.map_map]at h
 exact h
theorem xT{n:Int}(h:co n=true):(itoa n).length≤7:=by
 unfold co at h
 simp only[bK,decide_eq_true_eq]at h
 unfold itoa
 rw[if_neg (by omega)]
 exact fI (by omega)
theorem ju{c:UInt8}{B:Nat}: ∀{ls:List Str},(∀l∈ls,l.length≤B)→(ba c ls).length≤(B+1)*ls.length
 | [],_=>by simp[ba]
 | [p],h=>by have:=h p (by simp);simp only[ba,sj];omega
 | p::q::r,h=>by
  have h1:=ju (c:=c) (ls:=q::r) fun x hx=>h x (List.mem_cons_of_mem _ hx)
  have h2:=h p (List.mem_cons_self ..)
  rw[ba,bP,db,db (a:=p),Nat.mul_add]
  omega
theorem ndB_R{x:Nd}(h:ndB x=true):NdR x∧x.mul.length≤20∧∀m∈x.mul,co m=true:=by
 have hz:x.term.zero=true→x.term.ok=true:=fun hz=>by
  unfold Tm.zero at hz
  simp only[bK,decide_eq_true_eq]at hz
  have h0:x.term.xs=[]:=List.length_eq_zero_iff.1 (by omega)
  have:x.term=⟨0,[]⟩:=by cases hx:x.term with|mk c xs=>rw[hx]at hz h0;simp only at hz h0;rw[h0,hz.1]
  rw[this];exact sH
 unfold ndB at h
 split at h
 rename_i h1
 simp only[bK,decide_eq_true_eq]at h
 obtain⟨⟨h2,h3⟩,h4⟩:=h
 unfold rB at h4
 simp only[bK,decide_eq_true_eq,List.all_eq_true]at h4
 refine⟨⟨.inl h1,by omega,hz h3,fun m hm=>?_⟩,by omega,h4.1⟩
 have:=h4.1 m hm
 unfold co at this
 simp only[bK,decide_eq_true_eq]at this
 omega
 split at h
 rename_i h1
 simp only[bK,decide_eq_true_eq]at h
 obtain⟨⟨h2,h3⟩,h4⟩:=h
 have h0:x.mul=[]:=List.length_eq_zero_iff.1 (by omega)
 exact⟨⟨.inr (.inl h1),by omega,h3,by rw[h0];simp⟩,by omega,by rw[h0];simp⟩
 split at h
 rename_i h1
 simp only[bK,decide_eq_true_eq]at h
 obtain⟨⟨h2,h3⟩,h4⟩:=h
 have h0:x.mul=[]:=List.length_eq_zero_iff.1 (by omega)
 unfold cQ at h2
 simp only[bK,decide_eq_true_eq]at h2
 exact⟨⟨.inr (.inr h1),by omega,hz h3,by rw[h0];simp⟩,by omega,by rw[h0];simp⟩
 cases h
theorem n6{x:Nd}(h:ndB x=true):(bo x).length≤170:=by
 obtain⟨hR,h1,h2⟩:=ndB_R h
 unfold bo
 split
 have:=ju (c:=44) (B:=7) (ls:=x.mul.map itoa) fun l hl=>by
  obtain⟨m,hm,rfl⟩:=List.mem_map.1 hl
  exact xT (h2 m hm)
 rw[bd]at this
 rw[db];omega
 split
 have:=xu hR.term
 rw[db];omega
 have:=iC hR.fact
 split<;>simp<;>omega
theorem isB_nd{p:List Nd}(h:isB p=true):1≤p.length∧p.length≤60∧∀x∈p,ndB x=true:=by
 unfold isB at h
 simp only[bK,decide_eq_true_eq,List.all_eq_true]at h
 obtain⟨⟨h1,h2⟩,h3,h4⟩:=h
 exact⟨by omega,by omega,h3⟩
theorem iA{p:List Nd}(h:isB p=true):(gD p).length≤10260:=by
 obtain⟨h1,h2,h3⟩:=isB_nd h
 have:=ju (c:=47) (B:=170) (ls:=p.map bo) fun l hl=>by
  obtain⟨x,hx,rfl⟩:=List.mem_map.1 hl
  exact n6 (h3 x hx)
 rw[bd]at this
 unfold gD
 omega
def rx(c:UInt8):Bool:=decide (97≤c.toNat)&&decide (c.toNat≤122)
def mw(s:Str):Bool:=decide ((1:Int)≤s.length)&&decide ((s.length:Int)≤10)&&s.all rx
theorem qy(c:UInt8):(bif decide ((c.toNat:Int)<97)then true else decide ((122:Int)<(c.toNat:Int)))= !rx c:=by
 unfold rx
 by_cases h1:(c.toNat:Int)<97
 simp[h1,show¬97≤c.toNat by omega]
 simp only[h1,decide_false,cond_false,show 97≤c.toNat by omega,decide_true,Bool.true_and]
 by_cases h2:c.toNat≤122
 simp[h2,show¬(122:Int)<(c.toNat:Int) by omega]
 simp[h2,show(122:Int)<(c.toNat:Int) by omega]
theorem tD{s:Str}{i:Nat}(hi:i<s.length)(h:rx (s.getD i 0)=false):mw s=false:=by
 unfold mw
 rw[show s.all rx=false from List.all_eq_false.2 ⟨s[i],List.getElem_mem hi,by simp[List.getD_eq_getElem?_getD,hi]at h;simp[h]⟩,Bool.and_false]
theorem tA{s:Str}(h: ∀j,j<s.length→rx (s.getD j 0)=true):mw s=(decide ((1:Int)≤s.length)&&decide ((s.length:Int)≤10)):=by
 unfold mw
 rw [show s.all rx=true from List.all_eq_true.2 fun c hc=>by
  obtain⟨j,hj,rfl⟩:=List.getElem_of_mem hc
  have:=h j hj
  simpa[List.getD_eq_getElem?_getD,hj]using this,Bool.and_true]
def pkB(p:Pk):Bool:=mw p.nm&&dC p.an&&decide (p.pf.length≤60)&&p.pf.all isB
theorem pkB_iff{p:Pk}:pkB p=true↔mw p.nm=true∧dC p.an=true∧p.pf.length≤60∧∀q∈p.pf,isB q=true:=by
 unfold pkB
 simp only[bK,decide_eq_true_eq,List.all_eq_true]
 exact⟨fun⟨⟨⟨h1,h2⟩,h3⟩,h4⟩=>⟨h1,h2,h3,h4⟩,fun⟨h1,h2,h3,h4⟩=>⟨⟨⟨h1,h2⟩,h3⟩,h4⟩⟩
theorem pg{p:Pk}(h:pkB p=true): ∀t∈j8 p,t.length≤40000:=by
 obtain⟨h1,h2,h3,h4⟩:=pkB_iff.1 h
 intro t ht
 unfold j8 at ht
 rcases List.mem_cons.1 ht with rfl|ht
 unfold mw at h1
 simp only[bK,decide_eq_true_eq]at h1
 omega
 rcases List.mem_cons.1 ht with rfl|ht
 have:=eg h2;omega
 obtain⟨q,hq,rfl⟩:=List.mem_map.1 ht
 have:=iA (h4 q hq);omega
theorem kW: ∀{ps:List (List Nd)},(∀q∈ps,isB q=true)→((ps.map fun q=>fT (gD q)).flatten).length≤10270*ps.length
 | [],_=>by simp
 | q::r,h=>by
  have h1:=kW (ps:=r) fun x hx=>h x (List.mem_cons_of_mem _ hx)
  have h2:=iA (h q (List.mem_cons_self ..))
  have h3:=cJ (m:=2*(gD q).length) (by omega)
  have h4:(fT (gD q)).length≤10270:=by unfold fT;rw[bP];omega
  rw[List.map_cons,List.flatten_cons,bP,db]
  omega
theorem pF{p:Pk}(h:pkB p=true):(sl p).length≤30050:=by
 obtain⟨h1,h2,h3,h4⟩:=pkB_iff.1 h
 unfold mw at h1
 simp only[bK,decide_eq_true_eq]at h1
 have q1:=cJ (m:=2*p.nm.length) (by omega)
 have q2:=eg h2
 have q3:=cJ (m:=2*(cH p.an).length) (by omega)
 have hc:(se p).length≤10:=cJ (by omega)
 unfold sl fT
 simp only[bP]
 omega
theorem pN{p:Pk}(h:pkB p=true):(iq p).length≤700000:=by
 have q1:=pF h
 obtain⟨h1,h2,h3,h4⟩:=pkB_iff.1 h
 have q2:=kW h4
 unfold iq
 rw[bP];omega
def mD(p:Pk):Str×Bool:=if pkB p=true then(if(fR p).length≤40000 then(fR p,true)else([],false))else([],false)
end Go.Al
/- A slice of texts, read in a world. -/
namespace Go.Al
variable{L:Nat}(h1:4096≤L)(h2:L≤1073741824)
open Go.Proofs Go.RowKit
theorem kH{L:Nat}{w:World}{ok:Nat→Prop}{m:Nat→Loc}{ls:List Str}{v:Value}(h:RA L w ok m (.c (.d (strs ls))) v) :
    (ls=[]∧∃base cap,v= .slice base 0 cap)∨(∃b off cap,v= .slice (some ⟨b,off,none⟩) ls.length cap∧b<w.heap.size∧ls.length≤cap∧∀(j:Nat) s,ls[j]? = some s→w.cell? ⟨b,off+j,none⟩=some (.string (bS s))∧s.length≤L):=by
 cases h with
 | c h => cases h with
  | d h =>
    generalize hx:strs ls=x at h
    unfold strs at hx
    cases h with
    | slc0=>
      injection hx with h1 h2
      exact .inl ⟨List.map_eq_nil_iff.1 h2,_,_,Z⟩
    | slc h1 h2 h3 h4 h5 h6=>
      injection hx with e1 e2
      subst e1;subst e2
      rw[bd]at h1 h2 ⊢
      refine .inr ⟨_,_,_,Z,h5,h2,fun j s hj=>?_⟩
      have hf:(ls.map fun p=>[sD p]).flatten[j*1+0]? = some (sD s):=ft (sz:=1) h3 (e:=[sD s]) (by rw[List.getElem?_map,hj];rfl) Z
      rw[Nat.mul_one,Nat.add_zero]at hf
      obtain⟨u,hu,hr⟩:=h6.get rfl hf
      cases hr with
      | str hs=>exact⟨hu,by rw[bS_size]at hs;exact hs⟩
    | _=>cases hx
theorem jM(s:Str):Lib.strCells (bS s)=Lib.byteCells s:=by
 unfold Lib.strCells Lib.byteCells
 rw[fX]
theorem vL{x:Int}:(bif (bif (bif (bif (bif (bif decide (x=0)then true else decide (x=1))then true else decide (x=2))then true else decide (x=4))then true else decide (x=5))then true else decide (x=6))then true else decide (x=9))=i5 x:=by
 by_cases e0:x=0
 subst e0;rfl
 by_cases e1:x=1
 subst e1;rfl
 by_cases e2:x=2
 subst e2;rfl
 by_cases e4:x=4
 subst e4;rfl
 by_cases e5:x=5
 subst e5;rfl
 by_cases e6:x=6
 subst e6;rfl
 by_cases e9:x=9
 subst e9;rfl
 unfold i5
 simp[e0,e1,e2,e4,e5,e6,e9]
theorem xL{k:Nat}(h:k<12):xd.getD k default=jE (k:Int):=rfl
theorem zK{x:Int}:MQ h1 h2 156 [eI x] [] (Plain (eB (i5 x))):=by
 refine au ?_ Z
 refine jB 29 h1 h2 Tryz.func156 Z fun O hF=>?_
 refine ae (js Z (be (aF Z (jf [5,2,0] Z (ar 2 Z Z Z (fun hx=>aq hx Z (aq hx Z (AN.nil))) Z Z ?_)))))
 first|refine aa (al O Z Z Z Z Z) Z ?_|refine aa (Val.pickB O Z Z Z Z Z) Z ?_|refine aa (aj O Z Z Z Z Z) Z ?_
 refine js Z (jf [9,2,0] Z (ar 2 Z Z Z (fun hx=>aq hx Z (aq hx Z (AN.nil))) Z Z ?_))
 first|refine aa (al O Z Z Z Z Z) Z ?_|refine aa (Val.pickB O Z Z Z Z Z) Z ?_|refine aa (aj O Z Z Z Z Z) Z ?_
 refine js Z (jf [13,2,0] Z (ar 2 Z Z Z (fun hx=>aq hx Z (aq hx Z (AN.nil))) Z Z ?_))
 first|refine aa (al O Z Z Z Z Z) Z ?_|refine aa (Val.pickB O Z Z Z Z Z) Z ?_|refine aa (aj O Z Z Z Z Z) Z ?_
 refine js Z (jf [17,2,0] Z (ar 2 Z Z Z (fun hx=>aq hx Z (aq hx Z (AN.nil))) Z Z ?_))
 first|refine aa (al O Z Z Z Z Z) Z ?_|refine aa (Val.pickB O Z Z Z Z Z) Z ?_|refine aa (aj O Z Z Z Z Z) Z ?_
 refine js Z (jf [21,2,0] Z (ar 2 Z Z Z (fun hx=>aq hx Z (aq hx Z (AN.nil))) Z Z ?_))
 first|refine aa (al O Z Z Z Z Z) Z ?_|refine aa (Val.pickB O Z Z Z Z Z) Z ?_|refine aa (aj O Z Z Z Z Z) Z ?_
 refine js Z (jf [25,2,0] Z (ar 2 Z Z Z (fun hx=>aq hx Z (aq hx Z (AN.nil))) Z Z ?_))
 first|refine aa (al O Z Z Z Z Z) Z ?_|refine aa (Val.pickB O Z Z Z Z Z) Z ?_|refine aa (aj O Z Z Z Z Z) Z ?_
 refine js Z (jf [2] Z (jr ?_))
 refine ay Z ?_
 exact congrArg eB vL
theorem wP{k:Nat}(hk:k<12):MQ h1 h2 111 [eI (k:Nat)] [] (Plain (aS8 (jE (k:Int)))):=by
 refine au ?_ Z
 refine jB 9 h1 h2 Tryz.func111 Z fun O hF=>?_
 refine ae (js Z (be (aY (bL O Z Z Z Z Z Z Z Z Z Z Z) Z (aB ?_))))
 refine aK (aC [4] (e':=[(0,_),(4,_)]) Z Z ⟨Z,Z,ao⟩ Z) (aK (Ent.freeze 4 (e':=[(0,_),(4,_)]) Z (.cons Z (.keep Z) (.cons Z (.c (.row Z Z)) .nil)) (.skip .nil)) ?_)
 refine aB ?_
 refine js Z (be (ac Z (aa (aE O Z Z Z Z Z Z Z Z (show(xd.map fun p=>[sD p])[((k:Nat):Int).toNat]? = some [sD (xd.getD k default)]from cb (show k<xd.length from hk))) Z (ac Z (jf [2,4] Z (jr ?_))))))
 refine ay Z ?_
 rw[←xL hk]
theorem sR{x:In}(h:aV x=true):MQ h1 h2 114 [.agg (x.cells.map .d)] [] (Plain (aS8 (fU x))):=by
 refine au ?_ Z
 refine jB 17 h1 h2 Tryz.func114 Z fun O hF=>?_
 obtain⟨⟨ho0,ho1⟩,ha,_⟩:=f6 h
 have hol:=m3 ho0 ho1
 have hal:=iC ha
 have z2:MC Tryz.prog L 111 [eI x.op] [] (Plain (aS8 (jE x.op))):=by
  obtain⟨k,hk⟩: ∃k:Nat,x.op=k:=⟨x.op.toNat,by omega⟩
  rw[hk];exact wP h1 h2 (by omega)
 refine ae (jx Z (aB ?_))
 refine aK (Ent.freeze 1 (e':=[(1,_),(0,_)]) Z (.cons Z (.c (.box (cs:=x.cells) Z (aW Z))) (fe [0] Z)) (.skip .nil)) ?_
 refine aB ?_
 refine js Z (jn (ag (ae (ac Z (jf [4,2,1,0] Z (aO Z (zK (x:=x.op) h1 h2) 6000 Z (jn (ak Z (fun z5=>?_) (fun z5=>?_)))))))))
 refine ag (jw [4,1,0] Z (lC [_,_,_,_,_,_,_,_,_] [bC,bb [0],pe [0,1] 0,pn [0,1,2] 1 2,pn [] 0 1,pn [4] 0 1,pe [0,1,2,4,5] 1,pn (rg 0 7) 2 2,pn (rg 0 8) 2 2] [2,6] [_,_,_] (kc Z (kc Z (ai (aP O (B0:=9000) Z Z Z Z (z2) (ah Z) Z Z Z Z Z) (ai (ai (aH (p:=jE x.op) (q:=[32]) O Z Z Z Z Z Z (by show(jE x.op).length+1≤L;omega) (by show L≤_;omega)) (aH (p:=jE x.op) (q:=[32]) O Z Z Z Z Z Z (by show(jE x.op).length+1≤L;omega) (by show L≤_;omega))) (ai (kc Z (V Z)) (ai (kc Z (V Z)) (ai (aP O (B0:=13000) Z Z Z Z (nD (n:=x.a) h1 h2 (by omega) (by omega)) (ah Z) Z Z Z Z Z) (ai (aH (p:=(jE x.op++[32])) (q:=Lib.itoa x.a) O Z Z Z Z Z Z (by rw[bP];show _+1+_≤L;omega) (by show L≤_;omega)) (kc Z trivial))))))))) ?_))
 refine jw [2,4,1,0] Z (nv ?_)
 refine sq ?_
 refine ay Z ?_
 rw[show fU x=jE x.op++[32]++Lib.itoa x.a from if_pos z5]
 refine af (ae (ac Z (jf [15,4,2,1,0] Z (aO Z (z2) 17000 Z (js Z (jf [2,4,1,0] Z (jr ?_)))))))
 refine ay Z ?_
 rw[show fU x=jE x.op from if_neg (by simp[z5])]
def e7(m:Nat):UInt8:=UInt8.ofNat (m%128+128)
theorem kL(m:Nat):((e7 m).toNat:Int)=(m%128:Nat)+128:=by
 unfold e7;rw[UInt8.toNat_ofNat'];omega
theorem jq{m:Nat}(h:128≤m):ck m=e7 m::ck (m/128):=m1 h
theorem du(m:Nat):(m:Int).tdiv 128=((m/128:Nat):Int):=by rw[Int.tdiv_eq_ediv_of_nonneg (by omega)];omega
theorem cE(m:Nat):(m:Int).tmod 128=((m%128:Nat):Int):=by rw[Int.tmod_eq_emod_of_nonneg (by omega)];omega
abbrev oX(s:Str):List (List D):=s.map fun b=>[.int .u8 (b.toNat:Int)]
variable{n:Nat}
theorem wS(hn:n≤1000000000000000):MQ h1 h2 125 [eI (n:Nat)] [] (Plain (aS8 (ck (2*n)))):=by
 refine au ?_ Z
 refine jB 30 h1 h2 Tryz.func125 Z fun O hF=>?_
 have hpl:=cJ (m:=2*n) (by omega)
 refine ae (js Z (be (js Z (aa (ax O Z Z (by omega) (by omega)) Z (js Z (jf [3,2,0] Z (jn (ag (ae (ac Z (jn (ak Z (fun z8=>?_) (fun z8=>?_)))))))))))))
 exact absurd (bc z8) (by omega)
 refine af (ae (aY (HS.lit O Z Z Z) Z (aB ?_)))
 refine js Z (jf [4,7,3,2,0] Z (jn (ag (am (av (X:=Str×Nat) (fun z=>⟨[(3,eI (z.2:Nat)),(4,.c (.rs 900 0 z.1.length))],[(900,.row false 1 (oX z.1))]⟩) (fun z=>z.1++ck z.2=ck (2*n)∧z.2≤2*n) (fun z=>z.2) ([],2*n) ((gy 12 Z).trans ((aL 12 900 Z Z).trans (Ent.to ⟨congrArg (fun z=>some (eI z)) (by omega),Z,ao⟩ Z))) ?_ (fun z hi=>?_))))))
 exact⟨Z,bQ _⟩
 refine ag (ae (ac Z (jn (ak Z (fun z14=>?_) (fun z14=>?_)))))
 refine af (am (ae (ac Z ?_)))
 have hz:128≤z.2:=by have:=bc z14;omega
 have hzl:z.1.length≤10:=by have h:=congrArg List.length hi.1;rw[bP]at h;omega
 refine aa ((cG O Z Z Z Z (by decide) (by rw[cE];omega) (by rw[cE];omega)).cast (v':=eI ((z.2%128:Nat):Int)) (congrArg eI (cE z.2))) Z (aa (ax O Z Z (by omega) (by omega)) Z (aa ((Val.conv (b:=true) (dt:=.int .i64) O Z Z Z (by kernel_rfl) (by kernel_rfl)).cast (v':=.c (.d (.int .u8 ((e7 z.2).toNat:Int)))) (by rw[fE (by omega) (by omega),kL])) Z (jf [19,15,14,13,3,4] Z (aY (bL O Z Z Z Z Z Z Z Z Z Z Z) Z (aB ?_)))))
 refine jf [20,15,14,13,3,4] Z (aY (cZ (own:=false) (xs:=oX z.1) (ys:=[[.int .u8 (((e7 z.2)).toNat:Int)]]) (zs:=oX (z.1++[(e7 z.2)])) (n:=(z.1++[(e7 z.2)]).length) O Z (.row Z (bd _).symm) (.whole Z Z (.inr ⟨Z,Z⟩)) (by simp) Z (by simp;omega) (by simp;omega) (by simp) (by simp)) Z (aB ?_))
 refine aB ?_
 refine js Z (jf [4,14,13,3] Z (jn (ab (js Z (aa ((dI O Z Z Z Z (by decide) (by rw[du];omega) (by rw[du];omega)).cast (v':=eI ((z.2/128:Nat):Int)) (congrArg eI (du z.2))) Z (js Z (jf [3,4,14,13] Z (jn ?_))))))))
 refine⟨(z.1++[(e7 z.2)],z.2/128),((aC [21] (e':=[(3,_),(4,_)]) Z Z ⟨Z,Z,ao⟩ Z).trans (aL 21 900 Z Z)).trans (Ent.to ⟨Z,Z,ao⟩ Z),⟨?_,by show z.2/128≤2*n;omega⟩,by show z.2/128<z.2;omega⟩
 show(z.1++[(e7 z.2)])++ck (z.2/128)=ck (2*n)
 rw[←hi.1,jq hz];simp
 refine aJ (ae (ac Z ?_))
 have hz:z.2<128:=by have:=bw z14;omega
 have hzl:z.1.length≤10:=by have h:=congrArg List.length hi.1;rw[bP]at h;omega
 have hlast:=hi.1
 rw[fF hz]at hlast
 refine aa ((Val.conv (b:=true) (dt:=.int .i64) O Z Z Z (by kernel_rfl) (by kernel_rfl)).cast (v':=.c (.d (.int .u8 ((UInt8.ofNat z.2).toNat:Int)))) (by rw[fE (by omega) (by omega),UInt8.toNat_ofNat'];exact congrArg (fun n:Int=>A.c (.d (.int .u8 n))) (by omega))) Z (jf [26,24,14,13,3,4] Z (aY (bL O Z Z Z Z Z Z Z Z Z Z Z) Z (aB ?_)))
 refine jf [27,24,14,13,3,4] Z (aY (cZ (own:=false) (xs:=oX z.1) (ys:=[[.int .u8 (((UInt8.ofNat z.2)).toNat:Int)]]) (zs:=oX (z.1++[(UInt8.ofNat z.2)])) (n:=(z.1++[(UInt8.ofNat z.2)]).length) O Z (.row Z (bd _).symm) (.whole Z Z (.inr ⟨Z,Z⟩)) (by simp) Z (by simp;omega) (by simp;omega) (by simp) (by simp)) Z (aB ?_))
 refine aB ?_
 refine aa (eF (p:=z.1++[UInt8.ofNat z.2]) O Z Z Z (.whole Z (by simp) (.inl (f7 _))) Z Z (by kernel_rfl) (by kernel_rfl)) Z (js Z (jf [2,14,13,3,4] Z (jr ?_)))
 refine ay Z ?_
 rw[←hlast]
theorem zP(hn:n≤1000000000000000):MQ h1 h2 119 [eI (n:Nat)] [] (Plain (eB true)):=by
 refine au ?_ Z
 refine jB 5 h1 h2 Tryz.func119 Z fun O hF=>?_
 refine ae (js Z (be (js Z (jf [3,2] Z (aO Z ((lI (x:=(n:Int)) (lo:= -1000000000000000) (hi:=1000000000000000) h1 h2).plain (u:=eB true) (congrArg eB (by simp;omega))) 5000 Z (js Z (jf [2] Z (jr ?_))))))))
 refine ay Z ?_
 rfl
theorem qE(hn:n≤1000000000000000):MQ h1 h2 76 [eI (n:Nat)] [] (Plain (.tup [aS8 (ck (2*n)),eB true])):=by
 refine jB 9 h1 h2 Tryz.func76 Z fun O hF=>?_
 refine ae (ac Z (jn (ag (ae (js Z (aO Z (zP (n:=n) h1 h2 hn) 6000 Z (js Z (jf [6,3,2,0] Z (jn (ak Z (fun z6=>?_) (fun z6=>?_)))))))))))
 exact absurd z6 (by decide)
 refine af (ae (js Z (jf [7,3,2,0] Z (aO Z (wS (n:=n) h1 h2 hn) 9000 Z (ac Z (jf [3,2,0] Z (jr ?_)))))))
 refine⟨.inl Z,_,(aC [] (e':=[(2,_),(3,_)]) Z Z ⟨Z,Z,ao⟩ Z),_,Z,?_⟩
 exact⟨Z,Z⟩
theorem zQ{s:Str}(hs:s.length≤40000)(hL:1048576<L):MQ h1 h2 124 [aS8 s] [] (Plain (aS8 (fT s))):=by
 refine au ?_ Z
 refine jB 8 h1 h2 Tryz.func124 Z fun O hF=>?_
 refine ae (js Z (be (js Z (aa (aI (p:=s) O Z Z Z Z Z Z Z Z Z) Z (jf [4,2,0] Z (aO Z (wS (n:=s.length) h1 h2 (by omega)) 6000 Z (js Z ?_)))))))
 have hpl:=cJ (m:=2*s.length) (by omega)
 refine aa (aH (p:=ck (2*s.length)) (q:=s) O Z Z Z Z Z Z (by show _+s.length≤L;omega) (by show L≤_;omega)) Z (js Z (jf [2] Z (jr ?_)))
 refine ay Z ?_
 rfl
theorem lN{s:Str}(hs:s.length≤40000)(hL:1048576<L):MQ h1 h2 75 [aS8 s] [] (Plain (.tup [aS8 (fT s),eB true])):=by
 refine jB 9 h1 h2 Tryz.func75 Z fun O hF=>?_
 refine ae (ac Z (jn (ag (ae (js Z (aa (aI (p:=s) O Z Z Z Z Z Z Z Z Z) Z (js Z (jf [6,3,2,0] Z (jn (ak Z (fun z6=>?_) (fun z6=>?_)))))))))))
 exact absurd (bc z6) (by omega)
 refine af (ae (js Z (jf [7,3,2,0] Z (aO Z (zQ (s:=s) h1 h2 hs hL) 9000 Z (ac Z (jf [3,2,0] Z (jr ?_)))))))
 refine⟨.inl Z,_,(aC [] (e':=[(2,_),(3,_)]) Z Z ⟨Z,Z,ao⟩ Z),_,Z,?_⟩
 exact⟨Z,Z⟩
theorem cD(m:Nat):(m:Int).tmod 65521=((m%65521:Nat):Int):=by rw[Int.tmod_eq_emod_of_nonneg (by omega)];omega
theorem zO{s:Str}(hs:s.length≤L):MQ h1 h2 126 [aS8 s] [] (Plain (eI (kt s:Nat))):=by
 refine au ?_ Z
 refine jB 27 h1 h2 Tryz.func126 Z fun O hF=>?_
 refine ae (js Z (be (js Z (be (js Z (jn (ag (ae (js Z (jn (am (av (X:=Nat) (fun i=>⟨[(0,aS8 s),(3,eI ((jI (s.take i)).1:Nat)),(4,eI ((jI (s.take i)).2:Nat)),(5,eI i)],[]⟩) (fun i=>i≤s.length) (fun i=>s.length-i) 0 (Ent.to ⟨Z,Z,Z,Z,ao⟩ Z) ?_ (fun i hi=>?_)))))))))))))
 exact ca _
 refine ag (ae (ac Z (aa (aI (p:=s) O Z Z Z Z Z Z Z Z Z) Z (js Z (jf [9,0,3,4,5] Z (jn (ak Z (fun z9=>?_) (fun z9=>?_))))))))
 refine af (ag (am (ae (aF Z ?_))))
 have hi0:i<s.length:=by have:=bc z9;omega
 have hck:=kZ hi0
 have hlt:=kE (s:=s) (i:=i) (by omega)
 have hu8:=(s.getD i 0).toNat_lt
 refine aa (aA (p:=s) (b:=s.getD i 0) O Z Z Z Z Z Z Z (by omega) (aX hi0)) Z (aa ((Val.conv (b:=true) (dt:=.int .u8) O Z Z Z (by kernel_rfl) (by kernel_rfl)).cast (v':=eI (((s.getD i 0).toNat:Nat):Int)) (by rw[cq .i64 _ (by show(-9223372036854775808:Int)≤_;omega) (by show _≤(9223372036854775807:Int);omega)])) Z (aa ((ax O Z Z (by omega) (by omega)).cast (v':=eI (((jI (s.take i)).1+(s.getD i 0).toNat:Nat):Int)) (congrArg eI (by omega))) Z (aa ((cG O Z Z Z Z (by decide) (by rw[cD];omega) (by rw[cD];omega)).cast (v':=eI ((((jI (s.take i)).1+(s.getD i 0).toNat)%65521:Nat):Int)) (congrArg eI (cD _))) Z (js Z (jf [3,9,0,4,5] Z (jn (ab (ac Z (aa ((ax O Z Z (by omega) (by omega)).cast (v':=eI (((jI (s.take i)).2+((jI (s.take i)).1+(s.getD i 0).toNat)%65521:Nat):Int)) (congrArg eI (by omega))) Z (aa ((cG O Z Z Z Z (by decide) (by rw[cD];omega) (by rw[cD];omega)).cast (v':=eI ((((jI (s.take i)).2+((jI (s.take i)).1+(s.getD i 0).toNat)%65521)%65521:Nat):Int)) (congrArg eI (cD _))) Z (js Z (jf [4,3,9,0,5] Z (jn (ab (js Z ?_)))))))))))))))
 first|refine ji Z ?_|refine aU Z Z ?_
 refine js Z (jf [5,4,3,9,0] Z (jn ?_))
 refine⟨i+1,Ent.to ⟨Z,?_,?_,Z,ao⟩ Z,by omega,by omega⟩
 exact congrArg (fun n:Nat=>some (eI (n:Int))) (by rw[hck])
 exact congrArg (fun n:Nat=>some (eI (n:Int))) (by rw[hck])
 refine aJ (ae (ac Z ?_))
 obtain rfl:i=s.length:=by have:=bw z9;omega
 have hlt:=kE (s:=s) (bQ _)
 rw[List.take_length]at hlt ⊢
 refine aa (ax O Z Z (by omega) (by omega)) Z (aa ((ax O Z Z (by omega) (by omega)).cast (v':=eI (kt s:Nat)) (congrArg eI (by unfold kt;omega))) Z (js Z (jf [2,9,0,3,4,5] Z (jr ?_))))
 refine ay Z ?_
 rfl
theorem wV{s:Str}(hs:s.length≤L):MQ h1 h2 77 [aS8 s] [] (Plain (eI (kt s:Nat))):=by
 refine au ?_ Z
 refine jB 5 h1 h2 Tryz.func77 Z fun O hF=>?_
 refine ae (js Z (be (js Z (jf [3,2] Z (aO Z (zO (s:=s) h1 h2 hs) 5000 Z (js Z (jf [2] Z (jr ?_))))))))
 refine ay Z ?_
 rfl
theorem zS{s:Str}(hs:s.length≤L):MQ h1 h2 48 [aS8 s] [] (Plain (eI (kt s:Nat))):=by
 refine au ?_ Z
 refine jB 27 h1 h2 Tryz.func48 Z fun O hF=>?_
 refine ae (js Z (be (ac Z (jn (ag (ae (js Z (jn (am (av (X:=Nat) (fun i=>⟨[(0,aS8 s),(3,eI ((jI (s.take i)).1:Nat)),(4,eI ((jI (s.take i)).2:Nat)),(5,eI i)],[]⟩) (fun i=>i≤s.length) (fun i=>s.length-i) 0 (Ent.to ⟨Z,Z,Z,Z,ao⟩ Z) ?_ (fun i hi=>?_)))))))))))
 exact ca _
 refine ag (ae (ac Z (aa (aI (p:=s) O Z Z Z Z Z Z Z Z Z) Z (js Z (jf [9,0,3,4,5] Z (jn (ak Z (fun z9=>?_) (fun z9=>?_))))))))
 refine af (ag (am (ae (aF Z ?_))))
 have hi0:i<s.length:=by have:=bc z9;omega
 have hck:=kZ hi0
 have hlt:=kE (s:=s) (i:=i) (by omega)
 have hu8:=(s.getD i 0).toNat_lt
 refine aa (aA (p:=s) (b:=s.getD i 0) O Z Z Z Z Z Z Z (by omega) (aX hi0)) Z (aa ((Val.conv (b:=true) (dt:=.int .u8) O Z Z Z (by kernel_rfl) (by kernel_rfl)).cast (v':=eI (((s.getD i 0).toNat:Nat):Int)) (by rw[cq .i64 _ (by show(-9223372036854775808:Int)≤_;omega) (by show _≤(9223372036854775807:Int);omega)])) Z (aa ((ax O Z Z (by omega) (by omega)).cast (v':=eI (((jI (s.take i)).1+(s.getD i 0).toNat:Nat):Int)) (congrArg eI (by omega))) Z (aa ((cG O Z Z Z Z (by decide) (by rw[cD];omega) (by rw[cD];omega)).cast (v':=eI ((((jI (s.take i)).1+(s.getD i 0).toNat)%65521:Nat):Int)) (congrArg eI (cD _))) Z (js Z (jf [3,9,0,4,5] Z (jn (ab (ac Z (aa ((ax O Z Z (by omega) (by omega)).cast (v':=eI (((jI (s.take i)).2+((jI (s.take i)).1+(s.getD i 0).toNat)%65521:Nat):Int)) (congrArg eI (by omega))) Z (aa ((cG O Z Z Z Z (by decide) (by rw[cD];omega) (by rw[cD];omega)).cast (v':=eI ((((jI (s.take i)).2+((jI (s.take i)).1+(s.getD i 0).toNat)%65521)%65521:Nat):Int)) (congrArg eI (cD _))) Z (js Z (jf [4,3,9,0,5] Z (jn (ab (js Z ?_)))))))))))))))
 first|refine ji Z ?_|refine aU Z Z ?_
 refine js Z (jf [5,4,3,9,0] Z (jn ?_))
 refine⟨i+1,Ent.to ⟨Z,?_,?_,Z,ao⟩ Z,by omega,by omega⟩
 exact congrArg (fun n:Nat=>some (eI (n:Int))) (by rw[hck])
 exact congrArg (fun n:Nat=>some (eI (n:Int))) (by rw[hck])
 refine aJ (ae (ac Z ?_))
 obtain rfl:i=s.length:=by have:=bw z9;omega
 have hlt:=kE (s:=s) (bQ _)
 rw[List.take_length]at hlt ⊢
 refine aa (ax O Z Z (by omega) (by omega)) Z (aa ((ax O Z Z (by omega) (by omega)).cast (v':=eI (kt s:Nat)) (congrArg eI (by unfold kt;omega))) Z (js Z (jf [2,9,0,3,4,5] Z (jr ?_))))
 refine ay Z ?_
 rfl
theorem zR{s:Str}:MQ h1 h2 123 [aS8 s] [] (Plain (eB (mw s))):=by
 refine au ?_ Z
 refine jB 28 h1 h2 Tryz.func123 Z fun O hF=>?_
 have hsl:s.length≤L:=by have h:=hF;simp only[As.fact,A.fact,M.fact,D.fact,bS_size]at h;exact h.1
 refine ae (js Z (jn (ag (ae (js Z (jn (am (av (X:=Nat) (fun i=>⟨[(0,aS8 s),(3,eI i)],[]⟩) (fun i=>i≤s.length∧∀j,j<i→rx (s.getD j 0)=true) (fun i=>s.length-i) 0 (Ent.to ⟨Z,Z,ao⟩ Z) ?_ (fun i hi=>?_)))))))))
 exact⟨ca _,fun j hj=>absurd hj (Nat.not_lt_zero j)⟩
 refine ag (ae (ac Z (aa (aI (p:=s) O Z Z Z Z Z Z Z Z Z) Z (js Z (jf [7,0,3] Z (jn (ak Z (fun z7=>?_) (fun z7=>?_))))))))
 refine af (ag (am (ae (ac Z ?_))))
 have hi0:i<s.length:=by have:=bc z7;omega
 refine aa (aA (p:=s) (b:=s.getD i 0) O Z Z Z Z Z Z Z (by omega) (aX hi0)) Z (ac Z (jf [14,7,0,3] Z (ar 4 Z Z Z (fun hx=>aq hx Z (aq hx Z (bf hx (aA (p:=s) (b:=s.getD i 0) O Z Z Z Z Z Z Z (by omega) (aX hi0)) Z (aq hx Z (AN.nil))))) Z Z ?_)))
 first|refine aa (al O Z Z Z Z Z) Z ?_|refine aa (Val.pickB O Z Z Z Z Z) Z ?_|refine aa (aj O Z Z Z Z Z) Z ?_
 refine jf [19,7,0,3] Z (jn (ak Z (fun z19=>?_) (fun z19=>?_)))
 refine ae (js Z (jr ?_))
 refine ay Z ?_
 have h9:rx (s.getD i 0)=false:=by have:=z19;rw[qy]at this;simpa using this
 rw[tD (by omega) h9]
 refine af (ab (js Z ?_))
 first|refine ji Z ?_|refine aU Z Z ?_
 refine js Z (jf [3,19,7,0] Z (jn ?_))
 have h9:rx (s.getD i 0)=true:=by have:=z19;rw[qy]at this;simpa using this
 refine⟨i+1,Ent.to ⟨Z,Z,ao⟩ Z,⟨by omega,fun j hj=>?_⟩,by omega⟩
 by_cases e:j=i
 subst e;exact h9
 exact hi.2 j (by omega)
 refine aJ (ae (js Z ?_))
 obtain rfl:i=s.length:=by have:=bw z7;omega
 refine aa (aI (p:=s) O Z Z Z Z Z Z Z Z Z) Z (ac Z (jf [23,7,0,3] Z (ar 3 Z Z Z (fun hx=>aq hx Z (bf hx (aI (p:=s) O Z Z Z Z Z Z Z Z Z) Z (aq hx Z (AN.nil)))) Z Z ?_)))
 first|refine aa (aj O Z Z Z Z Z) Z ?_|refine aa (al O Z Z Z Z Z) Z ?_|refine aa (Val.pickB O Z Z Z Z Z) Z ?_
 refine js Z (jf [2,7,0,3] Z (jr ?_))
 refine ay Z ?_
 rw[tA hi.2]
 exact congrArg eB (by cases decide ((1:Int)≤s.length)<;>rfl)
theorem zY{s:Str}:MQ h1 h2 74 [aS8 s] [] (Plain (eB (mw s))):=by
 refine au ?_ Z
 refine jB 5 h1 h2 Tryz.func74 Z fun O hF=>?_
 refine ae (js Z (be (js Z (jf [3,2] Z (aO Z (zR (s:=s) h1 h2) 5000 Z (js Z (jf [2] Z (jr ?_))))))))
 refine ay Z ?_
 rfl
theorem zX{s:Str}:MQ h1 h2 42 [aS8 s] [] (Plain (eB (mw s))):=by
 refine au ?_ Z
 refine jB 25 h1 h2 Tryz.func42 Z fun O hF=>?_
 have hsl:s.length≤L:=by have h:=hF;simp only[As.fact,A.fact,M.fact,D.fact,bS_size]at h;exact h.1
 refine ae (js Z (jn (ag (ae (js Z (aa (aI (p:=s) O Z Z Z Z Z Z Z Z Z) Z (jf [5,2,0] Z (aO Z (mC (n:=(s.length:Int)) h1 h2) 7000 Z (jf [6,2,0] Z (aO Z (iu (x:=(s.length:Int)) (lo:=1) (hi:=10) h1 h2) 8000 Z (js Z (jf [8,2,0] Z (jn (ak Z (fun z8=>?_) (fun z8=>?_)))))))))))))))
 refine ae (js Z (jr ?_))
 refine ay Z ?_
 have h9:cQ 1 10 (s.length:Int)=false:=by simpa using z8
 unfold cQ at h9
 rw[show mw s=false by unfold mw;rw[h9];rfl]
 refine af (ag (ae (js Z (jn (am (av (X:=Nat) (fun i=>⟨[(0,aS8 s),(3,eI i)],[]⟩) (fun i=>i≤s.length∧∀j,j<i→rx (s.getD j 0)=true) (fun i=>s.length-i) 0 (Ent.to ⟨Z,Z,ao⟩ Z) ?_ (fun i hi=>?_)))))))
 exact⟨ca _,fun j hj=>absurd hj (Nat.not_lt_zero j)⟩
 refine ag (ae (ac Z (aa (aI (p:=s) O Z Z Z Z Z Z Z Z Z) Z (js Z (jf [12,0,3] Z (jn (ak Z (fun z12=>?_) (fun z12=>?_))))))))
 refine af (ag (am (ae (ac Z ?_))))
 have hi0:i<s.length:=by have:=bc z12;omega
 refine aa (aA (p:=s) (b:=s.getD i 0) O Z Z Z Z Z Z Z (by omega) (aX hi0)) Z (ac Z (jf [19,12,0,3] Z (ar 4 Z Z Z (fun hx=>aq hx Z (aq hx Z (bf hx (aA (p:=s) (b:=s.getD i 0) O Z Z Z Z Z Z Z (by omega) (aX hi0)) Z (aq hx Z (AN.nil))))) Z Z ?_)))
 first|refine aa (al O Z Z Z Z Z) Z ?_|refine aa (Val.pickB O Z Z Z Z Z) Z ?_|refine aa (aj O Z Z Z Z Z) Z ?_
 refine jf [24,12,0,3] Z (jn (ak Z (fun z24=>?_) (fun z24=>?_)))
 refine ae (js Z (jr ?_))
 refine ay Z ?_
 have h9:rx (s.getD i 0)=false:=by have:=z24;rw[qy]at this;simpa using this
 rw[tD (by omega) h9]
 refine af (ab (js Z ?_))
 first|refine ji Z ?_|refine aU Z Z ?_
 refine js Z (jf [3,24,12,0] Z (jn ?_))
 have h9:rx (s.getD i 0)=true:=by have:=z24;rw[qy]at this;simpa using this
 refine⟨i+1,Ent.to ⟨Z,Z,ao⟩ Z,⟨by omega,fun j hj=>?_⟩,by omega⟩
 by_cases e:j=i
 subst e;exact h9
 exact hi.2 j (by omega)
 refine aJ (ae (js Z (jr ?_)))
 refine ay Z ?_
 obtain rfl:i=s.length:=by have:=bw z12;omega
 have h9:cQ 1 10 (s.length:Int)=true:=by simpa using z8
 unfold cQ at h9
 rw[tA hi.2,h9]
theorem uk{p:Str}{ts:List Tm}{i:Nat}(h:i<ts.length):bz 10 (ch p (ts.take (i+1)))=bz 10 (ch p (ts.take i))++(p++[32]++tS (ts.getD i default)++[10]):=by
 rw[List.take_succ_eq_append_getElem h,getD_lt h]
 unfold ch
 rw[List.map_append,List.map_cons,List.map_nil,ct]
 simp[bz]
theorem xU{p:Str}{ts:List Tm}{i:Nat}(hp:p.length≤4)(h:terms ts 6=true):(bz 10 (ch p (ts.take i))).length≤306:=by
 refine fc hp ?_
 unfold terms at h ⊢
 simp only[bK,decide_eq_true_eq,List.all_eq_true]at h ⊢
 exact⟨fun t ht=>h.1 t (List.mem_of_mem_take ht),by rw[List.length_take];omega⟩
variable{ts:List Tm}
theorem sS{p:Str}(hp:p.length≤4)(ht:terms ts 6=true):MQ h1 h2 117 [aS8 p,gB ts] [] (Plain (aS8 (bz 10 (ch p ts)))):=by
 refine au ?_ Z
 refine jB 24 h1 h2 Tryz.func117 Z fun O hF=>?_
 obtain⟨htm,htl⟩:=terms_sp (n:=6) ht
 have hl:ts.length≤L:=by omega
 refine ae (js Z (be (js Z (jn (ag (ae (js Z (jn (am (av (X:=Nat) (fun i=>⟨[(0,aS8 p),(1,gB ts),(5,aS8 (bz 10 (ch p (ts.take i)))),(6,eI i)],[]⟩) (fun i=>i≤ts.length) (fun i=>ts.length-i) 0 (Ent.to ⟨Z,Z,Z,Z,ao⟩ Z) ?_ (fun i hi=>?_)))))))))))
 exact ca _
 refine ag (ae (ac Z ?_))
 first|refine cm Z ?_|refine js Z ?_|refine aU Z Z ?_
 refine js Z (jf [10,0,1,5,6] Z (jn (ak Z (fun z10=>?_) (fun z10=>?_))))
 refine af (ag (am (ab ?_)))
 have hi0:i<ts.length:=by have:=bc z10;omega
 have hti:(ts.getD i default).term=true:=by rw[getD_lt hi0];exact htm _ (List.getElem_mem hi0)
 have hok:(ts.getD i default).ok=true:=by unfold Tm.term at hti;simp only[bK]at hti;exact hti.1
 have htl4:=mX hti
 have hO:=xU (i:=i) hp ht
 refine ac Z (aa (aH (p:=p) (q:=[32]) O Z Z Z Z Z Z (by show p.length+1≤L;omega) (by show L≤_;omega)) Z (ac Z (aa (aE O Z Z Z Z Z Z Z Z (cb hi0)) Z (jf [18,15,13,10,0,1,5,6] Z (aZ O Z Z Z Z (qG (t:=(ts.getD i default)) h1 h2 hok) (.cons (.c (.sub Z)) .nil) Z Z Z Z Z (B0:=20000) Z (aa (aH (p:=(p++[32])) (q:=(tS (ts.getD i default))) O Z Z Z Z Z Z (by rw[bP];show p.length+1+_≤L;omega) (by show L≤_;omega)) Z (aa (aH (p:=(p++[32]++tS (ts.getD i default))) (q:=[10]) O Z Z Z Z Z Z (by rw[bP,bP];show p.length+1+_+1≤L;omega) (by show L≤_;omega)) Z (aa (aH (p:=(bz 10 (ch p (ts.take i)))) (q:=(p++[32]++tS (ts.getD i default)++[10])) O Z Z Z Z Z Z (by rw[bP,bP,bP];show _+(p.length+1+_+1)≤L;omega) (by show L≤_;omega)) Z (js Z (jf [5,10,0,1,6] Z (jn (ab (js Z ?_)))))))))))))
 first|refine ji Z ?_|refine aU Z Z ?_
 refine js Z (jf [6,5,10,0,1] Z (jn ?_))
 refine⟨i+1,Ent.to ⟨Z,Z,?_,Z,ao⟩ Z,by omega,by omega⟩
 exact congrArg (fun s=>some (aS8 s)) (uk hi0).symm
 refine aJ (ae (ac Z (jr ?_)))
 refine ay Z ?_
 obtain rfl:i=ts.length:=by have:=bw z10;omega
 rw[List.take_length]
variable{a:An}
theorem Am{k:Int}:MQ h1 h2 118 [ptr a.data,eI k] [] (Plain (eI (gd (fun p:Pt=>decide (p.k=k)) a.pts))):=by
 refine au ?_ Z
 refine jB 26 h1 h2 Tryz.func118 Z fun O hF=>?_
 have hlp:a.pts.length≤L:=by simpa[As.fact,A.fact,M.fact,D.fact,Ds.fact]using hF.1.2.2.2.1.1
 refine ae (js Z (jn (ag (ae (js Z (jn (am (av (X:=Nat) (fun i=>⟨[(0,ptr a.data),(1,eI k),(5,eI i)],[]⟩) (fun i=>i≤a.pts.length∧∀j (h:j<a.pts.length),j<i→(fun p:Pt=>decide (p.k=k)) a.pts[j]=false) (fun i=>a.pts.length-i) 0 (Ent.env ⟨Z,Z,Z,ao⟩) ?_ (fun i hi=>?_)))))))))
 exact⟨ca _,fun j h hj=>absurd hj (Nat.not_lt_zero j)⟩
 refine ag (ae (aM Z (js Z ?_)))
 first|refine cm Z ?_|refine js Z ?_|refine aU Z Z ?_
 refine js Z (jf [12,0,1,5] Z (jn (ak Z (fun z12=>?_) (fun z12=>?_))))
 refine af (ag (am (ae ?_)))
 have hil:i<a.pts.length:=by have:=bc z12;omega
 refine aM Z (js Z ?_)
 first|refine uG Z Z ?_|refine lA Z Z ?_|refine aU Z Z ?_
 refine aM Z (jf [24,12,0,1,5] Z (jn (ak Z (fun z24=>?_) (fun z24=>?_))))
 refine ae (ac Z (jr ?_))
 refine ay Z ?_
 rw[show gd (fun p:Pt=>decide (p.k=k)) a.pts=i from gS hil hi.2 (by rw[←getD_lt hil];exact z24)]
 refine af (ab (js Z ?_))
 first|refine ji Z ?_|refine aU Z Z ?_
 refine js Z (jf [5,24,12,0,1] Z (jn ?_))
 refine⟨i+1,Ent.env ⟨Z,Z,Z,ao⟩,⟨by omega,fun j h hj=>?_⟩,by omega⟩
 by_cases e:j=i
 subst e;rw[←getD_lt h];exact z24
 exact hi.2 j h (by omega)
 refine aJ (ae (js Z (jr ?_)))
 refine ay Z ?_
 have h9:=bw z12
 rw[show gd (fun p:Pt=>decide (p.k=k)) a.pts= -1 from gR fun j hj=>hi.2 j hj (by omega)]
theorem ra{α:Type}{p:α→Bool}{l:List α}:gd p l=match l.findIdx? p with
 | none=> -1
 | some i=>(i:Int):=by
 cases h:l.findIdx? p with
 | none=>
  rw[List.findIdx?_eq_none_iff]at h
  exact gR fun j hj=>h _ (List.getElem_mem hj)
 | some i=>
  obtain⟨h1,h2⟩:=List.findIdx?_eq_some_iff_findIdx_eq.1 h
  obtain⟨h3,h4⟩:=(List.findIdx_eq h1).1 h2
  exact gS h1 (fun j hj hji=>by have:=h4 j hji;simpa using this) h3
theorem pM{a:An}{i:Nat}(h:gd (fun p:Pt=>decide (p.k=(i:Int))) a.pts<0):sn a i=[fU (a.code.getD i default)]:=by
 rw[ra]at h
 unfold sn
 cases hx:a.pts.findIdx? (fun p=>decide (p.k=(i:Int)))with
 | none=>rfl
 | some k=>
  rw[hx]at h
  have h2:(k:Int)<0:=h
  omega
theorem kF{a:An}{i k:Nat}(h:gd (fun p:Pt=>decide (p.k=(i:Int))) a.pts=(k:Int)):k<a.pts.length∧sn a i=bT::ch jD (a.pts.getD k default).fs++[fU (a.code.getD i default)]:=by
 rw[ra]at h
 unfold sn
 cases hx:a.pts.findIdx? (fun p=>decide (p.k=(i:Int)))with
 | none=>
  rw[hx]at h
  have h2:(-1:Int)=(k:Int):=h
  omega
 | some j=>
  rw[hx]at h
  obtain rfl:j=k:=by have h':(j:Int)=k:=h;omega
  exact⟨(List.findIdx?_eq_some_iff_findIdx_eq.1 hx).1,Z⟩
theorem iB{α:Type}{p:α→Bool}{l:List α}(h:0≤gd p l): ∃k:Nat,gd p l=k:=⟨_,(Int.toNat_of_nonneg h).symm⟩
def yw(a:An):Str:=bz 10 (ch cr a.pre)++bz 10 (ch bR a.post)
def sb(a:An)(i:Nat):Str:=yw a++bz 10 (dj a i)
theorem u3{a:An}:sb a a.code.length=cH a:=by
 unfold sb yw cH f1
 rw[ct,ct]
theorem t0{a:An}{i:Nat}:sb a (i+1)=sb a i++bz 10 (sn a i):=by
 unfold sb
 rw[dj,ct,dh]
theorem vK{a:An}(h:dC a=true):(yw a).length≤612:=by
 obtain⟨_,_,_,h3,h4,_,_⟩:=annB_sp h
 have q1:=fc (w:=cr) (by decide) h3
 have q2:=fc (w:=bR) (by decide) h4
 unfold yw
 rw[bP];omega
theorem uZ{a:An}(h:dC a=true){i:Nat}(hi:i≤a.code.length):(sb a i).length≤28000:=by
 have h1:=vK h
 have h2:=k0 h hi
 obtain⟨_,h3,_⟩:=annB_sp h
 unfold sb
 rw[bP];omega
theorem sT(hv:dC a=true)(hL:1048576<L):MQ h1 h2 68 [ptr a.data] [] (Plain (aS8 (cH a))):=by
 refine au ?_ Z
 refine jB 55 h1 h2 Tryz.func68 Z fun O hF=>?_
 obtain⟨hin,hcl,hcl1,htp,hto,hpl,hpf⟩:=annB_sp hv
 have hl:a.code.length≤L:=by omega
 have hlp:a.pts.length≤L:=by omega
 have q1:=fc (w:=cr) (by decide) htp
 have q2:=fc (w:=bR) (by decide) hto
 refine ae (js Z (jn (ag (lC [_,_,_,_,_,_,_,_,_,_,_,_] [bC,bb [0],bb [0,1],bb [0,1,2],pe (rg 0 4) 0,pn [] 0 1,pn [5] 0 1,pn [5,6] 0 1,pn [5,6,7] 0 1,pe (rg 0 9) 1,pn (rg 0 10) 2 2,pn (rg 0 11) 2 2] [4,9] [_,_,_] (uM Z (ai (aP O (B0:=11000) Z Z Z Z (sS (p:=cr) (ts:=a.pre) h1 h2 (by decide) htp) (.cons (.c .d) (.cons (.c .d) .nil)) Z Z Z Z Z) (ai (kc Z (V Z)) (ai (kc Z (V Z)) (ai (kc Z (V Z)) (ai (kc Z (V Z)) (ai (aP O (B0:=16000) Z Z Z Z (sS (p:=bR) (ts:=a.post) h1 h2 (by decide) hto) (.cons (.c .d) (.cons (.c .d) .nil)) Z Z Z Z Z) (ai (aH (p:=(bz 10 (ch cr a.pre))) (q:=(bz 10 (ch bR a.post))) O Z Z Z Z Z Z (by show _+_≤L;omega) (by show L≤_;omega)) (kc Z trivial))))))))) ?_))))
 refine jw [3,2,0] Z (nv ?_)
 refine ag (ae (js Z (jn (am (av (X:=Nat) (fun i=>⟨[(0,ptr a.data),(3,aS8 (sb a i)),(4,eI i)],[]⟩) (fun i=>i≤a.code.length) (fun i=>a.code.length-i) 0 (Ent.to ⟨Z,congrArg (fun s=>some (aS8 s)) (by unfold sb yw;simp[dj,bz]),Z,ao⟩ Z) ?_ (fun i hi=>?_))))))
 exact ca _
 refine ag (ae (aM Z (js Z ?_)))
 first|refine cm Z ?_|refine js Z ?_|refine aU Z Z ?_
 refine js Z (jf [23,0,3,4] Z (jn (ak Z (fun z23=>?_) (fun z23=>?_))))
 refine af (ag (am (ae ?_)))
 have hi0:i<a.code.length:=by have:=bc z23;omega
 have hAl:=uZ hv (i:=i) (by omega)
 have hil:=m5 (hin i hi0)
 refine ac Z (aO Z (Am (a:=a) (k:=(i:Int)) h1 h2) 29000 Z (js Z (jf [5,23,0,3,4] Z (jn (ag (ae (ac Z (jn ?_))))))))
 obtain⟨M,hM0,hM1,hMl,hmid⟩: ∃M:Str,((gd (fun p:Pt=>decide (p.k=(i:Int))) a.pts)<0→M=[])∧(∀k:Nat,(gd (fun p:Pt=>decide (p.k=(i:Int))) a.pts)=k→M=(bT++[10]++bz 10 (ch jD (a.pts.getD k default).fs)))∧M.length≤320∧M++(fU (a.code.getD i default)++[10])=bz 10 (sn a i):=by
  have hcl3:=rj hv hi0
  by_cases h:(gd (fun p:Pt=>decide (p.k=(i:Int))) a.pts)<0
  exact⟨[],fun _=>rfl,fun k hk=>by omega,by simp,by rw[pM h];simp[bz]⟩
  obtain⟨k,hk⟩:=iB (show 0≤(gd (fun p:Pt=>decide (p.k=(i:Int))) a.pts) by omega)
  obtain⟨hk1,hk2⟩:=kF hk
  have e:(bT++[10]++bz 10 (ch jD (a.pts.getD k default).fs))++(fU (a.code.getD i default)++[10])=bz 10 (sn a i):=by rw[hk2];simp[bz,ct]
  refine⟨_,fun h9=>by omega,fun j hj=>by rw[show j=k by omega],?_,e⟩
  have:=congrArg List.length e
  have hg:=fc (w:=jD) (by decide) (hpf k hk1)
  rw[bP,bP];show 5+1+_≤320;omega
 refine bl ⟨[(0,ptr a.data),(3,aS8 (sb a i++M)),(4,eI i)],[]⟩ ?_ ?_
 refine ak Z (fun z30=>?_) (fun z30=>?_)
 refine ab ?_
 obtain⟨k,hk⟩:=iB (show 0≤(gd (fun p:Pt=>decide (p.k=(i:Int))) a.pts) by simpa using z30)
 obtain⟨hk1,_⟩:=kF hk
 have hgl:=fc (w:=jD) (by decide) (hpf k hk1)
 rw[hk]
 refine aM Z (ac Z (aa (aE O Z Z Z Z Z Z Z Z (cb hk1)) Z (ac Z (jf [39,31,30,29,5,23,0,3,4] Z (aO Z (sS (p:=jD) (ts:=(a.pts.getD k default).fs) h1 h2 (by decide) (hpf k hk1)) 41000 Z (aa (aH (p:=(bT++[10])) (q:=(bz 10 (ch jD (a.pts.getD k default).fs))) O Z Z Z Z Z Z (by show 6+_≤L;omega) (by show L≤_;omega)) Z (aa (aH (p:=(sb a i)) (q:=(bT++[10]++bz 10 (ch jD (a.pts.getD k default).fs))) O Z Z Z Z Z Z (by rw[bP,bP];show _+(6+_)≤L;omega) (by show L≤_;omega)) Z (js Z (jf [3,30,29,5,23,0,4] Z (jn ?_))))))))))
 exact⟨Z,Ent.to ⟨Z,congrArg (fun s=>some (aS8 s)) (by rw[hM1 k hk]),Z,ao⟩ Z⟩
 refine af ?_
 exact⟨Z,Ent.to ⟨Z,congrArg (fun s=>some (aS8 s)) (by rw[hM0 (by simpa using z30),List.append_nil]),Z,ao⟩ Z⟩
 refine ab (aM Z (ac Z (aa (aE O Z Z Z Z Z Z Z Z (cb hi0)) Z (js Z (jf [50,43,0,3,4] Z (aO Z (sR (x:=a.code.getD i default) h1 h2 (hin i hi0)) 52000 Z (aa (aH (p:=(fU (a.code.getD i default))) (q:=[10]) O Z Z Z Z Z Z (by show _+1≤L;omega) (by show L≤_;omega)) Z (aa (aH (p:=(sb a i++M)) (q:=(fU (a.code.getD i default)++[10])) O Z Z Z Z Z Z (by rw[bP,bP];show _+_+(_+1)≤L;omega) (by show L≤_;omega)) Z (js Z (jf [3,0,4] Z (jn (ab (js Z ?_)))))))))))))
 first|refine ji Z ?_|refine aU Z Z ?_
 refine js Z (jf [4,3,0] Z (jn ?_))
 refine⟨i+1,Ent.to ⟨Z,?_,Z,ao⟩ Z,by omega,by omega⟩
 exact congrArg (fun s=>some (aS8 s)) (by rw[t0,←hmid];simp[bz])
 refine aJ (ae (ac Z (jr ?_)))
 refine ay Z ?_
 obtain rfl:i=a.code.length:=by have:=bw z23;omega
 rw[u3]
theorem ox{n:Nat}(h:n<256):IntKind.u8.wrap ((n:Nat):Int)=n:=fE (by omega) (by omega)
theorem wT(hn:n≤1000000000000000):MQ h1 h2 32 [eI (n:Nat)] [] (Plain (aS8 (ck (2*n)))):=by
 refine au ?_ Z
 refine jB 29 h1 h2 Tryz.func32 Z fun O hF=>?_
 have hpl:=cJ (m:=2*n) (by omega)
 refine ae (js Z (be (js Z (aa (ax O Z Z (by omega) (by omega)) Z (js Z (jf [3,2,0] Z (jn (ag (ae (ac Z (jn (ak Z (fun z8=>?_) (fun z8=>?_)))))))))))))
 exact absurd (bc z8) (by omega)
 refine af (ae (js Z (jn (ag (am (av (X:=Str×Nat) (fun z=>⟨[(3,eI (z.2:Nat)),(4,.c (.rs 900 0 z.1.length))],[(900,.row false 1 (oX z.1))]⟩) (fun z=>z.1++ck z.2=ck (2*n)∧z.2≤2*n) (fun z=>z.2) ([],2*n) ((df 4 900 1 false Z Z).trans (Ent.to (e':=[(3,_),(4,_)]) ⟨congrArg (fun z=>some (eI z)) (by omega),Z,ao⟩ Z)) ?_ (fun z hi=>?_)))))))
 exact⟨Z,bQ _⟩
 refine ag (ae (ac Z (jn (ak Z (fun z13=>?_) (fun z13=>?_)))))
 refine af (ag (am (ab (ac Z ?_))))
 have hz:128≤z.2:=by have:=bc z13;omega
 have hzl:z.1.length≤10:=by have h:=congrArg List.length hi.1;rw[bP]at h;omega
 refine aa ((cG O Z Z Z Z (by decide) (by rw[cE];omega) (by rw[cE];omega)).cast (v':=eI ((z.2%128:Nat):Int)) (congrArg eI (cE z.2))) Z (aa ((Val.conv (b:=true) (dt:=.int .i64) O Z Z Z (by kernel_rfl) (by kernel_rfl)).cast (v':=.c (.d (.int .u8 ((z.2%128:Nat):Int)))) (by rw[ox (by omega)])) Z (aa ((bU (k:=.u8) (n:=((z.2%128:Nat):Int)+128) O Z Z (by show(0:Int)≤_;omega) (by show _≤(255:Int);omega)).cast (v':=.c (.d (.int .u8 ((e7 z.2).toNat:Int)))) (by rw[kL])) Z (jf [20,16,13,12,3,4] Z (aY (bL O Z Z Z Z Z Z Z Z Z Z Z) Z (aB ?_)))))
 refine jf [21,16,13,12,3,4] Z (aY (cZ (own:=false) (xs:=oX z.1) (ys:=[[.int .u8 (((e7 z.2)).toNat:Int)]]) (zs:=oX (z.1++[(e7 z.2)])) (n:=(z.1++[(e7 z.2)]).length) O Z (.row Z (bd _).symm) (.whole Z Z (.inr ⟨Z,Z⟩)) (by simp) Z (by simp;omega) (by simp;omega) (by simp) (by simp)) Z (aB ?_))
 refine aB ?_
 refine js Z (jf [4,13,12,3] Z (jn (ab (js Z (aa ((dI O Z Z Z Z (by decide) (by rw[du];omega) (by rw[du];omega)).cast (v':=eI ((z.2/128:Nat):Int)) (congrArg eI (du z.2))) Z (js Z (jf [3,4,13,12] Z (jn ?_))))))))
 refine⟨(z.1++[(e7 z.2)],z.2/128),((aC [22] (e':=[(3,_),(4,_)]) Z Z ⟨Z,Z,ao⟩ Z).trans (aL 22 900 Z Z)).trans (Ent.to ⟨Z,Z,ao⟩ Z),⟨?_,by show z.2/128≤2*n;omega⟩,by show z.2/128<z.2;omega⟩
 show(z.1++[(e7 z.2)])++ck (z.2/128)=ck (2*n)
 rw[←hi.1,jq hz];simp
 refine aJ (ae (ac Z ?_))
 have hz:z.2<128:=by have:=bw z13;omega
 have hzl:z.1.length≤10:=by have h:=congrArg List.length hi.1;rw[bP]at h;omega
 have hlast:=hi.1
 rw[fF hz]at hlast
 refine aa ((Val.conv (b:=true) (dt:=.int .i64) O Z Z Z (by kernel_rfl) (by kernel_rfl)).cast (v':=.c (.d (.int .u8 ((UInt8.ofNat z.2).toNat:Int)))) (by rw[fE (by omega) (by omega),UInt8.toNat_ofNat'];exact congrArg (fun n:Int=>A.c (.d (.int .u8 n))) (by omega))) Z (jf [25,23,13,12,3,4] Z (aY (bL O Z Z Z Z Z Z Z Z Z Z Z) Z (aB ?_)))
 refine jf [26,23,13,12,3,4] Z (aY (cZ (own:=false) (xs:=oX z.1) (ys:=[[.int .u8 (((UInt8.ofNat z.2)).toNat:Int)]]) (zs:=oX (z.1++[(UInt8.ofNat z.2)])) (n:=(z.1++[(UInt8.ofNat z.2)]).length) O Z (.row Z (bd _).symm) (.whole Z Z (.inr ⟨Z,Z⟩)) (by simp) Z (by simp;omega) (by simp;omega) (by simp) (by simp)) Z (aB ?_))
 refine aB ?_
 refine aa (eF (p:=z.1++[UInt8.ofNat z.2]) O Z Z Z (.whole Z (by simp) (.inl (f7 _))) Z Z (by kernel_rfl) (by kernel_rfl)) Z (js Z (jf [2,13,12,3,4] Z (jr ?_)))
 refine ay Z ?_
 rw[←hlast]
theorem zT{s:Str}(hs:s.length≤40000)(hL:1048576<L):MQ h1 h2 46 [aS8 s] [] (Plain (.tup [aS8 (fT s),eB true])):=by
 refine jB 13 h1 h2 Tryz.func46 Z fun O hF=>?_
 refine ae (ac Z (jn (ag (ae (js Z (aa (aI (p:=s) O Z Z Z Z Z Z Z Z Z) Z (js Z (jf [6,3,2,0] Z (jn (ak Z (fun z6=>?_) (fun z6=>?_)))))))))))
 exact absurd (bc z6) (by omega)
 refine af (ae (js Z (aa (aI (p:=s) O Z Z Z Z Z Z Z Z Z) Z (jf [8,3,2,0] Z (aO Z (mC (n:=(s.length:Int)) h1 h2) 10000 Z (jf [9,3,2,0] Z (aO Z (wT (n:=s.length) h1 h2 (by omega)) 11000 Z (js Z ?_))))))))
 have hpl:=cJ (m:=2*s.length) (by omega)
 refine aa (aH (p:=ck (2*s.length)) (q:=s) O Z Z Z Z Z Z (by show _+s.length≤L;omega) (by show L≤_;omega)) Z (ac Z (jf [3,2,0] Z (jr ?_)))
 refine⟨.inl Z,_,(aC [] (e':=[(2,_),(3,_)]) Z Z ⟨Z,Z,ao⟩ Z),_,Z,?_⟩
 exact⟨Z,Z⟩
variable{xs:List Int}
theorem zI{v:Int}:MQ h1 h2 163 [cd xs,eI v] [] (Plain (eI (gd (fun x=>decide (x=v)) xs))):=by
 refine au ?_ Z
 refine jB 19 h1 h2 Tryz.func163 Z fun O hF=>?_
 have hl:xs.length≤L:=by simpa[As.fact,A.fact,M.fact,D.fact,Ds.fact]using hF.1.1
 refine ae (js Z (jn (ag (ae (js Z ?_)))))
 first|refine cm Z ?_|refine js Z ?_|refine aU Z Z ?_
 refine js Z (jn (am (av (X:=Nat) (fun i=>⟨[(0,cd xs),(1,eI v),(6,cd xs),(7,eI xs.length),(8,eI i)],[]⟩) (fun i=>i≤xs.length∧∀j (h:j<xs.length),j<i→(fun x=>decide (x=v)) xs[j]=false) (fun i=>xs.length-i) 0 (Ent.to ⟨Z,Z,Z,Z,Z,ao⟩ Z) ?_ (fun i hi=>?_))))
 exact⟨ca _,fun j h hj=>absurd hj (Nat.not_lt_zero j)⟩
 refine ae (js Z (jn (ag (ak Z (fun z9=>?_) (fun z9=>?_)))))
 refine af (ag (am (ae ?_)))
 have hil:i<xs.length:=by have:=bc z9;omega
 refine ac Z (be (aF Z (aa (aE O Z Z Z Z Z Z Z Z (cb hil)) Z (ac Z (jf [16,5,10,9,0,1,6,7,8] Z (jn (ak Z (fun z16=>?_) (fun z16=>?_))))))))
 refine ae (ac Z (jr ?_))
 refine ay Z ?_
 rw[getD_lt hil]at z16
 rw[gS hil hi.2 (decide_eq_true (bc z16).symm)]
 refine af (ab ?_)
 first|refine ji Z ?_|refine aU Z Z ?_
 refine js Z (jn ?_)
 refine⟨i+1,Ent.to ⟨Z,Z,Z,Z,Z,ao⟩ Z,⟨by omega,fun j h hj=>?_⟩,by omega⟩
 by_cases e:j=i
 subst e;rw[getD_lt h]at z16;exact decide_eq_false fun e=>bw z16 e.symm
 exact hi.2 j h (by omega)
 refine aJ (ae (js Z (jr ?_)))
 refine ay Z ?_
 have h9:=bw z9
 rw[gR (fun j hj=>hi.2 j hj (by omega))]
theorem zJ{v:Int}:MQ h1 h2 133 [cd xs,eI v] [] (Plain (eB (xs.contains v))):=by
 refine au ?_ Z
 refine jB 9 h1 h2 Tryz.func133 Z fun O hF=>?_
 refine ae (js Z (be (ac Z (jf [6,5,4] Z (aO Z (zI (xs:=xs) (v:=v) h1 h2) 8000 Z (ac Z (jf [4] Z (jr ?_))))))))
 refine ay Z ?_
 refine congrArg eB (Eq.trans (pD (p:=fun x=>decide (x=v)) (l:=xs)) ?_)
 rw[List.contains_eq_any_beq]
 exact List.any_congr Z fun x=>decide_eq_decide.2 ⟨fun e=>e.symm,fun e=>e.symm⟩
theorem wO{x:Int}:MQ h1 h2 85 [eI x] [] (Plain (eB (i5 x))):=by
 refine au ?_ Z
 refine jB 6 h1 h2 Tryz.func85 Z fun O hF=>?_
 refine ae (js Z (be (aY (bL O Z Z Z Z Z Z Z Z Z Z Z) Z (aB ?_))))
 refine aK (aC [3] (e':=[(0,_),(3,_)]) Z Z ⟨Z,Z,ao⟩ Z) (aK (Ent.freeze 3 (e':=[(0,_),(3,_)]) Z (.cons Z (.keep Z) (.cons Z (.c (.row Z Z)) .nil)) (.skip .nil)) ?_)
 refine aB ?_
 refine js Z (jf [4,3] Z (aO Z (zJ (xs:=[0,1,2,4,5,6,9]) (v:=x) h1 h2) 6000 Z (js Z (jf [2] Z (jr ?_)))))
 refine ay Z ?_
 rfl
theorem sP:MQ h1 h2 84 [] [] (Plain (.c (.d (strs xd)))):=by
 refine MC.data (jB 2 h1 h2 Tryz.func84 Z fun O hF=>?_)
 refine ae (js Z (be (aY (bL O Z Z Z Z Z Z Z Z Z Z Z) Z (js Z (jr ?_)))))
 refine ay Z ?_
 exact .v (.c (.whole Z Z))
theorem xW{k:Nat}{a:Int}(hk:k<12)(ha: -1000000000≤a∧a≤1000000000):MQ h1 h2 88 [.agg [.d (.int .i64 (k:Nat)),.d (.int .i64 a)]] [] (Plain (aS8 (fU (⟨(k:Int),a⟩:In)))):=by
 refine au ?_ Z
 refine jB 21 h1 h2 Tryz.func88 Z fun O hF=>?_
 have hol:=m3 (o:=(k:Int)) (by omega) (by omega)
 have hal:=iC ha
 have hkw:xd.getD k default=jE (k:Int):=rfl
 refine ae (jx Z (aB ?_))
 refine aK (Ent.freeze 1 (e':=[(1,_),(0,_)]) Z (.cons Z (.c (.box (cs:=[.int .i64 (k:Nat),.int .i64 a]) Z (aW Z))) (fe [0] Z)) (.skip .nil)) ?_
 refine aB ?_
 refine js Z (jn (ag (ae (ac Z (jf [4,2,1,0] Z (aO Z (wO (x:=(k:Int)) h1 h2) 6000 Z (jn (ak Z (fun z5=>?_) (fun z5=>?_)))))))))
 refine ag (jw [4,1,0] Z (lC [_,_,_,_,_,_,_,_,_,_,_] [pe [] 0,pn [] 0 2,pn [1] 0 2,pn [0,1,2] 1 2,pn (rg 0 4) 1 2,pn (rg 0 5) 1 2,pn [] 0 1,pn [6] 0 1,pe [0,6,7] 1,pn (rg 0 9) 2 2,pn (rg 0 10) 2 2] [0,8] [_,_,_] (ai (ij O (B0:=7000) Z Z Z Z (sP h1 h2) (ah Z) Z Z Z Z Z) (ai (kc Z (kc Z (V Z))) (ai (kc Z (kc Z (V Z))) (ai (ai (aE O Z Z Z Z Z Z Z Z (show(xd.map fun p=>[sD p])[((k:Nat):Int).toNat]? = some [sD (xd.getD k default)]from cb (show k<xd.length from hk))) (aE O Z Z Z Z Z Z Z Z (show(xd.map fun p=>[sD p])[((k:Nat):Int).toNat]? = some [sD (xd.getD k default)]from cb (show k<xd.length from hk)))) (ai (kc Z (V Z)) (ai (ai (aH (p:=xd.getD k default) (q:=[32]) O Z Z Z Z Z Z (by rw[hkw];show(jE (k:Int)).length+1≤L;omega) (by show L≤_;omega)) (aH (p:=xd.getD k default) (q:=[32]) O Z Z Z Z Z Z (by rw[hkw];show(jE (k:Int)).length+1≤L;omega) (by show L≤_;omega))) (ai (kc Z (V Z)) (ai (kc Z (V Z)) (ai (aP O (B0:=15000) Z Z Z Z (lO (n:=a) h1 h2 (by omega) (by omega)) (ah Z) Z Z Z Z Z) (ai (aH (p:=(xd.getD k default++[32])) (q:=Lib.itoa a) O Z Z Z Z Z Z (by rw[bP,hkw];show _+1+_≤L;omega) (by show L≤_;omega)) (kc Z trivial))))))))))) ?_))
 refine jw [2,4,1,0] Z (nv ?_)
 refine sq ?_
 refine ay Z ?_
 rw[show fU (⟨(k:Int),a⟩:In)=xd.getD k default++[32]++Lib.itoa a from if_pos z5]
 refine af (ag (jw [4,1,0] Z (lC [_,_,_,_,_,_] [pe [] 0,pn [] 0 1,pn [1] 0 1,pn [0,1,2] 1 1,pn (rg 0 4) 1 1,pn (rg 0 5) 1 1] [0] [_,_] (ai (ij O (B0:=17000) Z Z Z Z (sP h1 h2) (ah Z) Z Z Z Z Z) (ai (kc Z (V Z)) (ai (kc Z (V Z)) (ai (aE O Z Z Z Z Z Z Z Z (show(xd.map fun p=>[sD p])[((k:Nat):Int).toNat]? = some [sD (xd.getD k default)]from cb (show k<xd.length from hk))) (kc Z (kc Z trivial)))))) ?_)))
 refine jw [2,4,1,0] Z (nv ?_)
 refine sq ?_
 refine ay Z ?_
 rw[show fU (⟨(k:Int),a⟩:In)=xd.getD k default from if_neg (by simp[z5])]
theorem wR{L:Nat}(h1:4096≤L)(h2:L≤1073741824){x:In}(h:aV x=true):MC Tryz.prog L 88 [.agg (x.cells.map .d)] [] (Plain (aS8 (fU x))):=by
 obtain⟨⟨ho0,ho1⟩,ha,_⟩:=f6 h
 obtain⟨op,a⟩:=x
 obtain⟨k,rfl⟩: ∃k:Nat,op=k:=⟨op.toNat,by simp only at ho0;omega⟩
 exact xW h1 h2 (by simp only at ho1;omega) ha
theorem lj(c:UInt8): ∀ss:List Str,Lib.join ss [c]=ba c ss
 | []=>rfl
 | [p]=>by simp[Lib.join,List.intercalate,ba]
 | p::q::r=>by
  have ih:=lj c (q::r)
  unfold Lib.join at ih ⊢
  rw[ba,←ih]
  simp[List.intercalate]
theorem wQ{ss:List Str}{c:UInt8}(hl:(ba c ss).length≤L):MQ h1 h2 100 [.c (.d (strs ss)),aS8 [c]] [] (Plain (aS8 (ba c ss))):=by
 refine jj ⟨_,_,Tryz.func100,by kernel_rfl,Z⟩ fun w ok m vs h0 h5=>?_
 cases h5 with
 | cons a1 a2=>cases a2 with
  | cons a3 a4=>
   cases a4
   obtain⟨rfl,_⟩:=RA.str_inv a3
   rcases kH a1 with⟨rfl,base,cap,rfl⟩|⟨b,off,cap,rfl,hb,hcap,hc⟩
   ·
    refine Calls.mono (Tryz.strings_Join_none base cap (bS [c]) w) fun e w' ⟨he,hw⟩=>?_
    subst he hw
    exact⟨⟨Z,Z,Z,bQ _,fun _ _ _=>rfl⟩,fun ok' m' _=>.c (.d (.str (ca _)))⟩
   ·
    have hm:(ss.map bS).map (·.data.toList)=ss:=by
     rw[List.map_map]
     conv=>rhs;rw[←List.map_id ss]
     exact List.map_congr_left fun x _=>fX x
    have hj:Lib.join ((ss.map bS).map (·.data.toList)) (bS [c]).data.toList=ba c ss:=by rw[hm,fX,lj]
    have hn:ss.length≤1073741825:=by
     have:=kP (c:=c) (ss:=ss);omega
    have z2: ∀(j:Nat) x,(ss.map bS)[j]? = some x→w.cell? ⟨b,off+j,none⟩=some (.string x):=by
     intro j x hx
     rw[List.getElem?_map]at hx
     cases hs:ss[j]? with
     | none=>rw[hs]at hx;cases hx
     | some s=>rw[hs]at hx;cases hx;exact(hc j s hs).1
    have h:=Tryz.strings_Join b off cap (ss.map bS) (bS [c]) w z2 hb (by rw[bd];omega) (by rw[bd];exact hcap) (by rw[hj];omega)
    rw[hj,bd]at h
    refine Calls.mono h fun e w' ⟨he,hw⟩=>?_
    subst he
    exact⟨.of_below hw,fun ok' m' _=>.c (.d (.str (by show(bS _).size≤L;rw[bS_size];exact hl)))⟩
theorem qq{α:Type}[Inhabited α]{f:α→Str}{xs:List α}{i:Nat}(h:i<xs.length):(xs.take (i+1)).map f=(xs.take i).map f++[f (xs.getD i default)]:=by
 rw[List.take_succ_eq_append_getElem h,List.map_append,List.map_singleton,getD_lt h]
theorem zL{ms:List Int}(hm: ∀m∈ms,-1000000000≤m∧m≤1000000000)(hl:(ba 44 (ms.map Lib.itoa)).length≤L)(hn:ms.length<L):MQ h1 h2 98 [cd ms] [] (Plain (aS8 (ba 44 (ms.map Lib.itoa)))):=by
 refine au ?_ Z
 refine jB 20 h1 h2 Tryz.func98 Z fun O hF=>?_
 refine ae (js Z (be (js Z (jn (ag (ae (js Z ?_)))))))
 first|refine cm Z ?_|refine js Z ?_|refine aU Z Z ?_
 refine js Z (jn (am (av (X:=Nat) (fun i=>⟨[(3,.c (.rs 900 0 ((ms.take i).map Lib.itoa).length)),(6,cd ms),(7,eI ms.length),(8,eI i)],[(900,.row false 1 (((ms.take i).map Lib.itoa).map (fun p=>[sD p])))]⟩) (fun i=>i≤ms.length) (fun i=>ms.length-i) 0 ((df 3 900 1 false Z Z).trans (Ent.to (e':=[(3,_),(6,_),(7,_),(8,_)]) ⟨Z,Z,Z,Z,ao⟩ Z)) ?_ (fun i hi=>?_))))
 exact ca _
 refine ae (js Z (jn (ag (ak Z (fun z9=>?_) (fun z9=>?_)))))
 refine af (ag (am (ae ?_)))
 have hi0:i<ms.length:=by have:=bc z9;omega
 have hmi:=hm (ms.getD i default) (by rw[getD_lt hi0];exact List.getElem_mem hi0)
 refine aa (aE O Z Z Z Z Z Z Z Z (cb hi0)) Z (ac Z (jf [5,9,3,6,7,8] Z (jn (ab (ac Z (jf [13,12,9,3,6,7,8] Z (aO Z (lO (n:=ms.getD i default) h1 h2 (by omega) (by omega)) 15000 Z (jf [14,12,9,3,6,7,8] Z (aY (bL O Z Z Z Z Z Z Z Z Z Z Z) Z (aB ?_))))))))))
 refine jf [15,12,9,3,6,7,8] Z (aY (cZ (own:=false) (xs:=((ms.take i).map Lib.itoa).map (fun p=>[sD p])) (ys:=[[sD (Lib.itoa (ms.getD i default))]]) (zs:=(((ms.take i).map Lib.itoa)++[(Lib.itoa (ms.getD i default))]).map (fun p=>[sD p])) (n:=(((ms.take i).map Lib.itoa)++[(Lib.itoa (ms.getD i default))]).length) O Z (.row Z (bd _).symm) (.whole Z Z (.inr ⟨Z,Z⟩)) (by simp) Z (by simp;omega) (by simp;omega) (by simp) (by simp)) Z (aB ?_))
 refine aB ?_
 refine js Z (jf [3,9,6,7,8] Z (jn (ab ?_)))
 first|refine ji Z ?_|refine aU Z Z ?_
 refine js Z (jn ?_)
 refine⟨i+1,((aC [16] (e':=[(3,_),(6,_),(7,_),(8,_)]) Z Z ⟨Z,Z,Z,Z,ao⟩ Z).trans (aL 16 900 Z Z)).trans (Ent.to ⟨by rw[qq hi0];rfl,Z,Z,Z,ao⟩ (by rw[qq hi0];rfl)),by omega,by omega⟩
 refine aJ (ae ?_)
 obtain rfl:i=ms.length:=by have:=bw z9;omega
 rw[List.take_length]
 refine js Z (aZ O Z Z Z Z (wQ (ss:=ms.map Lib.itoa) (c:=44) h1 h2 hl) (.cons (.c (.whole Z (bd _).symm)) (.cons (.c .d) .nil)) Z Z Z Z Z (B0:=20000) Z (js Z (jf [2,9,3,6,7,8] Z (jr ?_))))
 refine ay Z ?_
 rfl
theorem zU{p:List Nd}(hb:isB p=true)(hL:1048576<L):MQ h1 h2 45 [dF p] [] (Plain (aS8 (gD p))):=by
 refine au ?_ Z
 refine jB 42 h1 h2 Tryz.func45 Z fun O hF=>?_
 obtain⟨hp1,hp60,hnd⟩:=isB_nd hb
 have hl:p.length≤L:=by omega
 refine ae (js Z (be (js Z (jn (ag (ae (js Z ?_)))))))
 first|refine cm Z ?_|refine js Z ?_|refine aU Z Z ?_
 refine js Z (jn (am (av (X:=Nat) (fun i=>⟨[(3,.c (.rs 900 0 ((p.take i).map bo).length)),(6,dF p),(7,eI p.length),(8,eI i)],[(900,.row false 1 (((p.take i).map bo).map (fun p=>[sD p])))]⟩) (fun i=>i≤p.length) (fun i=>p.length-i) 0 ((df 3 900 1 false Z Z).trans (Ent.to (e':=[(3,_),(6,_),(7,_),(8,_)]) ⟨Z,Z,Z,Z,ao⟩ Z)) ?_ (fun i hi=>?_))))
 exact ca _
 refine ae (js Z (jn (ag (ak Z (fun z9=>?_) (fun z9=>?_)))))
 refine af (ag (am (ae ?_)))
 have hi0:i<p.length:=by have:=bc z9;omega
 have hxb:ndB (p.getD i default)=true:=by rw[getD_lt hi0];exact hnd _ (List.getElem_mem hi0)
 obtain⟨hxR,hx20,hxco⟩:=ndB_R hxb
 have hxl:=n6 hxb
 refine aa (aE O Z Z Z Z Z Z Z Z (cb hi0)) Z (js Z (jf [11,9,3,6,7,8] Z (jl Z (aB ?_))))
 refine jo Z (aB ?_)
 refine aK (aC [900,5] (e':=[(5,_),(3,_),(6,_),(7,_),(8,_)]) Z Z ⟨Z,Z,Z,Z,Z,ao⟩ Z) (aK (Ent.freeze 5 (e':=[(5,_),(3,_),(6,_),(7,_),(8,_)]) Z (.cons Z (.c (.box (cs:=(p.getD i default).cells) Z (aW Z))) (fe [3,6,7,8] Z)) (w9 Z (.skip .nil))) ?_)
 refine aB ?_
 refine be (ac Z (jn (bl ⟨[(3,.c (.rs 900 0 (((p.take i).map bo)++[(bo (p.getD i default))]).length)),(6,dF p),(7,eI p.length),(8,eI i)],[(900,.row false 1 ((((p.take i).map bo)++[(bo (p.getD i default))]).map (fun p=>[sD p])))]⟩ ?_ ?_)))
 refine am (ae (ac Z (jn (ak Z (fun z21=>?_) (fun z21=>?_)))))
 refine ab ?_
 have hk1:(p.getD i default).kind=1:=bc z21
 have hn1:bo (p.getD i default)=99::ba 44 ((p.getD i default).mul.map Lib.itoa):=if_pos hk1
 have hxl1:=hxl
 rw[hn1,db]at hxl1
 refine aF Z (jf [25,23,21,22,13,12,5,3,6,7,8] Z (aO Z (zL (ms:=(p.getD i default).mul) h1 h2 hxR.mul (by omega) (by omega)) 27000 Z (aa ((aH (p:=[99]) (q:=(ba 44 ((p.getD i default).mul.map Lib.itoa))) O Z Z Z Z Z Z (by show 1+_≤L;omega) (by show L≤_;omega)).cast (v':=aS8 (bo (p.getD i default))) (congrArg aS8 hn1.symm)) Z (jf [27,23,21,22,13,12,5,3,6,7,8] Z (aY (bL O Z Z Z Z Z Z Z Z Z Z Z) Z (aB ?_))))))
 refine jf [28,23,21,22,13,12,5,3,6,7,8] Z (aY (cZ (own:=false) (xs:=((p.take i).map bo).map (fun p=>[sD p])) (ys:=[[sD (bo (p.getD i default))]]) (zs:=(((p.take i).map bo)++[(bo (p.getD i default))]).map (fun p=>[sD p])) (n:=(((p.take i).map bo)++[(bo (p.getD i default))]).length) O Z (.row Z (bd _).symm) (.whole Z Z (.inr ⟨Z,Z⟩)) (by simp) Z (by simp;omega) (by simp;omega) (by simp) (by simp)) Z (aB ?_))
 refine aB ?_
 refine js Z (jf [3,21,22,13,12,5,6,7,8] Z (jn ?_))
 exact⟨Z,((aC [29] (e':=[(3,_),(6,_),(7,_),(8,_)]) Z Z ⟨Z,Z,Z,Z,ao⟩ Z).trans (aL 29 900 Z Z)).trans (Ent.to ⟨Z,Z,Z,Z,ao⟩ Z)⟩
 refine ae (ac Z (jn (ak Z (fun z30=>?_) (fun z30=>?_))))
 refine ab ?_
 have hk2:(p.getD i default).kind=2:=bc z30
 have hn2:bo (p.getD i default)=115::tS (p.getD i default).term:=by unfold bo;rw[hk2,if_neg (by decide),if_pos Z]
 have hxl2:=hxl
 rw[hn2,db]at hxl2
 refine aF Z (jf [34,32,30,31,21,22,13,12,5,3,6,7,8] Z (aO Z (nF (t:=(p.getD i default).term) h1 h2 hxR.term) 36000 Z (aa ((aH (p:=[115]) (q:=(tS (p.getD i default).term)) O Z Z Z Z Z Z (by show 1+_≤L;omega) (by show L≤_;omega)).cast (v':=aS8 (bo (p.getD i default))) (congrArg aS8 hn2.symm)) Z (jf [36,32,30,31,21,22,13,12,5,3,6,7,8] Z (aY (bL O Z Z Z Z Z Z Z Z Z Z Z) Z (aB ?_))))))
 refine jf [37,32,30,31,21,22,13,12,5,3,6,7,8] Z (aY (cZ (own:=false) (xs:=((p.take i).map bo).map (fun p=>[sD p])) (ys:=[[sD (bo (p.getD i default))]]) (zs:=(((p.take i).map bo)++[(bo (p.getD i default))]).map (fun p=>[sD p])) (n:=(((p.take i).map bo)++[(bo (p.getD i default))]).length) O Z (.row Z (bd _).symm) (.whole Z Z (.inr ⟨Z,Z⟩)) (by simp) Z (by simp;omega) (by simp;omega) (by simp) (by simp)) Z (aB ?_))
 refine aB ?_
 refine js Z (jf [3,30,31,21,22,13,12,5,6,7,8] Z (jn ?_))
 exact⟨Z,((aC [38] (e':=[(3,_),(6,_),(7,_),(8,_)]) Z Z ⟨Z,Z,Z,Z,ao⟩ Z).trans (aL 38 900 Z Z)).trans (Ent.to ⟨Z,Z,Z,Z,ao⟩ Z)⟩
 refine ab ?_
 have hk3:(p.getD i default).kind=3:=hxR.kind.elim (fun h=>absurd h (bw z21)) fun h=>h.elim (fun h=>absurd h (bw z30)) id
 have hn3:bo (p.getD i default)=116::Lib.itoa (p.getD i default).fact:=by unfold bo;rw[hk3,if_neg (by decide),if_neg (by decide),if_pos Z]
 have hxl3:=hxl
 rw[hn3,db]at hxl3
 have hxf:=hxR.fact
 refine aF Z (jf [16,14,30,31,21,22,13,12,5,3,6,7,8] Z (aO Z (lO (n:=(p.getD i default).fact) h1 h2 (by omega) (by omega)) 18000 Z (aa ((aH (p:=[116]) (q:=(Lib.itoa (p.getD i default).fact)) O Z Z Z Z Z Z (by show 1+_≤L;omega) (by show L≤_;omega)).cast (v':=aS8 (bo (p.getD i default))) (congrArg aS8 hn3.symm)) Z (jf [18,14,30,31,21,22,13,12,5,3,6,7,8] Z (aY (bL O Z Z Z Z Z Z Z Z Z Z Z) Z (aB ?_))))))
 refine jf [19,14,30,31,21,22,13,12,5,3,6,7,8] Z (aY (cZ (own:=false) (xs:=((p.take i).map bo).map (fun p=>[sD p])) (ys:=[[sD (bo (p.getD i default))]]) (zs:=(((p.take i).map bo)++[(bo (p.getD i default))]).map (fun p=>[sD p])) (n:=(((p.take i).map bo)++[(bo (p.getD i default))]).length) O Z (.row Z (bd _).symm) (.whole Z Z (.inr ⟨Z,Z⟩)) (by simp) Z (by simp;omega) (by simp;omega) (by simp) (by simp)) Z (aB ?_))
 refine aB ?_
 refine js Z (jf [3,30,31,21,22,13,12,5,6,7,8] Z (jn ?_))
 exact⟨Z,((aC [20] (e':=[(3,_),(6,_),(7,_),(8,_)]) Z Z ⟨Z,Z,Z,Z,ao⟩ Z).trans (aL 20 900 Z Z)).trans (Ent.to ⟨Z,Z,Z,Z,ao⟩ Z)⟩
 refine ab ?_
 first|refine ji Z ?_|refine aU Z Z ?_
 refine js Z (jn ?_)
 refine⟨i+1,Ent.to ⟨by rw[qq hi0];rfl,Z,Z,Z,ao⟩ (by rw[qq hi0]),by omega,by omega⟩
 refine aJ (ae ?_)
 obtain rfl:i=p.length:=by have:=bw z9;omega
 rw[List.take_length]
 refine js Z (aZ O Z Z Z Z (wQ (ss:=p.map bo) (c:=47) h1 h2 (by have:=iA hb;unfold gD at this;omega)) (.cons (.c (.whole Z (bd _).symm)) (.cons (.c .d) .nil)) Z Z Z Z Z (B0:=42000) Z (js Z (jf [2,9,3,6,7,8] Z (jr ?_))))
 refine ay Z ?_
 rfl
end Go.Al
/- What the program's withNewlines answers. -/
namespace Go.Al
variable{L:Nat}(h1:4096≤L)(h2:L≤1073741824)
open Go.Proofs Go.RowKit
set_option maxRecDepth 1000000
def yr:Value→Nat
  | .int _ n=>n.toNat
  | _=>0
theorem rR{c:UInt8}{ls:List Str}{i:Nat}(h:i<ls.length):bz c (ls.take (i+1))=bz c (ls.take i)++(ls[i]++[c]):=by
 rw[List.take_succ_eq_append_getElem h,ct];simp[bz]
theorem uv{c:UInt8}{ls:List Str}{i:Nat}:(bz c (ls.take i)).length≤(bz c ls).length:=by
 conv=>rhs;rw[←List.take_append_drop i ls,ct]
 rw[bP];omega
theorem vB{w:World}{base:Option Addr}{cap:Nat}{ls:List Str}(hc: ∀(j:Nat) s,ls[j]? = some s→∃b off,base=some ⟨b,off,none⟩∧b<w.heap.size∧w.cell? ⟨b,off+j,none⟩=some (.string (bS s)))
    (hl:(bz 10 ls).length≤1073741824) (hn:ls.length≤1073741824) :
    Calls Tryz.prog 94 #[.slice base ls.length cap] w fun e w'=>e= .returned (.string (bS (bz 10 ls)))∧Below w.heap.size w w':=by
  go_enter Tryz.func94,Tryz.ntmps94
  go_wp2_with fail
  go_loopw [8] (fun v wr=> ∃i:Nat,v= .int .i64 i∧i≤ls.length∧Lib.IsBuilderF 87 5 w.heap.size w.heap.size (Lib.byteCells (bz 10 (ls.take i))) wr∧Below w.heap.size w wr) (fun v _=>ls.length-yr v)
  case atStart=>exact⟨0,rfl,ca _,Lib.IsBuilderF.of (Lib.fresh_isBuilder 87 5 w),(Below.refl _ w).alloc (bQ _) _⟩
  case round=>
    obtain⟨i,rfl,hi,hB,hbw⟩:=hrel
    by_cases hlt:i<ls.length
    · obtain⟨b,off,rfl,hb,hcell⟩:=hc i ls[i] (by simp[hlt])
      have hcw:wr.cell? ⟨b,off+i,none⟩=some (.string (bS ls[i])):=(Same.cell (show Same w wr b from hbw.block b hb)).trans hcell
      have hct:=rR (c:=10) hlt
      have hcl:=congrArg List.length hct
      have hcp:=uv (c:=10) (ls:=ls) (i:=i+1)
      rw[bP,bP,sj]at hcl
      have hov: ¬9223372036854775807<(bS ls[i]).size+1:=by rw[bS_size];omega
      have hap:bS ls[i]++({data:= #[10]}:ByteArray)=bS (ls[i]++[10]):=tT _ _
      go_wp2_with fail
      refine(Tryz.Builder_WriteString_f w.heap.size w.heap.size _ _ wr hB (by rw[Lib.byteCells_length,bS_size,bP,sj];omega) hbw.size).mono fun e W1 ⟨he,k1,b1⟩=>?_
      subst he
      go_wp2_with fail
      go_roundw
      case rel=>
        refine⟨i+1,by simp,by omega,Or.inr ?_,hbw.trans b1⟩
        rw[hct,Lib.byteCells_append,←jM]
        exact k1
      case measure=>
        simp[yr]
        omega
    · obtain rfl:i=ls.length:=by omega
      rw[List.take_length]at hB
      go_wp2_with fail
      refine(Tryz.Builder_String_any_f w.heap.size w.heap.size _ wr hB hbw.size).mono fun e W1 ⟨he,_,b1⟩=>?_
      subst he
      go_wp2_with fail
      go_ret
      exact⟨Z,hbw.trans b1⟩
theorem zM{ls:List Str}(hl:(bz 10 ls).length≤L)(hn:ls.length≤L):MQ h1 h2 94 [.c (.d (strs ls))] [] (Plain (aS8 (bz 10 ls))):=by
 refine jj ⟨_,_,Tryz.func94,by kernel_rfl,Z⟩ fun w ok m vs h0 h5=>?_
 cases h5 with
 | cons a1 a2=>
  cases a2
  have key: ∀{base cap},(∀(j:Nat) s,ls[j]? = some s→∃b off,base=some ⟨b,off,none⟩∧b<w.heap.size∧w.cell? ⟨b,off+j,none⟩=some (.string (bS s)))→Calls Tryz.prog 94 #[.slice base ls.length cap] w (lD fun x w'=>Frame w w' []∧∀ok' m',(∀b,w.heap.size≤b→ok' b)→RA L w' ok' m' (aS8 (bz 10 ls)) x):=fun hc=>
   Calls.mono (vB hc (by omega) (by omega)) fun e w' ⟨he,hw⟩=>by
    subst he
    exact⟨.of_below hw,fun ok' m' _=>.c (.d (.str (by show(bS _).size≤L;rw[bS_size];exact hl)))⟩
  rcases kH a1 with⟨rfl,base,cap,rfl⟩|⟨b,off,cap,rfl,hb,hcap,hc⟩
  exact key (fun j s h=>by cases h)
  exact key fun j s h=>⟨b,off,Z,hb,(hc j s h).1⟩
abbrev lB(ls:List Str)(l:Nat):B:=.box [.rs l 0 ls.length]
abbrev lR(ls:List Str):B:=.row false 1 (ls.map fun p=>[sD p])
theorem gvT{p:Str}{ts:List Tm}{ls:List Str}{i:Nat}(h:i<ts.length):ls++ch p (ts.take (i+1))=(ls++ch p (ts.take i))++[p++[32]++tS (ts.getD i default)]:=by
 rw[List.take_succ_eq_append_getElem h,getD_lt h]
 unfold ch
 rw[List.map_append,List.map_cons,List.map_nil,←dh]
theorem k6{c:UInt8}: ∀{ls:List Str},ls.length≤(bz c ls).length
 | []=>bQ _
 | p::r=>by
  have:=k6 (c:=c) (ls:=r)
  rw[bz,bP,db,db];omega
variable{ts:List Tm}
theorem sQ{p:Str}{ls:List Str}(hp:p.length≤4)(ht:terms ts 6=true)(hll:ls.length≤1000):MQ h1 h2 92 [aS8 p,gB ts,.c (.pt 0 0 0)] [(0,lB ls 1),(1,lR ls)] (fW (.tup []) [(0,lB (ls++ch p ts) 2),(2,lR (ls++ch p ts))]):=by
 refine k9 500 Z (MC.keep [500,502] (bs:=[lB (ls++ch p ts) 502,lR (ls++ch p ts)]) (R:=.tup []) Z Z (jH 22 [500,501] h1 h2 Tryz.func92 Z fun O hF=>?_))
 refine nv ?_
 obtain⟨htm,htl⟩:=terms_sp (n:=6) ht
 have hl:ts.length≤L:=by omega
 refine ae (js Z ?_)
 first|refine cm Z ?_|refine js Z ?_|refine aU Z Z ?_
 refine js Z (jn (am (av (X:=Nat) (fun i=>⟨[(0,aS8 p),(2,.c (.pt 500 0 0)),(7,gB ts),(8,eI ts.length),(9,eI i)],[(500,lB (ls++ch p (ts.take i)) 502),(502,lR (ls++ch p (ts.take i)))]⟩) (fun i=>i≤ts.length) (fun i=>ts.length-i) 0 ((aL 501 502 Z Z).trans (Ent.to ⟨Z,Z,Z,Z,Z,ao⟩ (by rw[show ls++ch p (ts.take 0)=ls by simp[ch]];rfl))) ?_ (fun i hi=>?_))))
 exact ca _
 refine ae (js Z (jn (ag (ak Z (fun z10=>?_) (fun z10=>?_)))))
 refine af (ag (am (ae ?_)))
 have hi0:i<ts.length:=by have:=bc z10;omega
 have hti:(ts.getD i default).term=true:=by rw[getD_lt hi0];exact htm _ (List.getElem_mem hi0)
 have hok:(ts.getD i default).ok=true:=by unfold Tm.term at hti;simp only[bK]at hti;exact hti.1
 have htl4:=mX hti
 have hCl:(ch p (ts.take i)).length≤6:=by unfold ch;rw[bd,List.length_take];omega
 refine aa (aE O Z Z Z Z Z Z Z Z (cb hi0)) Z (js Z (jf [12,10,0,2,7,8,9] Z (jl Z (aB ?_))))
 refine jo Z (aB ?_)
 refine aK (aC [500,502,6] (e':=[(6,_),(0,_),(2,_),(7,_),(8,_),(9,_)]) Z Z ⟨Z,Z,Z,Z,Z,Z,ao⟩ Z) (aK (Ent.freeze 6 (e':=[(6,_),(0,_),(2,_),(7,_),(8,_),(9,_)]) Z (.cons Z (.c (.box (cs:=(ts.getD i default).cells) Z (aW Z))) (fe [0,2,7,8,9] Z)) (oZ Z (w9 Z (.skip .nil)))) ?_)
 refine aB ?_
 refine jn (w6 [_,_,_,_,_,_,_,_,_] [pn [] 0 2,pn [] 0 1,pn [1] 0 1,bC,pe [3] 0,pn (rg 1 4) 1 1,pe (rg 1 5) 1,pe (rg 0 7) 2,pe (rg 0 8) 3] [4,6,7,8] [_,_,_,_,_] [[],[],[502],[]] (ai (ka Z Z (ka Z Z (kw Z Z))) (ai (ka Z Z (kw Z Z)) (ai (ai (ai (aH (p:=p) (q:=[32]) O Z Z Z Z Z Z (by show p.length+1≤L;omega) (by show L≤_;omega)) Z) (ai (aH (p:=p) (q:=[32]) O Z Z Z Z Z Z (by show p.length+1≤L;omega) (by show L≤_;omega)) Z)) (ka Z Z (ai (ai (fY (aP O (B0:=18000) Z Z Z Z (nF (t:=(ts.getD i default)) h1 h2 hok) (ah Z) Z Z Z Z Z)) Z) (ai (ai (aH (p:=(p++[32])) (q:=(tS (ts.getD i default))) O Z Z Z Z Z Z (by rw[bP];show p.length+1+_≤L;omega) (by show L≤_;omega)) Z) (ai (ai (fY (oB O Z Z Z Z Z Z Z Z Z Z Z Z Z Z)) Z) (ai (ai (j7 (own:=false) (xs:=(ls++ch p (ts.take i)).map (fun p=>[sD p])) (ys:=[[sD (p++[32]++tS (ts.getD i default))]]) (zs:=((ls++ch p (ts.take i))++[(p++[32]++tS (ts.getD i default))]).map (fun p=>[sD p])) (n:=((ls++ch p (ts.take i))++[(p++[32]++tS (ts.getD i default))]).length) O Z Z Z Z Z Z Z Z Z Z Z Z Z Z Z Z (.row Z (bd _).symm) (.whole Z Z (.inr ⟨Z,Z⟩)) (by simp) Z (by simp;omega) (by simp;omega) (by simp) (by simp) Z) Z) (ai (ai (fY (eS Z Z Z)) Z) trivial))))))))) ?_)
 refine jw [6,0,2,7,8,9] Z (nv ?_)
 refine ab ?_
 first|refine ji Z ?_|refine aU Z Z ?_
 refine js Z (jn ?_)
 refine⟨i+1,((aC [500,20] (e':=[(0,_),(2,_),(7,_),(8,_),(9,_)]) Z Z ⟨Z,Z,Z,Z,Z,ao⟩ Z).trans (aL 20 502 Z Z)).trans (Ent.to ⟨Z,Z,Z,Z,Z,ao⟩ (by rw[gvT hi0];rfl)),by omega,by omega⟩
 refine aJ ?_
 show _∧_
 obtain rfl:i=ts.length:=by have:=bw z10;omega
 rw[List.take_length]
 refine⟨.inr Z,_,cY,_,Z,Z,Z⟩
theorem ov{a:An}(h:dC a=true): ∀{n:Nat},n≤a.code.length→(dj a n).length≤8*n
 | 0,_=>bQ _
 | n + 1,hn=>by
  have h1:=ov h (n:=n) (by omega)
  obtain⟨_,_,_,_,_,_,h7⟩:=annB_sp h
  have h2:(sn a n).length≤8:=by
   by_cases h9:gd (fun p:Pt=>decide (p.k=(n:Int))) a.pts<0
   rw[pM h9];simp
   obtain⟨k,hk⟩:=iB (show 0≤gd (fun p:Pt=>decide (p.k=(n:Int))) a.pts by omega)
   obtain⟨hk1,hk2⟩:=kF hk
   have:=(terms_sp (n:=6) (h7 k hk1)).2
   rw[hk2,bP,db,sj]
   unfold ch;rw[bd];omega
  rw[dj,bP];omega
variable{a:An}
theorem wU(hv:dC a=true)(hL:1048576<L):MQ h1 h2 38 [wb a] [] (Plain (aS8 (cH a))):=by
 refine au ?_ Z
 refine jB 49 h1 h2 Tryz.func38 Z fun O hF=>?_
 obtain⟨hin,hcl,hcl1,htp,hto,hpl,hpf⟩:=annB_sp hv
 have hl:a.code.length≤L:=by omega
 have hlp:a.pts.length≤L:=by omega
 have htl:=eg hv
 have q1:(ch cr a.pre).length≤6:=by unfold ch;rw[bd];exact(terms_sp (n:=6) htp).2
 have q2:(ch bR a.post).length≤6:=by unfold ch;rw[bd];exact(terms_sp (n:=6) hto).2
 refine ae (jx Z (aB ?_))
 refine aK (Ent.freeze 1 (e':=[(1,_),(0,_)]) Z (.cons Z (.c (.box (cs:=a.data) Z (aW Z))) (fe [0] Z)) (.skip .nil)) ?_
 refine aB ?_
 refine js Z (be (jl Z (aB ?_)))
 refine be (aK (ap 3 900 1 false 0 Z Z Z) (ac Z (be (aF Z (jf [11,9,4,8,1,3] Z (cu O [3,900] (bin:=[lB [] 1,lR []]) Z Z Z Z (sQ (p:=cr) (ts:=a.pre) (ls:=[]) h1 h2 (by decide) htp (by simp)) Z Z Z Z Z Z (B0:=13000) Z Z (aB ?_)))))))
 refine jf [4,8,1,3] Z (be (aF Z (jf [15,13,4,8,1,3] Z (cu O [3,13002] (bin:=[lB (ch cr a.pre) 1,lR (ch cr a.pre)]) Z Z Z Z (sQ (p:=bR) (ts:=a.post) (ls:=ch cr a.pre) h1 h2 (by decide) hto (by omega)) Z Z Z Z Z Z (B0:=17000) Z Z (aB ?_)))))
 refine jf [4,8,1,3] Z (jn (ag (ae (ac Z ?_))))
 first|refine cm Z ?_|refine js Z ?_|refine aU Z Z ?_
 refine js Z (jn (am (av (X:=Nat) (fun i=>⟨[(1,ptr a.data),(3,.c (.pt 3 0 0)),(4,.c (.fn 92 [.pt 3 0 0])),(18,lF a.code),(19,eI a.code.length),(20,eI i)],[(3,lB (ch cr a.pre++ch bR a.post++dj a i) 900),(900,lR (ch cr a.pre++ch bR a.post++dj a i))]⟩) (fun i=>i≤a.code.length) (fun i=>a.code.length-i) 0 ((aL 17002 900 Z Z).trans (Ent.to ⟨Z,Z,Z,Z,Z,Z,ao⟩ (by rw[show(ch cr a.pre++ch bR a.post++dj a 0)=ch cr a.pre++ch bR a.post from List.append_nil _];rfl))) ?_ (fun i hi=>?_))))
 exact ca _
 refine ae (js Z (jn (ag (ak Z (fun z21=>?_) (fun z21=>?_)))))
 refine af (ag (am (ae (js Z ?_))))
 have hi0:i<a.code.length:=by have:=bc z21;omega
 have hCl:=ov hv (n:=i) (by omega)
 have hil:=m5 (hin i hi0)
 refine aa (aE O Z Z Z Z Z Z Z Z (cb hi0)) Z (js Z (jf [24,22,21,1,3,4,18,19,20] Z (jl Z (aB ?_))))
 refine js Z (jf [5,6,24,21,1,3,4,18,19,20] Z (jo Z (aB ?_)))
 refine aK (aC [3,900,6] (e':=[(6,_),(5,_),(1,_),(3,_),(4,_),(18,_),(19,_),(20,_)]) Z Z ⟨Z,Z,Z,Z,Z,Z,Z,Z,ao⟩ Z) (aK (Ent.freeze 6 (e':=[(6,_),(5,_),(1,_),(3,_),(4,_),(18,_),(19,_),(20,_)]) Z (.cons Z (.c (.box (cs:=(a.code.getD i default).cells) Z (aW Z))) (fe [5,1,3,4,18,19,20] Z)) (oZ Z (w9 Z (.skip .nil)))) ?_)
 refine aB ?_
 refine jn (ag (ae (ac Z (jf [26,25,6,1,3,4,18,19,20] Z (aO Z (BM (a:=a) (k:=(i:Int)) h1 h2) 28000 Z (js Z (jf [7,6,1,3,4,18,19,20] Z (be (ac Z (jn ?_))))))))))
 obtain⟨M,hM0,hM1,hMl,hnx⟩: ∃M:List Str,((gd (fun p:Pt=>decide (p.k=(i:Int))) a.pts)<0→M=[])∧(∀k:Nat,(gd (fun p:Pt=>decide (p.k=(i:Int))) a.pts)=k→M=bT::(ch jD (a.pts.getD k default).fs))∧M.length≤7∧(ch cr a.pre++ch bR a.post++dj a (i+1))=(ch cr a.pre++ch bR a.post++dj a i)++M++[fU (a.code.getD i default)]:=by
  by_cases h:(gd (fun p:Pt=>decide (p.k=(i:Int))) a.pts)<0
  refine⟨[],fun _=>rfl,fun k hk=>by omega,by simp,?_⟩
  rw[dj,pM h];simp
  obtain⟨k,hk⟩:=iB (show 0≤(gd (fun p:Pt=>decide (p.k=(i:Int))) a.pts) by omega)
  obtain⟨hk1,hk2⟩:=kF hk
  refine⟨bT::(ch jD (a.pts.getD k default).fs),fun h9=>by omega,fun j hj=>by rw[show j=k by omega],?_,by rw[dj,hk2];simp⟩
  have:=(terms_sp (n:=6) (hpf k hk1)).2
  unfold ch;rw[db,bd];omega
 refine bl ⟨[(1,ptr a.data),(3,.c (.pt 3 0 0)),(4,.c (.fn 92 [.pt 3 0 0])),(6,ptr (a.code.getD i default).cells),(18,lF a.code),(19,eI a.code.length),(20,eI i)],[(3,lB ((ch cr a.pre++ch bR a.post++dj a i)++M) 900),(900,lR ((ch cr a.pre++ch bR a.post++dj a i)++M))]⟩ ?_ ?_
 refine ak Z (fun z29=>?_) (fun z29=>?_)
 refine ae ?_
 obtain⟨k,hk⟩:=iB (show 0≤(gd (fun p:Pt=>decide (p.k=(i:Int))) a.pts) by simpa using z29)
 obtain⟨hk1,_⟩:=kF hk
 have hgl:=(terms_sp (n:=6) (hpf k hk1)).2
 rw[hk]
 refine js Z (aY (bL O Z Z Z Z Z Z Z Z Z Z Z) Z (aB ?_))
 refine aY (cZ (own:=false) (xs:=(ch cr a.pre++ch bR a.post++dj a i).map (fun p=>[sD p])) (ys:=[[sD bT]]) (zs:=((ch cr a.pre++ch bR a.post++dj a i)++[bT]).map (fun p=>[sD p])) (n:=((ch cr a.pre++ch bR a.post++dj a i)++[bT]).length) O Z (.row Z (bd _).symm) (.whole Z Z (.inr ⟨Z,Z⟩)) (by simp) Z (by simp;omega) (by simp;omega) (by simp) (by simp)) Z (aB ?_)
 refine aB ?_
 refine jf [32,29,28,7,6,1,3,4,18,19,20] Z (jo Z (aB ?_))
 refine aB ?_
 refine jn (ab (aM Z (aa (aE O Z Z Z Z Z Z Z Z (cb hk1)) Z (ac Z (jf [39,33,32,29,28,7,6,1,3,4,18,19,20] Z (cu O [3,32] (bin:=[lB ((ch cr a.pre++ch bR a.post++dj a i)++[bT]) 1,lR ((ch cr a.pre++ch bR a.post++dj a i)++[bT])]) Z Z Z Z (sQ (p:=jD) (ts:=(a.pts.getD k default).fs) (ls:=(ch cr a.pre++ch bR a.post++dj a i)++[bT]) h1 h2 (by decide) (hpf k hk1) (by simp only[bP,sj];omega)) Z Z Z Z Z Z (B0:=41000) Z Z (aB ?_)))))))
 refine jf [32,29,28,7,6,1,3,4,18,19,20] Z (jn ?_)
 exact⟨Z,((aC [3,41002] (e':=[(1,_),(3,_),(4,_),(6,_),(18,_),(19,_),(20,_)]) Z Z ⟨Z,Z,Z,Z,Z,Z,Z,ao⟩ Z).trans (aL 41002 900 Z Z)).trans (Ent.to ⟨Z,Z,Z,Z,Z,Z,Z,ao⟩ (by rw[show(ch cr a.pre++ch bR a.post++dj a i)++M=(ch cr a.pre++ch bR a.post++dj a i)++[bT]++(ch jD (a.pts.getD k default).fs) by rw[hM1 k hk];simp];rfl))⟩
 refine af ?_
 exact⟨Z,Ent.to ⟨Z,Z,Z,Z,Z,Z,Z,ao⟩ (by rw[hM0 (by simpa using z29),List.append_nil])⟩
 refine w6 [_,_,_,_,_,_] [pn [] 0 2,bC,pe [1] 0,pe [1,2] 1,pe (rg 0 4) 2,pe (rg 0 5) 3] [2,3,4,5] [_,_,_,_,_] [[],[],[900],[]] (ai (ka Z Z (ka Z Z (kw Z Z))) (ka Z Z (ai (ai (fY (aP O (B0:=44000) Z Z Z Z (wR (x:=(a.code.getD i default)) h1 h2 (hin i hi0)) (ah Z) Z Z Z Z Z)) Z) (ai (ai (fY (oB O Z Z Z Z Z Z Z Z Z Z Z Z Z Z)) Z) (ai (ai (j7 (own:=false) (xs:=((ch cr a.pre++ch bR a.post++dj a i)++M).map (fun p=>[sD p])) (ys:=[[sD (fU (a.code.getD i default))]]) (zs:=(((ch cr a.pre++ch bR a.post++dj a i)++M)++[(fU (a.code.getD i default))]).map (fun p=>[sD p])) (n:=(((ch cr a.pre++ch bR a.post++dj a i)++M)++[(fU (a.code.getD i default))]).length) O Z Z Z Z Z Z Z Z Z Z Z Z Z Z Z Z (.row Z (bd _).symm) (.whole Z Z (.inr ⟨Z,Z⟩)) (by simp) Z (by simp;omega) (by simp;omega) (by simp) (by simp) Z) Z) (ai (ai (fY (eS Z Z Z)) Z) trivial)))))) ?_
 refine jw [1,3,4,6,18,19,20] Z (nv ?_)
 refine ab ?_
 first|refine ji Z ?_|refine aU Z Z ?_
 refine js Z (jn ?_)
 refine⟨i+1,((aC [3,45] (e':=[(1,_),(3,_),(4,_),(18,_),(19,_),(20,_)]) Z Z ⟨Z,Z,Z,Z,Z,Z,ao⟩ Z).trans (aL 45 900 Z Z)).trans (Ent.to ⟨Z,Z,Z,Z,Z,Z,ao⟩ (by rw[hnx];rfl)),by omega,by omega⟩
 refine aJ (ae ?_)
 obtain rfl:i=a.code.length:=by have:=bw z21;omega
 refine js Z (aZ O Z Z Z Z (zM (ls:=f1 a) h1 h2 (by show(cH a).length≤L;omega) (by have:=k6 (c:=10) (ls:=f1 a);have h:(bz 10 (f1 a)).length≤30000:=htl;omega)) (.cons (.c (.whole Z (show(f1 a).length=((f1 a).map _).length from(bd _).symm))) .nil) Z Z Z Z Z (B0:=49000) Z (js Z (jf [2,21,1,3,4,18,19,20] Z (jr ?_))))
 refine ay Z ?_
 rfl
end Go.Al
/- The program's packageBytes: the bytes, written by a strings.Builder. -/
namespace Go.Al
variable{L:Nat}(h1:4096≤L)(h2:L≤1073741824)
open Go.Proofs Go.RowKit
set_option maxRecDepth 1000000
abbrev Pk.cells(p:Pk):List D:=sD p.nm::(p.an.data++[o9 p.pf])
abbrev so(p:Pk):A:=.agg (p.cells.map .d)
def kq:Code→Code
  | .seq _ c=>c
  | c=>c
theorem aG{α:Type}{l:List α}{n:Nat}(h:l.length=n+1): ∃v r,l=v::r∧r.length=n:=by
 cases l with
 | nil=>cases h
 | cons v r=>exact⟨v,r,Z,by simpa using h⟩
theorem vx{L:Nat}{w:World}{ok:Nat→Prop}{m:Nat→Loc}{cs:List D}{off:Nat}{v:Value}(h:RA L w ok m (.c (.d (.ptr cs off))) v): ∃b o,v= .pointer (some ⟨b,o+off,none⟩)∧b<w.heap.size∧RDs L w ok cs b o []:=by
 cases h with
 | c h=>cases h with
  | d h=>cases h with
    | ptr h1 h2 h3=>exact⟨_,_,Z,h2,h3⟩
theorem ve{L:Nat}{w:World}{ok:Nat→Prop}{sz:Nat}{xs:List (List D)}{v:Value}{F:List Nat}(h:RD L w ok (.slc sz xs) v F): ∃base cap,v= .slice base xs.length cap:=by
 cases h with
 | slc0=>exact⟨_,_,Z⟩
 | slc h1 h2 h3 h4 h5 h6=>exact⟨_,_,Z⟩
 | own h1 h2 h3 h4 h5 h6 h7=>exact⟨_,_,Z⟩
theorem uw{L:Nat}(h1:4096≤L)(h2:L≤1073741824)(hL:1048576<L){s:Str}{w:World}{ok:Nat→Prop}(hg:GOk Tryz.prog w ok)(hs:s.length≤40000) :
    Calls Tryz.prog 46 #[.string (bS s)] w fun e w'=>e= .returned (.tuple #[.string (bS (fT s)),.bool true])∧Below w.heap.size w w':=by
 refine Calls.mono ((zT (s:=s) h1 h2 hs hL).calls hg (vs:=[.string (bS s)]) (.cons (.c (.d (.str (by rw[bS_size];omega)))) .nil)) fun e w' he=>?_
 cases e with
 | returned x=>
  obtain⟨hB,_,_,hr⟩:=he
  refine⟨?_,hB⟩
  cases hr with
  | tup h=>cases h with
   | cons a b=>cases b with
     | cons c d=>
       cases d
       rw[a.str_inv.1,c.bool_inv]
 | _=>exact he.elim
theorem ow{L:Nat}(h1:4096≤L)(h2:L≤1073741824){n:Nat}{w:World}{ok:Nat→Prop}(hg:GOk Tryz.prog w ok)(hn:n≤1000000000000000) :
    Calls Tryz.prog 32 #[.int .i64 (n:Int)] w fun e w'=>e= .returned (.string (bS (ck (2*n))))∧Below w.heap.size w w':=by
 refine Calls.mono ((wT (n:=n) h1 h2 hn).calls hg (vs:=[.int .i64 (n:Int)]) (.cons (.c (.d (.int (by show(-9223372036854775808:Int)≤_;omega) (by show _≤(9223372036854775807:Int);omega)))) .nil)) fun e w' he=>?_
 cases e with
 | returned x=>
  obtain⟨hB,_,_,hr⟩:=he
  exact⟨by rw[hr.str_inv.1],hB⟩
 | _=>exact he.elim
theorem ux{L:Nat}(h1:4096≤L)(h2:L≤1073741824){s:Str}{w:World}{ok:Nat→Prop}(hg:GOk Tryz.prog w ok)(hs:s.length≤L) :
    Calls Tryz.prog 48 #[.string (bS s)] w fun e w'=>e= .returned (.int .i64 (kt s:Nat))∧Below w.heap.size w w':=by
 refine Calls.mono ((zS (s:=s) h1 h2 hs).calls hg (vs:=[.string (bS s)]) (.cons (.c (.d (.str (by rw[bS_size];omega)))) .nil)) fun e w' he=>?_
 cases e with
 | returned x=>
  obtain⟨hB,_,_,hr⟩:=he
  exact⟨by rw[hr.int_inv'],hB⟩
 | _=>exact he.elim
theorem rS{L:Nat}(h1:4096≤L)(h2:L≤1073741824){n:Nat}{w:World}{ok:Nat→Prop}(hg:GOk Tryz.prog w ok)(hn:n≤1000000000000000) :
    Calls Tryz.prog 30 #[.int .i64 (n:Int)] w fun e w'=>e= .returned (.int .i64 (n:Int))∧Below w.heap.size w w':=by
 refine Calls.mono ((mC (n:=(n:Int)) h1 h2).calls hg (vs:=[.int .i64 (n:Int)]) (.cons (.c (.d (.int (by show(-9223372036854775808:Int)≤_;omega) (by show _≤(9223372036854775807:Int);omega)))) .nil)) fun e w' he=>?_
 cases e with
 | returned x=>
  obtain⟨hB,_,_,hr⟩:=he
  exact⟨by rw[hr.int_inv'],hB⟩
 | _=>exact he.elim
theorem fy{T e:TypeId}{B b:Nat}{bs:List Value}{w w':World}(h:Lib.IsBuilderF T e B b bs w)(hb:Below w.heap.size w w'):Lib.IsBuilderF T e B b bs w':=by
 have key: ∀{p},Lib.BuilderAtF T e B b p bs w→Lib.BuilderAtF T e B b p bs w':=fun{p} h=>by
  obtain⟨hB,v,h1,⟨hl,hv⟩,hne⟩:=h
  have same: ∀k o,w.heap[k]? = some o→w'.heap[k]? = some o:=fun k o hk=>(hb.block k (Array.getElem?_eq_some_iff.1 hk).1).trans hk
  refine⟨hB,v,same _ _ h1,⟨hl,?_⟩,hne⟩
  rcases hv with hn|⟨g,cap,cur,fz,rfl,hg,hgg,rest⟩
  · exact .inl hn
  · exact .inr ⟨g,cap,cur,fz,rfl,hg,same _ _ hgg,rest⟩
 exact h.elim (fun x=>.inl (key x)) (fun x=>.inr (key x))
theorem kR{T e:TypeId}{B b:Nat}{p:Value}{s t:Str}{w:World}(h:Lib.BuilderAtF T e B b (.pointer (some ⟨b,0,none⟩)) (Lib.byteCells s++Lib.strCells (bS t)) w):Lib.IsBuilderF T e B b (Lib.byteCells (s++t)) w:=by
 refine .inr ?_
 rw[Lib.byteCells_append,←jM]
 exact h
theorem vy {L:Nat}(h1:4096≤L)(h2:L≤1073741824)(hL:1048576<L){p:Pk}(hv:pkB p=true){Q:cg}(hQ:Q .ret ⟨[(2,aS8 (fR p)),(3,eB (decide ((fR p).length≤40000)))],[]⟩) :
    AWP (SG L 63) (kq (kq (kq (Tryz.f16.body.getD Code.skip)))) Q ⟨[(1,ptr p.cells),(4,.c (.d (strs (j8 p))))],[]⟩:=by
  intro Γ eq a w hR
  obtain⟨m,F,hR0⟩:=hR
  obtain⟨sg,w0,Fin,ok0,m0,good,fin⟩:=Γ
  obtain rfl:sg=SG L 63:=eq
  obtain⟨⟨l⟩,ds⟩:=a
  have hd:ds=[]:=hR0.defers
  subst hd
  have hlen:l.length=62+1:=hR0.size
  obtain⟨v0,l0,rfl,g0⟩:=aG hlen
  obtain⟨v1,l1,rfl,g1⟩:=aG g0
  obtain⟨v2,l2,rfl,g2⟩:=aG g1
  obtain⟨v3,l3,rfl,g3⟩:=aG g2
  obtain⟨v4,l4,rfl,g4⟩:=aG g3
  obtain⟨v5,l5,rfl,g5⟩:=aG g4
  obtain⟨v6,l6,rfl,g6⟩:=aG g5
  obtain⟨v7,l7,rfl,g7⟩:=aG g6
  obtain⟨v8,l8,rfl,g8⟩:=aG g7
  obtain⟨v9,l9,rfl,g9⟩:=aG g8
  obtain⟨v10,l10,rfl,g10⟩:=aG g9
  obtain⟨v11,l11,rfl,g11⟩:=aG g10
  obtain⟨v12,l12,rfl,g12⟩:=aG g11
  obtain⟨v13,l13,rfl,g13⟩:=aG g12
  obtain⟨v14,l14,rfl,g14⟩:=aG g13
  obtain⟨v15,l15,rfl,g15⟩:=aG g14
  obtain⟨v16,l16,rfl,g16⟩:=aG g15
  obtain⟨v17,l17,rfl,g17⟩:=aG g16
  obtain⟨v18,l18,rfl,g18⟩:=aG g17
  obtain⟨v19,l19,rfl,g19⟩:=aG g18
  obtain⟨v20,l20,rfl,g20⟩:=aG g19
  obtain⟨v21,l21,rfl,g21⟩:=aG g20
  obtain⟨v22,l22,rfl,g22⟩:=aG g21
  obtain⟨v23,l23,rfl,g23⟩:=aG g22
  obtain⟨v24,l24,rfl,g24⟩:=aG g23
  obtain⟨v25,l25,rfl,g25⟩:=aG g24
  obtain⟨v26,l26,rfl,g26⟩:=aG g25
  obtain⟨v27,l27,rfl,g27⟩:=aG g26
  obtain⟨v28,l28,rfl,g28⟩:=aG g27
  obtain⟨v29,l29,rfl,g29⟩:=aG g28
  obtain⟨v30,l30,rfl,g30⟩:=aG g29
  obtain⟨v31,l31,rfl,g31⟩:=aG g30
  obtain⟨v32,l32,rfl,g32⟩:=aG g31
  obtain⟨v33,l33,rfl,g33⟩:=aG g32
  obtain⟨v34,l34,rfl,g34⟩:=aG g33
  obtain⟨v35,l35,rfl,g35⟩:=aG g34
  obtain⟨v36,l36,rfl,g36⟩:=aG g35
  obtain⟨v37,l37,rfl,g37⟩:=aG g36
  obtain⟨v38,l38,rfl,g38⟩:=aG g37
  obtain⟨v39,l39,rfl,g39⟩:=aG g38
  obtain⟨v40,l40,rfl,g40⟩:=aG g39
  obtain⟨v41,l41,rfl,g41⟩:=aG g40
  obtain⟨v42,l42,rfl,g42⟩:=aG g41
  obtain⟨v43,l43,rfl,g43⟩:=aG g42
  obtain⟨v44,l44,rfl,g44⟩:=aG g43
  obtain⟨v45,l45,rfl,g45⟩:=aG g44
  obtain⟨v46,l46,rfl,g46⟩:=aG g45
  obtain⟨v47,l47,rfl,g47⟩:=aG g46
  obtain⟨v48,l48,rfl,g48⟩:=aG g47
  obtain⟨v49,l49,rfl,g49⟩:=aG g48
  obtain⟨v50,l50,rfl,g50⟩:=aG g49
  obtain⟨v51,l51,rfl,g51⟩:=aG g50
  obtain⟨v52,l52,rfl,g52⟩:=aG g51
  obtain⟨v53,l53,rfl,g53⟩:=aG g52
  obtain⟨v54,l54,rfl,g54⟩:=aG g53
  obtain⟨v55,l55,rfl,g55⟩:=aG g54
  obtain⟨v56,l56,rfl,g56⟩:=aG g55
  obtain⟨v57,l57,rfl,g57⟩:=aG g56
  obtain⟨v58,l58,rfl,g58⟩:=aG g57
  obtain⟨v59,l59,rfl,g59⟩:=aG g58
  obtain⟨v60,l60,rfl,g60⟩:=aG g59
  obtain⟨v61,l61,rfl,g61⟩:=aG g60
  obtain⟨v62,l62,rfl,g62⟩:=aG g61
  obtain rfl:=List.length_eq_zero_iff.1 g62
  clear hlen g0 g1 g2 g3 g4 g5 g6 g7 g8 g9 g10 g11 g12 g13 g14 g15 g16 g17 g18 g19 g20 g21 g22 g23 g24 g25 g26 g27 g28 g29 g30 g31 g32 g33 g34 g35 g36 g37 g38 g39 g40 g41 g42 g43 g44 g45 g46 g47 g48 g49 g50 g51 g52 g53 g54 g55 g56 g57 g58 g59 g60 g61 g62
  have e1:RA L w _ m (ptr p.cells) v1:=hR0.env 1 _ Z
  have e4:RA L w _ m (.c (.d (strs (j8 p)))) v4:=hR0.env 4 _ Z
  have hg:=hR0.good (F1:=F) fun b hb=>hb
  obtain⟨b1,o1,rfl,hb1,hr1⟩:=vx e1
  obtain⟨u5,hu5,hr5⟩:=hr1.get rfl (j:=5) (d:=o9 p.pf) rfl
  obtain⟨bs5,cap5,rfl⟩:=ve hr5
  rw[bd]at hu5
  have htl:=pg hv
  have hbl:=pN hv
  obtain⟨hnm,han,hpf,hpr⟩:=pkB_iff.1 hv
  rcases kH e4 with⟨h,_⟩|⟨b,off,cap,rfl,hb,hcap,hc⟩
  · cases h
  have hnl:(se p).length≤10:=cJ (by omega)
  have htn:(j8 p).length=p.pf.length+2:=by simp[j8]
  have hacc: ∀{i},i≤(j8 p).length→(i6 (j8 p) (se p) i).length≤3000000:=fun{i} hi=>by have:=oy (c:=se p) htl hnl hi;omega
  show Code.wp Tryz.prog _ _ _ _
  dsimp only[kq,Tryz.f16,Option.getD]
  go_wp2_with fail
  go_loopw [33] (fun v wr=> ∃i:Nat,v= .int .i64 i∧i≤(j8 p).length∧Lib.IsBuilderF 87 5 w.heap.size w.heap.size (Lib.byteCells (i6 (j8 p) (se p) i)) wr∧Below w.heap.size w wr) (fun v _=>(j8 p).length-yr v)
  case atStart=>exact⟨0,rfl,ca _,Lib.IsBuilderF.of (Lib.fresh_isBuilder 87 5 w),(Below.refl _ w).alloc (bQ _) _⟩
  case round=>
    obtain⟨i,rfl,hi,hB,hbw⟩:=hrel
    by_cases hlt:i<(j8 p).length
    · obtain⟨hcell,_⟩:=hc i (j8 p)[i] (by simp[hlt])
      have hcw:wr.cell? ⟨b,off+i,none⟩=some (.string (bS (j8 p)[i])):=(Same.cell (show Same w wr b from hbw.block b hb)).trans hcell
      have hsl:=htl (j8 p)[i] (List.getElem_mem hlt)
      have hpt:=kk hsl
      have hai:=hacc (i:=i) hi
      have hst: ∀c,i6 (j8 p) c (i+1)=i6 (j8 p) c i++fT (j8 p)[i]++(if i=1 then c else[]):=fun c=>by
        rw[i6,show(j8 p).getD i []=(j8 p)[i] by simp[List.getD_eq_getElem?_getD,hlt]]
      go_wp2_with fail
      refine(uw h1 h2 hL (hg.below hbw) hsl).mono fun e W1 ⟨he,q1⟩=>?_
      subst he
      have hB1:=fy hB q1
      have hw1:=hbw.trans (q1.mono hbw.size)
      go_wp2_with fail
      refine(Tryz.Builder_WriteString_f w.heap.size w.heap.size _ _ W1 hB1 (by rw[Lib.byteCells_length,bS_size];omega) hw1.size).mono fun e W2 ⟨he,k2,q2⟩=>?_
      subst he
      have hw2:=hw1.trans q2
      have hB2:=kR (p:=.pointer none) k2
      by_cases hi1:i=1
      · subst hi1
        have hu:W2.cell? ⟨b1,o1+5,none⟩=some (Value.slice bs5 p.pf.length cap5):=(Same.cell (show Same w W2 b1 from hw2.block b1 hb1)).trans hu5
        go_wp2_with fail
        refine(rS h1 h2 (n:=p.pf.length) (hg.below hw2) (by omega)).mono fun e W3 ⟨he,q3⟩=>?_
        subst he
        have hB3:=fy hB2 q3
        have hw3:=hw2.trans (q3.mono hw2.size)
        go_wp2_with fail
        refine(ow h1 h2 (n:=p.pf.length) (hg.below hw3) (by omega)).mono fun e W4 ⟨he,q4⟩=>?_
        subst he
        have hB4:=fy hB3 q4
        have hw4:=hw3.trans (q4.mono hw3.size)
        have hnl2:(ck (2*p.pf.length)).length≤10:=hnl
        go_wp2_with fail
        refine(Tryz.Builder_WriteString_f w.heap.size w.heap.size _ _ W4 hB4 (by rw[Lib.byteCells_length,bS_size,bP];omega) hw4.size).mono fun e W5 ⟨he,k5,q5⟩=>?_
        subst he
        go_wp2_with fail
        go_roundw
        case rel=>
          refine⟨1+1,by simp,by omega,?_,hw4.trans q5⟩
          rw[hst,if_pos trivial]
          exact kR (p:=.pointer none) k5
        case measure=>
          simp[yr]
          omega
      · have hi2: ¬(i:Int)=1:=by omega
        go_wp2_with fail
        go_roundw
        case rel=>
          refine⟨i+1,by simp,by omega,?_,hw2⟩
          rw[hst,if_neg hi1,List.append_nil]
          exact hB2
        case measure=>
          simp[yr]
          omega
    · obtain rfl:i=(j8 p).length:=by omega
      rw[uz]at hB
      have hck:=pL (s:=iq p)
      have hml:=cJ (m:=2*kt (iq p)) (by omega)
      go_wp2_with fail
      refine(Tryz.Builder_String_any_f w.heap.size w.heap.size (iq p) wr hB hbw.size).mono fun e W1 ⟨he,hB1,q1⟩=>?_
      subst he
      have hw1:=hbw.trans q1
      go_wp2_with fail
      refine(ux h1 h2 (s:=iq p) (hg.below hw1) (by omega)).mono fun e W2 ⟨he,q2⟩=>?_
      subst he
      have hB2:=fy hB1 q2
      have hw2:=hw1.trans (q2.mono hw1.size)
      go_wp2_with fail
      refine(ow h1 h2 (n:=kt (iq p)) (hg.below hw2) (by omega)).mono fun e W3 ⟨he,q3⟩=>?_
      subst he
      have hB3:=fy hB2 q3
      have hw3:=hw2.trans (q3.mono hw2.size)
      go_wp2_with fail
      refine(Tryz.Builder_WriteString_f w.heap.size w.heap.size _ _ W3 hB3 (by rw[Lib.byteCells_length,bS_size];omega) hw3.size).mono fun e W4 ⟨he,k4,q4⟩=>?_
      subst he
      have hw4:=hw3.trans q4
      have hB4:Lib.IsBuilderF 87 5 w.heap.size w.heap.size (Lib.byteCells (fR p)) W4:=kR (p:=.pointer none) k4
      go_wp2_with fail
      refine(Tryz.Builder_String_any_f w.heap.size w.heap.size (fR p) W4 hB4 hw4.size).mono fun e W5 ⟨he,hB5,q5⟩=>?_
      subst he
      have hw5:=hw4.trans q5
      go_wp2_with fail
      refine(Tryz.Builder_Len_f w.heap.size w.heap.size _ W5 hB5).mono fun e W6 ⟨he,hw⟩=>?_
      subst he
      subst hw
      rw[Lib.byteCells_length]
      have hal:(fR p).length≤1000000:=by unfold fR;rw[bP];omega
      go_wp2_with fail
      have hdec:decide (((fR p).length:Int)≤40000)=decide ((fR p).length≤40000):=decide_eq_decide.2 (by omega)
      rw[hdec]
      refine⟨⟨[(2,aS8 (fR p)),(3,eB (decide ((fR p).length≤40000)))],[]⟩,⟨fun _=>.nil,[],?_⟩,hQ⟩
      refine⟨.nil,List.nodup_nil,(fun b hb=>by cases hb),fun t v ht=>?_,rfl,rfl,⟨hw5.os.trans hR0.frame.os,hw5.tape.trans hR0.frame.tape,hw5.output.trans hR0.frame.output,Nat.le_trans hR0.frame.size hw5.size,fun b hb hn=>(hw5.block b (Nat.lt_of_lt_of_le hb hR0.frame.size)).trans (hR0.frame.block b hb hn)⟩,fun l _ h=>(by cases h),fun l b c z h=>(by cases h)⟩
      simp only[az,bg]at ht
      split at ht
      · rename_i e
        subst e
        cases ht
        exact .c (.d (.str (by show(bS (fR p)).size≤L;rw[bS_size];omega)))
      · split at ht
        · rename_i e
          subst e
          cases ht
          exact .c (.d .bool)
        · cases ht
def sa(p:Pk)(i:Nat):List Str:=p.nm::cH p.an::(p.pf.take i).map gD
theorem wc{p:Pk}{i:Nat}(h:i<p.pf.length):sa p (i+1)=sa p i++[gD (p.pf.getD i default)]:=by
 unfold sa
 rw[List.take_succ_eq_append_getElem h,List.map_append,getD_lt h];rfl
theorem uY{p:Pk}:sa p p.pf.length=j8 p:=by unfold sa j8;rw[List.take_length]
theorem zZ{p:Pk}(hv:pkB p=true)(hL:1048576<L):MQ h1 h2 16 [so p] [] (Plain (.tup [aS8 (fR p),eB (decide ((fR p).length≤40000))])):=by
 refine jB 63 h1 h2 Tryz.func16 Z fun O hF=>?_
 obtain⟨hnm,han,hpf,hpr⟩:=pkB_iff.1 hv
 have hl:p.pf.length≤L:=by omega
 refine ae (jx Z (aB ?_))
 refine aK (Ent.freeze 1 (e':=[(1,_),(0,_)]) Z (.cons Z (.c (.box (cs:=p.cells) Z (aW Z))) (fe [0] Z)) (.skip .nil)) ?_
 refine aB ?_
 refine ac Z (jn (ag (lC [_,_,_,_,_,_,_] [pn [] 0 1,pn [0] 0 1,bC,bb [2],pe [2,3] 0,pe (rg 0 5) 1,pn (rg 0 6) 2 2] [4,5] [_,_,_] (ai (kc Z (V Z)) (ai (kc Z (V Z)) (kc Z (kc Z (ai (aP O (B0:=17000) Z Z Z Z (wU (a:=p.an) h1 h2 han hL) (ah Z) Z Z Z Z Z) (ai (uC O Z Z Z Z Z Z Z Z Z Z Z Z Z) (kc Z trivial))))))) ?_)))
 refine jw [4,3,2,1,0] Z (nv ?_)
 refine ag (ae (ac Z ?_))
 first|refine cm Z ?_|refine js Z ?_|refine aU Z Z ?_
 refine js Z (jn (am (av (X:=Nat) (fun i=>⟨[(1,ptr p.cells),(4,.c (.rs 900 0 (sa p i).length)),(19,lP p.pf),(20,eI p.pf.length),(21,eI i)],[(900,.row false 1 ((sa p i).map (fun p=>[sD p])))]⟩) (fun i=>i≤p.pf.length) (fun i=>p.pf.length-i) 0 ((aL 17 900 Z Z).trans (Ent.to ⟨Z,Z,Z,Z,Z,ao⟩ Z)) ?_ (fun i hi=>?_))))
 exact ca _
 refine ae (js Z (jn (ag (ak Z (fun z22=>?_) (fun z22=>?_)))))
 refine af (ag (am (ae ?_)))
 have hi0:i<p.pf.length:=by have:=bc z22;omega
 have hpi:isB (p.pf.getD i default)=true:=by rw[getD_lt hi0];exact hpr _ (List.getElem_mem hi0)
 have htl:(sa p i).length=(p.pf.take i).length+2:=by unfold sa;simp
 rw[List.length_take]at htl
 refine aa (aE O Z Z Z Z Z Z Z Z (cb hi0)) Z (ac Z (jf [6,22,1,4,19,20,21] Z (jn (ab (ac Z (jf [26,25,22,1,4,19,20,21] Z (aO Z (zU (p:=p.pf.getD i default) h1 h2 hpi hL) 28000 Z (jf [27,25,22,1,4,19,20,21] Z (aY (bL O Z Z Z Z Z Z Z Z Z Z Z) Z (aB ?_))))))))))
 refine jf [28,25,22,1,4,19,20,21] Z (aY (cZ (own:=false) (xs:=(sa p i).map (fun p=>[sD p])) (ys:=[[sD (gD (p.pf.getD i default))]]) (zs:=((sa p i)++[(gD (p.pf.getD i default))]).map (fun p=>[sD p])) (n:=((sa p i)++[(gD (p.pf.getD i default))]).length) O Z (.row Z (bd _).symm) (.whole Z Z (.inr ⟨Z,Z⟩)) (by simp) Z (by simp;omega) (by simp;omega) (by simp) (by simp)) Z (aB ?_))
 refine aB ?_
 refine js Z (jf [4,22,1,19,20,21] Z (jn (ab ?_)))
 first|refine ji Z ?_|refine aU Z Z ?_
 refine js Z (jn ?_)
 refine⟨i+1,((aC [29] (e':=[(1,_),(4,_),(19,_),(20,_),(21,_)]) Z Z ⟨Z,Z,Z,Z,Z,ao⟩ Z).trans (aL 29 900 Z Z)).trans (Ent.to ⟨Z,by rw[wc hi0];rfl,Z,Z,Z,ao⟩ (by rw[wc hi0];rfl)),by omega,by omega⟩
 refine aJ ?_
 obtain rfl:i=p.pf.length:=by have:=bw z22;omega
 rw[uY]
 refine rt ((aC [900] (e':=[(1,_),(4,_)]) Z Z ⟨Z,Z,ao⟩ Z).trans (Ent.freeze 900 (e':=[(1,_),(4,_)]) Z (.cons Z (.keep Z) (.cons Z (.c (.row Z (bd _).symm)) .nil)) (.skip .nil))) ?_
 refine vy h1 h2 hL hv ?_
 refine ay Z ?_
 exact⟨Z,Z⟩
theorem zV{q:List Nd}:MQ h1 h2 44 [dF q] [] (Plain (eB (!nn q))):=by
 refine au ?_ Z
 refine jB 6 h1 h2 Tryz.func44 Z fun O hF=>?_
 refine ae (js Z (be (js Z (jf [3,2] Z (aO Z (xn (p:=q) h1 h2) 5000 Z (ac Z (jf [2] Z (jr ?_))))))))
 refine ay Z ?_
 rfl
variable{qs:List (List Nd)}
theorem zN:MQ h1 h2 97 [lP qs,.c (.fn 44 [])] [] (Plain (eI (gd (fun q:List Nd=>!nn q) qs))):=by
 refine au ?_ Z
 refine jB 19 h1 h2 Tryz.func97 Z fun O hF=>?_
 have hl:qs.length≤L:=by simpa[As.fact,A.fact,M.fact,D.fact,Ds.fact]using hF.1.1
 refine ae (js Z (jn (ag (ae (js Z ?_)))))
 first|refine cm Z ?_|refine js Z ?_|refine aU Z Z ?_
 refine js Z (jn (am (av (X:=Nat) (fun i=>⟨[(0,lP qs),(1,.c (.fn 44 [])),(7,eI qs.length),(8,eI i)],[]⟩) (fun i=>i≤qs.length∧∀j (h:j<qs.length),j<i→(fun q:List Nd=>!nn q) qs[j]=false) (fun i=>qs.length-i) 0 (Ent.env ⟨Z,Z,Z,Z,ao⟩) ?_ (fun i hi=>?_))))
 exact⟨ca _,fun j h hj=>absurd hj (Nat.not_lt_zero j)⟩
 refine ae (js Z (jn (ag (ak Z (fun z9=>?_) (fun z9=>?_)))))
 refine af (ag (am (ae ?_)))
 have hil:i<qs.length:=by have:=bc z9;omega
 refine ac Z (be (aF Z ?_))
 first|refine uG Z Z ?_|refine lA Z Z ?_|refine aU Z Z ?_
 refine js Z (bJ [(15,_),(11,_),(5,_),(10,_),(9,_),(0,_),(1,_),(7,_),(8,_)] [] ⟨Z,Z,Z,Z,Z,Z,Z,Z,Z,ao⟩ Z (aO Z (zV (q:=qs.getD i default) h1 h2) 17000 Z (jf [16,5,10,9,0,1,7,8] Z (jn (ak Z (fun z16=>?_) (fun z16=>?_))))))
 refine ae (ac Z (jr ?_))
 refine ay Z ?_
 rw[getD_lt hil]at z16
 rw[gS hil hi.2 z16]
 refine af (ab ?_)
 first|refine ji Z ?_|refine aU Z Z ?_
 refine js Z (jn ?_)
 refine⟨i+1,Ent.env ⟨Z,Z,Z,Z,ao⟩,⟨by omega,fun j h hj=>?_⟩,by omega⟩
 by_cases e:j=i
 subst e;rw[getD_lt h]at z16;exact z16
 exact hi.2 j h (by omega)
 refine aJ (ae (js Z (jr ?_)))
 refine ay Z ?_
 have h9:=bw z9
 rw[gR (fun j hj=>hi.2 j hj (by omega))]
theorem zW:MQ h1 h2 43 [lP qs,.c (.fn 44 [])] [] (Plain (eB (qs.any (fun q:List Nd=>!nn q)))):=by
 refine au ?_ Z
 refine jB 9 h1 h2 Tryz.func43 Z fun O hF=>?_
 refine ae (js Z (be (ac Z (aZ O Z Z Z Z (zN (qs:=qs) h1 h2) (.cons (.c .d) (.cons (.c (.fn .nil)) .nil)) Z Z Z Z Z (B0:=8000) Z (ac Z (jr ?_))))))
 refine ay Z ?_
 exact congrArg eB pD
theorem Bi{p:Pk}:(bif (bif (bif mw p.nm then dC p.an else false)then decide ((p.pf.length:Int)≤60)else false)then !(p.pf.any fun q=>!nn q)else false)=pkB p:=by
 have e:(!(p.pf.any fun q=>!nn q))=p.pf.all isB:=by
  rw[List.all_eq_not_any_not]
  exact congrArg _ (List.any_congr Z fun q=>by rw[pE])
 have e2:decide ((p.pf.length:Int)≤60)=decide (p.pf.length≤60):=decide_eq_decide.2 (by omega)
 rw[e,e2]
 unfold pkB
 cases mw p.nm<;>cases dC p.an<;>cases decide (p.pf.length≤60)<;>rfl
theorem Aa{p:Pk}(hlp:p.pf.length≤L):MQ h1 h2 15 [so p] [] (Plain (eB (pkB p))):=by
 refine au ?_ Z
 refine jB 23 h1 h2 Tryz.func15 Z fun O hF=>?_
 refine ae (jx Z (aB ?_))
 refine aK (Ent.freeze 1 (e':=[(1,_),(0,_)]) Z (.cons Z (.c (.box (cs:=p.cells) Z (aW Z))) (fe [0] Z)) (.skip .nil)) ?_
 refine aB ?_
 refine js Z (be (ac Z (jf [4,2,1,0] Z (aO Z (zX (s:=p.nm) h1 h2) 6000 Z (js Z (jf [6,2,1,0] Z (ar 3 Z Z Z (fun hx=>aq hx Z (aq hx Z (bj O hx Z Z Z Z (Cb (a:=p.an) h1 h2) (ah Z) Z Z Z Z Z Z Z (B0:=10000) Z (AN.nil)))) Z Z ?_)))))))
 first|refine aa (aj O Z Z Z Z Z) Z ?_|refine aa (al O Z Z Z Z Z) Z ?_|refine aa (Val.pickB O Z Z Z Z Z) Z ?_
 refine js Z (jf [11,2,1,0] Z (ar 4 Z Z Z (fun hx=>aq hx Z (aq hx Z (bf hx (bF O Z Z Z Z Z Z Z Z) Z (aq hx Z (AN.nil))))) Z Z ?_))
 first|refine aa (aj O Z Z Z Z Z) Z ?_|refine aa (al O Z Z Z Z Z) Z ?_|refine aa (Val.pickB O Z Z Z Z Z) Z ?_
 refine js Z (jf [17,2,1,0] Z (ar 4 Z Z Z (fun hx=>aq hx Z (aq hx Z (bj O hx Z Z Z Z (zW (qs:=p.pf) h1 h2) (.cons (.c .d) (.cons (.c (.fn .nil)) .nil)) Z Z Z Z Z Z Z (B0:=21000) Z (aq hx Z (AN.nil))))) Z Z ?_))
 first|refine aa (aj O Z Z Z Z Z) Z ?_|refine aa (al O Z Z Z Z Z) Z ?_|refine aa (Val.pickB O Z Z Z Z Z) Z ?_
 refine js Z (jf [2,0] Z (jr ?_))
 refine ay Z ?_
 exact congrArg eB Bi
theorem yH{p:Pk}{b:Bool}(h:(bif (bif !mw p.nm then true else !dC p.an)then true else decide ((60:Int)<(p.pf.length:Int)))=b):(b=true→pkB p=false)∧(b=false→mw p.nm=true∧dC p.an=true∧p.pf.length≤60):=by
 subst h
 unfold pkB
 by_cases h3:p.pf.length≤60
 simp only[h3,decide_true,show¬(60:Int)<(p.pf.length:Int) by omega,decide_false]
 cases mw p.nm<;>cases dC p.an<;>simp
 simp only[h3,decide_false,show(60:Int)<(p.pf.length:Int) by omega,decide_true]
 cases mw p.nm<;>cases dC p.an<;>simp
theorem Ac{p:Pk}(hlp:p.pf.length≤L):MQ h1 h2 28 [ptr p.cells] [] (Plain (eB (pkB p))):=by
 refine au ?_ Z
 refine jB 43 h1 h2 Tryz.func28 Z fun O hF=>?_
 refine ae (js Z (jn (ag (ae (aM Z (jf [7,2,0] Z (aO Z (zY (s:=p.nm) h1 h2) 9000 Z (ac Z (jf [10,2,0] Z (ar 5 Z Z Z (fun hx=>aq hx Z (aq hx Z (aq hx Z (bj O hx Z Z Z Z (Cc (a:=p.an) h1 h2) (.cons (.c (.sub Z)) .nil) Z Z Z Z Z Z Z (B0:=15000) Z (aq hx Z (AN.nil)))))) Z Z ?_))))))))))
 first|refine aa (al O Z Z Z Z Z) Z ?_|refine aa (Val.pickB O Z Z Z Z Z) Z ?_|refine aa (aj O Z Z Z Z Z) Z ?_
 refine js Z (jf [17,2,0] Z (ar 6 Z Z Z (fun hx=>aq hx Z (aq hx Z (aq hx Z (aq hx Z (bf hx (bF O Z Z Z Z Z Z Z Z) Z (aq hx Z (AN.nil))))))) Z Z ?_))
 first|refine aa (al O Z Z Z Z Z) Z ?_|refine aa (Val.pickB O Z Z Z Z Z) Z ?_|refine aa (aj O Z Z Z Z Z) Z ?_
 refine jf [24,2,0] Z (jn (ak Z (fun z24=>?_) (fun z24=>?_)))
 refine ae (js Z (jr ?_))
 refine ay Z ?_
 rw[(yH Z).1 z24]
 refine af (ag (ae (js Z (jn (am (av (X:=Nat) (fun i=>⟨[(0,ptr p.cells),(3,eI i)],[]⟩) (fun i=>i≤p.pf.length∧∀j (h:j<p.pf.length),j<i→isB p.pf[j]=true) (fun i=>p.pf.length-i) 0 (Ent.to ⟨Z,Z,ao⟩ Z) ?_ (fun i hi=>?_)))))))
 exact⟨ca _,fun j h hj=>absurd hj (Nat.not_lt_zero j)⟩
 refine ag (ae (aM Z (js Z ?_)))
 first|refine cm Z ?_|refine js Z ?_|refine aU Z Z ?_
 refine js Z (jf [31,0,3] Z (jn (ak Z (fun z31=>?_) (fun z31=>?_))))
 refine af (ag (am (ae (aM Z (js Z ?_)))))
 have hi0:i<p.pf.length:=by have:=bc z31;omega
 refine aa (aE O Z Z Z Z Z Z Z Z (cb hi0)) Z (js Z (jf [40,31,0,3] Z (aO Z (Ca (p:=p.pf.getD i default) h1 h2) 42000 Z (js Z (jf [42,31,0,3] Z (jn (ak Z (fun z42=>?_) (fun z42=>?_))))))))
 refine ae (js Z (jr ?_))
 refine ay Z ?_
 have h9:isB (p.pf.getD i default)=false:=by simpa using z42
 rw [show pkB p=false by
  cases hp:pkB p with
  | false=>rfl
  | true=>have:=(pkB_iff.1 hp).2.2.2 (p.pf.getD i default) (by rw[getD_lt hi0];exact List.getElem_mem hi0);rw[h9]at this;cases this]
 refine af (ab (js Z ?_))
 first|refine ji Z ?_|refine aU Z Z ?_
 refine js Z (jf [3,42,31,0] Z (jn ?_))
 refine⟨i+1,Ent.to ⟨Z,Z,ao⟩ Z,⟨by omega,fun j h hj=>?_⟩,by omega⟩
 by_cases e:j=i
 subst e;have:=z42;rw[getD_lt h]at this;simpa using this
 exact hi.2 j h (by omega)
 refine aJ (ae (js Z (jr ?_)))
 refine ay Z ?_
 obtain⟨g1,g2,g3⟩:=(yH rfl).2 z24
 rw [pkB_iff.2 ⟨g1,g2,g3,fun q hq=>by
  obtain⟨j,hj,rfl⟩:=List.getElem_of_mem hq
  exact hi.2 j hj (by have:=bw z31;omega)⟩]
theorem oh{ps:List (List Nd)}{i:Nat}(h:i<ps.length):(((ps.take (i+1)).map fun q=>fT (gD q)).flatten)=(((ps.take i).map fun q=>fT (gD q)).flatten)++fT (gD (ps.getD i default)):=by
 rw[List.take_succ_eq_append_getElem h,List.map_append,List.flatten_append,getD_lt h]
 simp
theorem tL{ps:List (List Nd)}(h: ∀q∈ps,isB q=true){i:Nat}:(((ps.take i).map fun q=>fT (gD q)).flatten).length≤10270*ps.length:=by
 have h1:=kW (ps:=ps.take i) fun q hq=>h q (List.mem_of_mem_take hq)
 rw[List.length_take]at h1
 have:min i ps.length≤ps.length:=Nat.min_le_right _ _
 omega
theorem wD{q:List Nd}(h:isB q=true): ∀x∈q,NdR x:=fun x hx=>(ndB_R ((isB_nd h).2.2 x hx)).1
theorem xZ{p:Pk}(hv:pkB p=true)(hL:1048576<L)(hal:(fR p).length≤40000):MQ h1 h2 29 [ptr p.cells] [] (Plain (.tup [aS8 (fR p),eB true])):=by
 refine jB 99 h1 h2 Tryz.func29 Z fun O hF=>?_
 obtain⟨hnm,han,hpf,hpr⟩:=pkB_iff.1 hv
 have hlp:p.pf.length≤L:=by omega
 have hnl:p.nm.length≤40000:=pg hv _ (List.mem_cons_self ..)
 have hal2:=eg han
 have hhl:=pF hv
 have hbl:=pN hv
 have hck:=pL (s:=iq p)
 have hml:=cJ (m:=2*kt (iq p)) (by omega)
 have hhl2:=hhl
 unfold sl at hhl2
 simp only[bP]at hhl2
 refine ae (ac Z (be (aM Z (jf [20,3,2,0] Z (aw O Z Z Z Z (lN (s:=p.nm) h1 h2 hnl hL) (ah Z) Z Z Z Z (B0:=22000) Z Z (aM Z (js Z (jf [5,4,3,2,0] Z (be (aF Z (jf [27,5,4,3,2,0] Z (aZ O Z Z Z Z (sT (a:=p.an) h1 h2 han hL) (.cons (.c (.sub Z)) .nil) Z Z Z Z Z (B0:=29000) Z (jf [28,5,4,3,2,0] Z (aw O Z Z Z Z (lN (s:=cH p.an) h1 h2 (by omega) hL) (ah Z) Z Z Z Z (B0:=30000) Z Z (aM Z (js Z (jf [7,6,5,4,3,2,0] Z (be (aM Z ?_)))))))))))))))))))
 first|refine cm Z ?_|refine js Z ?_|refine aU Z Z ?_
 refine jf [37,7,6,5,4,3,2,0] Z (aw O Z Z Z Z (qE (n:=p.pf.length) h1 h2 (by omega)) (ah Z) Z Z Z Z (B0:=39000) Z Z (aM Z (js Z (jf [9,8,7,6,5,4,3,2,0] Z (jn (ag (ae (aF Z (jf [43,9,8,7,6,4,3,2,0] Z (jG Z (js Z (jf [44,43,9,8,6,4,3,2,0] Z (jG Z (js Z (aa (bm O Z Z Z Z Z) Z (js Z (jf [47,9,8,6,4,3,2,0] Z (jG Z (js Z (jf [48,47,8,6,4,3,2,0] Z (jG Z (js Z (aa (bm O Z Z Z Z Z) Z (jf [50,8,6,4,3,2,0] Z (jn (ak Z (fun z50=>?_) (fun z50=>?_)))))))))))))))))))))))))))
 exact absurd z50 (by simp)
 refine af (ae (ac Z (aa (aH (p:=(fT p.nm)) (q:=(fT (cH p.an))) O Z Z Z Z Z Z (by show _≤L;omega) (by show L≤_;omega)) Z (js Z (aa (aH (p:=(fT p.nm++fT (cH p.an))) (q:=(se p)) O Z Z Z Z Z Z (by rw[bP];show _≤L;omega) (by show L≤_;omega)) Z (js Z (jf [10,3,2,0] Z (jn (ag (ae (js Z (jn (am (av (X:=Nat) (fun i=>⟨[(0,ptr p.cells),(10,aS8 (sl p++((p.pf.take i).map fun q=>fT (gD q)).flatten)),(11,eI i)],[]⟩) (fun i=>i≤p.pf.length) (fun i=>p.pf.length-i) 0 (Ent.to ⟨Z,congrArg (fun s=>some (aS8 s)) (by unfold sl se;simp),Z,ao⟩ Z) ?_ (fun i hi=>?_)))))))))))))))
 exact ca _
 refine ag (ae (aM Z (js Z ?_)))
 first|refine cm Z ?_|refine js Z ?_|refine aU Z Z ?_
 refine js Z (jf [62,0,10,11] Z (jn (ak Z (fun z62=>?_) (fun z62=>?_))))
 refine af (ag (am (ae (aM Z (js Z ?_)))))
 have hi0:i<p.pf.length:=by have:=bc z62;omega
 have hqi:isB (p.pf.getD i default)=true:=by rw[getD_lt hi0];exact hpr _ (List.getElem_mem hi0)
 have hql:=iA hqi
 have hfl:=tL (i:=i) hpr
 have hqp:=kk (t:=gD (p.pf.getD i default)) (by omega)
 refine aa (aE O Z Z Z Z Z Z Z Z (cb hi0)) Z (js Z (jf [72,62,0,10,11] Z (aO Z (sV (p:=(p.pf.getD i default)) h1 h2 (wD hqi) (by show(gD (p.pf.getD i default)).length≤L;omega)) 74000 Z (jf [73,62,0,10,11] Z (aw O Z Z Z Z (lN (s:=gD (p.pf.getD i default)) h1 h2 (by omega) hL) (ah Z) Z Z Z Z (B0:=75000) Z Z (aM Z (js Z (jf [13,12,62,0,10,11] Z (jn (ag (ae (ac Z (jf [78,12,62,0,10,11] Z (jn (ak Z (fun z78=>?_) (fun z78=>?_))))))))))))))))
 exact absurd z78 (by simp)
 refine af (ab (ac Z (aa (aH (p:=(sl p++((p.pf.take i).map fun q=>fT (gD q)).flatten)) (q:=(fT (gD (p.pf.getD i default)))) O Z Z Z Z Z Z (by rw[bP];show _≤L;omega) (by show L≤_;omega)) Z (js Z (jf [10,78,62,0,11] Z (jn (ab (js Z ?_))))))))
 first|refine ji Z ?_|refine aU Z Z ?_
 refine js Z (jf [11,10,78,62,0] Z (jn ?_))
 refine⟨i+1,Ent.to ⟨Z,?_,Z,ao⟩ Z,by omega,by omega⟩
 exact congrArg (fun s=>some (aS8 s)) (by rw[oh hi0,←dh])
 refine aJ (ae ?_)
 obtain rfl:i=p.pf.length:=by have:=bw z62;omega
 rw[List.take_length]
 refine js Z (aO Z (wV (s:=iq p) h1 h2 (by omega)) 85000 Z (jf [84,62,0,10,11] Z (aw O Z Z Z Z (qE (n:=kt (iq p)) h1 h2 (by omega)) (ah Z) Z Z Z Z (B0:=86000) Z Z (aM Z (js Z (jf [15,14,62,0,10,11] Z (be (ac Z (aa (aH (p:=(iq p)) (q:=(ck (2*kt (iq p)))) O Z Z Z Z Z Z (by show _≤L;omega) (by show L≤_;omega)) Z (js Z (jf [10,15,62,0,11] Z (jn (ag (ae (aF Z (jf [93,10,62,0,11] Z (jG Z (js Z (jG Z ?_)))))))))))))))))))
 first|refine cm Z ?_|refine js Z ?_|refine aU Z Z ?_
 refine jf [95,93,10,62,0,11] Z (jG Z (js Z (aa (bm O Z Z Z Z Z) Z (jf [97,10,62,0,11] Z (jn (ak Z (fun z97=>?_) (fun z97=>?_)))))))
 exact absurd (bc z97) (by have e9:=bS_size (iq p++ck (2*kt (iq p)));have e8:(fR p).length=(iq p++ck (2*kt (iq p))).length:=rfl;omega)
 refine af (ae (aF Z (jr ?_)))
 refine⟨.inl Z,_,(aC [] (e':=[(2,_),(3,_)]) Z Z ⟨Z,Z,ao⟩ Z),_,Z,?_⟩
 exact⟨Z,Z⟩
theorem x1{p:Pk}(hv:pkB p=true)(hL:1048576<L)(hal: ¬(fR p).length≤40000):MQ h1 h2 29 [ptr p.cells] [] (Plain (.tup [aS8 [],eB false])):=by
 refine jB 99 h1 h2 Tryz.func29 Z fun O hF=>?_
 obtain⟨hnm,han,hpf,hpr⟩:=pkB_iff.1 hv
 have hlp:p.pf.length≤L:=by omega
 have hnl:p.nm.length≤40000:=pg hv _ (List.mem_cons_self ..)
 have hal2:=eg han
 have hhl:=pF hv
 have hbl:=pN hv
 have hck:=pL (s:=iq p)
 have hml:=cJ (m:=2*kt (iq p)) (by omega)
 have hhl2:=hhl
 unfold sl at hhl2
 simp only[bP]at hhl2
 refine ae (ac Z (be (aM Z (jf [20,3,2,0] Z (aw O Z Z Z Z (lN (s:=p.nm) h1 h2 hnl hL) (ah Z) Z Z Z Z (B0:=22000) Z Z (aM Z (js Z (jf [5,4,3,2,0] Z (be (aF Z (jf [27,5,4,3,2,0] Z (aZ O Z Z Z Z (sT (a:=p.an) h1 h2 han hL) (.cons (.c (.sub Z)) .nil) Z Z Z Z Z (B0:=29000) Z (jf [28,5,4,3,2,0] Z (aw O Z Z Z Z (lN (s:=cH p.an) h1 h2 (by omega) hL) (ah Z) Z Z Z Z (B0:=30000) Z Z (aM Z (js Z (jf [7,6,5,4,3,2,0] Z (be (aM Z ?_)))))))))))))))))))
 first|refine cm Z ?_|refine js Z ?_|refine aU Z Z ?_
 refine jf [37,7,6,5,4,3,2,0] Z (aw O Z Z Z Z (qE (n:=p.pf.length) h1 h2 (by omega)) (ah Z) Z Z Z Z (B0:=39000) Z Z (aM Z (js Z (jf [9,8,7,6,5,4,3,2,0] Z (jn (ag (ae (aF Z (jf [43,9,8,7,6,4,3,2,0] Z (jG Z (js Z (jf [44,43,9,8,6,4,3,2,0] Z (jG Z (js Z (aa (bm O Z Z Z Z Z) Z (js Z (jf [47,9,8,6,4,3,2,0] Z (jG Z (js Z (jf [48,47,8,6,4,3,2,0] Z (jG Z (js Z (aa (bm O Z Z Z Z Z) Z (jf [50,8,6,4,3,2,0] Z (jn (ak Z (fun z50=>?_) (fun z50=>?_)))))))))))))))))))))))))))
 exact absurd z50 (by simp)
 refine af (ae (ac Z (aa (aH (p:=(fT p.nm)) (q:=(fT (cH p.an))) O Z Z Z Z Z Z (by show _≤L;omega) (by show L≤_;omega)) Z (js Z (aa (aH (p:=(fT p.nm++fT (cH p.an))) (q:=(se p)) O Z Z Z Z Z Z (by rw[bP];show _≤L;omega) (by show L≤_;omega)) Z (js Z (jf [10,3,2,0] Z (jn (ag (ae (js Z (jn (am (av (X:=Nat) (fun i=>⟨[(0,ptr p.cells),(10,aS8 (sl p++((p.pf.take i).map fun q=>fT (gD q)).flatten)),(11,eI i)],[]⟩) (fun i=>i≤p.pf.length) (fun i=>p.pf.length-i) 0 (Ent.to ⟨Z,congrArg (fun s=>some (aS8 s)) (by unfold sl se;simp),Z,ao⟩ Z) ?_ (fun i hi=>?_)))))))))))))))
 exact ca _
 refine ag (ae (aM Z (js Z ?_)))
 first|refine cm Z ?_|refine js Z ?_|refine aU Z Z ?_
 refine js Z (jf [62,0,10,11] Z (jn (ak Z (fun z62=>?_) (fun z62=>?_))))
 refine af (ag (am (ae (aM Z (js Z ?_)))))
 have hi0:i<p.pf.length:=by have:=bc z62;omega
 have hqi:isB (p.pf.getD i default)=true:=by rw[getD_lt hi0];exact hpr _ (List.getElem_mem hi0)
 have hql:=iA hqi
 have hfl:=tL (i:=i) hpr
 have hqp:=kk (t:=gD (p.pf.getD i default)) (by omega)
 refine aa (aE O Z Z Z Z Z Z Z Z (cb hi0)) Z (js Z (jf [72,62,0,10,11] Z (aO Z (sV (p:=(p.pf.getD i default)) h1 h2 (wD hqi) (by show(gD (p.pf.getD i default)).length≤L;omega)) 74000 Z (jf [73,62,0,10,11] Z (aw O Z Z Z Z (lN (s:=gD (p.pf.getD i default)) h1 h2 (by omega) hL) (ah Z) Z Z Z Z (B0:=75000) Z Z (aM Z (js Z (jf [13,12,62,0,10,11] Z (jn (ag (ae (ac Z (jf [78,12,62,0,10,11] Z (jn (ak Z (fun z78=>?_) (fun z78=>?_))))))))))))))))
 exact absurd z78 (by simp)
 refine af (ab (ac Z (aa (aH (p:=(sl p++((p.pf.take i).map fun q=>fT (gD q)).flatten)) (q:=(fT (gD (p.pf.getD i default)))) O Z Z Z Z Z Z (by rw[bP];show _≤L;omega) (by show L≤_;omega)) Z (js Z (jf [10,78,62,0,11] Z (jn (ab (js Z ?_))))))))
 first|refine ji Z ?_|refine aU Z Z ?_
 refine js Z (jf [11,10,78,62,0] Z (jn ?_))
 refine⟨i+1,Ent.to ⟨Z,?_,Z,ao⟩ Z,by omega,by omega⟩
 exact congrArg (fun s=>some (aS8 s)) (by rw[oh hi0,←dh])
 refine aJ (ae ?_)
 obtain rfl:i=p.pf.length:=by have:=bw z62;omega
 rw[List.take_length]
 refine js Z (aO Z (wV (s:=iq p) h1 h2 (by omega)) 85000 Z (jf [84,62,0,10,11] Z (aw O Z Z Z Z (qE (n:=kt (iq p)) h1 h2 (by omega)) (ah Z) Z Z Z Z (B0:=86000) Z Z (aM Z (js Z (jf [15,14,62,0,10,11] Z (be (ac Z (aa (aH (p:=(iq p)) (q:=(ck (2*kt (iq p)))) O Z Z Z Z Z Z (by show _≤L;omega) (by show L≤_;omega)) Z (js Z (jf [10,15,62,0,11] Z (jn (ag (ae (aF Z (jf [93,10,62,0,11] Z (jG Z (js Z (jG Z ?_)))))))))))))))))))
 first|refine cm Z ?_|refine js Z ?_|refine aU Z Z ?_
 refine jf [95,93,10,62,0,11] Z (jG Z (js Z (aa (bm O Z Z Z Z Z) Z (jf [97,10,62,0,11] Z (jn (ak Z (fun z97=>?_) (fun z97=>?_)))))))
 refine ae (ac Z (jr ?_))
 refine⟨.inl Z,_,(aC [] (e':=[(2,_),(3,_)]) Z Z ⟨Z,Z,ao⟩ Z),_,Z,?_⟩
 exact⟨Z,Z⟩
 exact absurd (bw z97) (by have e9:=bS_size (iq p++ck (2*kt (iq p)));have e8:(fR p).length=(iq p++ck (2*kt (iq p))).length:=rfl;omega)
theorem sX{p:Pk}(h:pkB p=true)(h2:(fR p).length≤40000):mD p=(fR p,true):=by unfold mD;rw[if_pos h,if_pos h2]
theorem wZ{p:Pk}(h:pkB p=true)(h2: ¬(fR p).length≤40000):mD p=([],false):=by unfold mD;rw[if_pos h,if_neg h2]
abbrev AC(p:Pk):A:=.tup [aS8 (mD p).1,eB (mD p).2]
theorem Ab{L:Nat}(h1:4096≤L)(h2:L≤1073741824){p:Pk}(hv:pkB p=true)(hL:1048576<L):MC Tryz.prog L 29 [ptr p.cells] [] (Plain (AC p)):=by
 by_cases h:(fR p).length≤40000
 unfold AC;rw[sX hv h];exact xZ h1 h2 hv hL h
 unfold AC;rw[wZ hv h];exact x1 h1 h2 hv hL h
end Go.Al
