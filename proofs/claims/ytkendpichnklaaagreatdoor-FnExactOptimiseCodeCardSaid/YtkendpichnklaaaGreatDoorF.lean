/- Annotated code as text, walked. -/
import Derived.Test.YtkendpichnklaaaGreatDoorE
import Derived.WalkKit
import Derived.Deep.QuietTactic
import Derived.BigQuiet
import Derived.Test.YtkendpichnklaaaGreatDoorH
import Derived.Lib.Join
import Derived.BigCall
set_option linter.unusedVariables false
set_option linter.unusedSimpArgs false
set_option maxRecDepth 10000
set_option maxHeartbeats 4000000
open Go.Proofs
/- A slice of texts, read in a world. -/
namespace Go.Al
variable{L:Nat}(h1:4096≤L)(h2:L≤1073741824)
open Go.Proofs Go.RowKit
theorem rX{L:Nat}{w:World}{ok:Nat→Prop}{m:Nat→Loc}{ls:List cJ}{v:Value}(h:RA L w ok m (.c (.d (qX ls))) v) :
    (ls=[]∧∃base cap,v= .slice base 0 cap)∨(∃b off cap,v= .slice (some ⟨b,off,none⟩) ls.length cap∧b<w.heap.size∧ls.length≤cap∧∀(j:Nat) s,ls[j]? = some s→w.cell? ⟨b,off+j,none⟩=some (.string (bS s))∧s.length≤L):=by
 cases h with
 | c h => cases h with
  | d h =>
    generalize hx:qX ls=x at h
    unfold qX at hx
    cases h with
    | slc0=>
      injection hx with h1 h2
      exact .inl ⟨List.map_eq_nil_iff.1 h2,_,_,Z⟩
    | slc h1 h2 h3 h4 h5 h6=>
      injection hx with e1 e2
      subst e1;subst e2
      rw[aQ]at h1 h2 ⊢
      refine .inr ⟨_,_,_,Z,h5,h2,fun j s hj=>?_⟩
      have hf:(ls.map fun p=>[sD p]).flatten[j*1+0]? = some (sD s):=gh (sz:=1) h3 (e:=[sD s]) (by rw[List.getElem?_map,hj];rfl) Z
      rw[Nat.mul_one,Nat.add_zero]at hf
      obtain⟨u,hu,hr⟩:=h6.get rfl hf
      cases hr with
      | str hs=>exact⟨hu,by rw[fU]at hs;exact hs⟩
    | _=>cases hx
theorem Frame.of_below{w w':World}(h:Below w.heap.size w w'):Frame w w' []:=⟨h.os,h.tape,h.output,h.size,fun k hk _=>h.block k hk⟩
theorem nJ(s:cJ):Lib.strCells (bS s)=Lib.byteCells s:=by
 unfold Lib.strCells Lib.byteCells
 rw[wY]
theorem pK{α:Type}{p:α→Bool}{l:List α}:jW p l=match l.findIdx? p with
 | none=> -1
 | some i=>(i:Int):=by
 cases h:l.findIdx? p with
 | none=>
  rw[List.findIdx?_eq_none_iff]at h
  exact kq fun j hj=>h _ (List.getElem_mem hj)
 | some i=>
  obtain⟨h1,h2⟩:=List.findIdx?_eq_some_iff_findIdx_eq.1 h
  obtain⟨h3,h4⟩:=(List.findIdx_eq h1).1 h2
  exact kr h1 (fun j hj hji=>by have:=h4 j hji;simpa using this) h3
theorem rJ{a:An}{i:Nat}(h:jW (fun p:Pt=>decide (p.k=(i:Int))) a.pts<0):pY a i=[iu (a.code.getD i default)]:=by
 rw[pK]at h
 unfold pY
 cases hx:a.pts.findIdx? (fun p=>decide (p.k=(i:Int)))with
 | none=>rfl
 | some k=>
  rw[hx]at h
  have h2:(k:Int)<0:=h
  omega
theorem oo{a:An}{i k:Nat}(h:jW (fun p:Pt=>decide (p.k=(i:Int))) a.pts=(k:Int)):k<a.pts.length∧pY a i=eg::cB sH (a.pts.getD k default).fs++[iu (a.code.getD i default)]:=by
 rw[pK]at h
 unfold pY
 cases hx:a.pts.findIdx? (fun p=>decide (p.k=(i:Int)))with
 | none=>
  rw[hx]at h
  have h2:(-1:Int)=(k:Int):=h
  omega
 | some j=>
  rw[hx]at h
  obtain rfl:j=k:=by have h':(j:Int)=k:=h;omega
  exact⟨(List.findIdx?_eq_some_iff_findIdx_eq.1 hx).1,Z⟩
theorem mh{α:Type}{p:α→Bool}{l:List α}(h:0≤jW p l): ∃k:Nat,jW p l=k:=⟨_,(Int.toNat_of_nonneg h).symm⟩
variable{xs:List Int}
theorem wC{v:Int}:MQ h1 h2 126 [cq xs,eI v] [] (Plain (eI (jW (fun x=>decide (x=v)) xs))):=by
 refine av ?_ Z
 refine jB 19 h1 h2 Tryz.func126 Z fun O hF=>?_
 have hl:xs.length≤L:=by simpa[As.fact,A.fact,M.fact,D.fact,Ds.fact]using hF.1.1
 refine af (js Z (jn (aa (af (js Z ?_)))))
 first|refine bP Z ?_|refine js Z ?_|refine aR Z Z ?_
 refine js Z (jn (ah (al (X:=Nat) (fun i=>⟨[(0,cq xs),(1,eI v),(6,cq xs),(7,eI xs.length),(8,eI i)],[]⟩) (fun i=>i≤xs.length∧∀j (h:j<xs.length),j<i→(fun x=>decide (x=v)) xs[j]=false) (fun i=>xs.length-i) 0 (Ent.to ⟨Z,Z,Z,Z,Z,aj⟩ Z) ?_ (fun i hi=>?_))))
 exact⟨co _,fun j h hj=>absurd hj (Nat.not_lt_zero j)⟩
 refine af (js Z (jn (aa (ao Z (fun z9=>?_) (fun z9=>?_)))))
 refine ac (aa (ah (af ?_)))
 have hil:i<xs.length:=by have:=bZ z9;omega
 refine ag Z (bm (bb Z (ak (ax O Z Z Z Z Z Z Z Z (bJ hil)) Z (ag Z (jf [16,5,10,9,0,1,6,7,8] Z (jn (ao Z (fun z16=>?_) (fun z16=>?_))))))))
 refine af (ag Z (jr ?_))
 refine aD Z ?_
 rw[au hil]at z16
 rw[kr hil hi.2 (decide_eq_true (bZ z16).symm)]
 refine ac (ab ?_)
 first|refine ji Z ?_|refine aR Z Z ?_
 refine js Z (jn ?_)
 refine⟨i+1,Ent.to ⟨Z,Z,Z,Z,Z,aj⟩ Z,⟨by omega,fun j h hj=>?_⟩,by omega⟩
 by_cases e:j=i
 subst e;rw[au h]at z16;exact decide_eq_false fun e=>cS z16 e.symm
 exact hi.2 j h (by omega)
 refine aM (af (js Z (jr ?_)))
 refine aD Z ?_
 have h9:=cS z9
 rw[kq (fun j hj=>hi.2 j hj (by omega))]
theorem wD{v:Int}:MQ h1 h2 115 [cq xs,eI v] [] (Plain (eB (xs.contains v))):=by
 refine av ?_ Z
 refine jB 9 h1 h2 Tryz.func115 Z fun O hF=>?_
 refine af (js Z (bm (ag Z (jf [6,5,4] Z (ba Z (wC (xs:=xs) (v:=v) h1 h2) 8000 Z (ag Z (jf [4] Z (jr ?_))))))))
 refine aD Z ?_
 refine congrArg eB (Eq.trans (og (p:=fun x=>decide (x=v)) (l:=xs)) ?_)
 rw[List.contains_eq_any_beq]
 exact List.any_congr Z fun x=>decide_eq_decide.2 ⟨fun e=>e.symm,fun e=>e.symm⟩
theorem wE{x:Int}:MQ h1 h2 93 [eI x] [] (Plain (eB (sL x))):=by
 refine av ?_ Z
 refine jB 6 h1 h2 Tryz.func93 Z fun O hF=>?_
 refine af (js Z (bm (bc (ch O Z Z Z Z Z Z Z Z Z Z Z) Z (aA ?_))))
 refine bw (aq [3] (e':=[(0,_),(3,_)]) Z Z ⟨Z,Z,aj⟩ Z) (bw (Ent.freeze 3 (e':=[(0,_),(3,_)]) Z (.cons Z (.keep Z) (.cons Z (.c (.row Z Z)) .nil)) (.skip .nil)) ?_)
 refine aA ?_
 refine js Z (jf [4,3] Z (ba Z (wD (xs:=[0,1,2,4,5,6,9]) (v:=x) h1 h2) 6000 Z (js Z (jf [2] Z (jr ?_)))))
 refine aD Z ?_
 rfl
theorem ub:MQ h1 h2 94 [] [] (Plain (.c (.d (qX xQ)))):=by
 refine MC.data (jB 2 h1 h2 Tryz.func94 Z fun O hF=>?_)
 refine af (js Z (bm (bc (ch O Z Z Z Z Z Z Z Z Z Z Z) Z (js Z (jr ?_)))))
 refine aD Z ?_
 exact .v (.c (.whole Z Z))
theorem uY{k:Nat}{a:Int}(hk:k<12)(ha: -1000000000≤a∧a≤1000000000):MQ h1 h2 57 [.agg [.d (.int .i64 (k:Nat)),.d (.int .i64 a)]] [] (Plain (qV (iu (⟨(k:Int),a⟩:In)))):=by
 refine av ?_ Z
 refine jB 21 h1 h2 Tryz.func57 Z fun O hF=>?_
 have hol:=pE (o:=(k:Int)) (by omega) (by omega)
 have hal:=pL ha
 have hkw:xQ.getD k default=jU (k:Int):=rfl
 refine af (jx Z (aA ?_))
 refine bw (Ent.freeze 1 (e':=[(1,_),(0,_)]) Z (.cons Z (.c (.box (cs:=[.int .i64 (k:Nat),.int .i64 a]) Z (aV Z))) (fe [0] Z)) (.skip .nil)) ?_
 refine aA ?_
 refine js Z (jn (aa (af (ag Z (jf [4,2,1,0] Z (ba Z (wE (x:=(k:Int)) h1 h2) 6000 Z (jn (ao Z (fun z5=>?_) (fun z5=>?_)))))))))
 refine aa (jw [4,1,0] Z (gK [_,_,_,_,_,_,_,_,_,_,_] [pe [] 0,pn [] 0 2,pn [1] 0 2,pn [0,1,2] 1 2,pn (rg 0 4) 1 2,pn (rg 0 5) 1 2,pn [] 0 1,pn [6] 0 1,pe [0,6,7] 1,pn (rg 0 9) 2 2,pn (rg 0 10) 2 2] [0,8] [_,_,_] (ai (fX O (B0:=7000) Z Z Z Z (ub h1 h2) (ae Z) Z Z Z Z Z) (ai (kc Z (kc Z (V Z))) (ai (kc Z (kc Z (V Z))) (ai (ai (ax O Z Z Z Z Z Z Z Z (show(xQ.map fun p=>[sD p])[((k:Nat):Int).toNat]? = some [sD (xQ.getD k default)]from bJ (show k<xQ.length from hk))) (ax O Z Z Z Z Z Z Z Z (show(xQ.map fun p=>[sD p])[((k:Nat):Int).toNat]? = some [sD (xQ.getD k default)]from bJ (show k<xQ.length from hk)))) (ai (kc Z (V Z)) (ai (ai (cO (p:=xQ.getD k default) (q:=[32]) O Z Z Z Z Z Z (by rw[hkw];show(jU (k:Int)).length+1≤L;omega) (by show L≤_;omega)) (cO (p:=xQ.getD k default) (q:=[32]) O Z Z Z Z Z Z (by rw[hkw];show(jU (k:Int)).length+1≤L;omega) (by show L≤_;omega))) (ai (kc Z (V Z)) (ai (kc Z (V Z)) (ai (aG O (B0:=15000) Z Z Z Z (rk (n:=a) h1 h2 (by omega) (by omega)) (ae Z) Z Z Z Z Z) (ai (cO (p:=(xQ.getD k default++[32])) (q:=Lib.itoa a) O Z Z Z Z Z Z (by rw[cG,hkw];show _+1+_≤L;omega) (by show L≤_;omega)) (kc Z trivial))))))))))) ?_))
 refine jw [2,4,1,0] Z (ld ?_)
 refine f9 ?_
 refine aD Z ?_
 rw[show iu (⟨(k:Int),a⟩:In)=xQ.getD k default++[32]++Lib.itoa a from if_pos z5]
 refine ac (aa (jw [4,1,0] Z (gK [_,_,_,_,_,_] [pe [] 0,pn [] 0 1,pn [1] 0 1,pn [0,1,2] 1 1,pn (rg 0 4) 1 1,pn (rg 0 5) 1 1] [0] [_,_] (ai (fX O (B0:=17000) Z Z Z Z (ub h1 h2) (ae Z) Z Z Z Z Z) (ai (kc Z (V Z)) (ai (kc Z (V Z)) (ai (ax O Z Z Z Z Z Z Z Z (show(xQ.map fun p=>[sD p])[((k:Nat):Int).toNat]? = some [sD (xQ.getD k default)]from bJ (show k<xQ.length from hk))) (kc Z (kc Z trivial)))))) ?_)))
 refine jw [2,4,1,0] Z (ld ?_)
 refine f9 ?_
 refine aD Z ?_
 rw[show iu (⟨(k:Int),a⟩:In)=xQ.getD k default from if_neg (by simp[z5])]
theorem wG{L:Nat}(h1:4096≤L)(h2:L≤1073741824){x:In}(h:aE x=true):MC Tryz.prog L 57 [.agg (x.cells.map .d)] [] (Plain (qV (iu x))):=by
 obtain⟨⟨ho0,ho1⟩,ha,_⟩:=eQ h
 obtain⟨op,a⟩:=x
 obtain⟨k,rfl⟩: ∃k:Nat,op=k:=⟨op.toNat,by simp only at ho0;omega⟩
 exact uY h1 h2 (by simp only at ho1;omega) ha
theorem sY{o:cJ}{i:Nat}{c:Int}(h:c=0):tC o i c=o:=by unfold tC;rw[if_pos h]
theorem uy{o:cJ}{i:Nat}{c:Int}(h: ¬c=0):tC o i c=(o++ft o c++(if c.natAbs=1 then[]else Lib.decDigits c.natAbs))++[tW i]:=by unfold tC;rw[if_neg h]
theorem wJ{t:Tm}(ht:t.ok=true):MQ h1 h2 55 [ra t] [] (Plain (qV (tS t))):=by
 refine av ?_ Z
 refine jB 52 h1 h2 Tryz.func55 Z fun O hF=>?_
 obtain⟨z6,hx6,hl10⟩:=rB ht
 have hl:t.xs.length≤L:=by omega
 refine af (jx Z (aA ?_))
 refine js Z (bm (jl Z (aA ?_)))
 refine jo Z (aA ?_)
 refine bm (ag Z (jn (aa (af (ag Z ?_)))))
 first|refine bP Z ?_|refine js Z ?_|refine aR Z Z ?_
 refine js Z (jn (ah (al (X:=Nat×cJ) (fun z=>⟨[(1,.c (.pt 1 0 0)),(3,.c (.pt 3 0 0)),(4,.c (.fn 88 [.pt 3 0 0])),(9,cq t.xs),(10,eI t.xs.length),(11,eI (z.1:Nat))],[(1,.box [.d (.int .i64 t.c),.d (ki t.xs)]),(3,.box [.d (sD z.2)])]⟩) (fun z=>z.1≤t.xs.length∧z.2=tX 0 (t.xs.take z.1) []∧z.2.length≤9*z.1) (fun z=>t.xs.length-z.1) (0,[]) (Ent.to ⟨Z,Z,Z,Z,Z,Z,aj⟩ Z) ?_ (fun z hi=>?_))))
 exact⟨co _,by show[]=tX 0 (t.xs.take 0) [];simp[tX],cm _⟩
 refine af (js Z (jn (aa (ao Z (fun z12=>?_) (fun z12=>?_)))))
 refine ac (aa (ah (af (js Z ?_))))
 first|refine fO Z Z ?_|refine er Z Z ?_|refine aR Z Z ?_
 refine bb Z (jf [6,5,12,1,3,4,9,10,11] Z (jn (aa (af ?_))))
 have hz1:z.1<t.xs.length:=by have:=bZ z12;omega
 obtain⟨n,hn⟩: ∃n,n=(t.xs.getD z.1 default):=⟨_,rfl⟩
 rw[←hn]
 have hna:n.natAbs≤1000000:=by rw[hn,au hz1];exact hx6 _ (List.getElem_mem hz1)
 have hstep:tX 0 (t.xs.take (z.1+1)) []=tC z.2 z.1 n:=by rw[List.take_succ_eq_append_getElem hz1,po,List.length_take,Nat.min_eq_left (by omega),Nat.zero_add,hi.2.1,hn,au hz1]
 have hzl:z.2.length≤90:=by have:=hi.2.2;omega
 refine ag Z (jn (ao Z (fun z17=>?_) (fun z17=>?_)))
 refine aM (ab ?_)
 first|refine ji Z ?_|refine aR Z Z ?_
 refine js Z (jn ?_)
 refine⟨(z.1+1,z.2),Ent.to ⟨Z,Z,Z,Z,Z,Z,aj⟩ Z,⟨by show z.1+1≤_;omega,?_,by show z.2.length≤9*(z.1+1);omega⟩,by show t.xs.length-(z.1+1)<t.xs.length-z.1;omega⟩
 show z.2=_
 rw[hstep,sY (bZ z17)]
 refine ac (af (ag Z (bH O [3] (bin:=[.box [.d (sD z.2)]]) Z Z Z Z (ud (n:=n) (o:=z.2) h1 h2 (by omega)) Z Z Z Z Z Z (B0:=21000) Z Z (aA ?_))))
 obtain⟨o2,ho2⟩: ∃o,o=z.2++ft z.2 n:=⟨_,rfl⟩
 rw[←ho2]
 have h2l:o2.length≤z.2.length+1:=by have:=mY (o:=z.2) (n:=n);rw[ho2,cG];omega
 refine jf [17,16,6,5,12,1,3,4,9,10,11] Z (jn (aa (af (js Z (ba Z (uo (x:=n) h1 h2 (by omega)) 23000 Z (js Z (jf [23,17,16,6,5,12,1,3,4,9,10,11] Z (jn ?_))))))))
 obtain⟨o3,ho3⟩: ∃o,o=o2++(if n.natAbs=1 then[]else Lib.decDigits n.natAbs):=⟨_,rfl⟩
 have hdl:(Lib.decDigits n.natAbs).length≤7:=iH hna
 have h3l:o3.length≤o2.length+7:=by rw[ho3,cG];split<;>simp<;>omega
 refine bu ⟨[(1,.c (.pt 1 0 0)),(3,.c (.pt 3 0 0)),(4,.c (.fn 88 [.pt 3 0 0])),(9,cq t.xs),(10,eI t.xs.length),(11,eI (z.1:Nat)),(5,eI (z.1:Nat)),(6,eI n)],[(1,.box [.d (.int .i64 t.c),.d (ki t.xs)]),(3,.box [.d (sD o3)])]⟩ ?_ ?_
 refine ao Z (fun z23=>?_) (fun z23=>?_)
 refine gK [_,_,_,_,_,_] [pn [] 0 2,aN,pe [1] 0,pe [1,2] 1,pn (rg 0 4) 2 2,pe (rg 0 5) 2] [2,3,5] [_,_,_,_] (ai (kc Z (kc Z (V Z))) (kc Z (ai (aG O (B0:=27000) Z Z Z Z (uo (x:=n) h1 h2 (by omega)) (ae Z) Z Z Z Z Z) (ai (aG O (B0:=28000) Z Z Z Z (rk (n:=(n.natAbs:Int)) h1 h2 (by omega) (by omega)) (ae Z) Z Z Z Z Z) (ai (cO (p:=o2) (q:=Lib.itoa (n.natAbs:Int)) O Z Z Z Z Z Z (by rw[iS];have:=iH hna;show o2.length+(Lib.decDigits n.natAbs).length≤L;omega) (by show L≤_;omega)) (ai (eS Z Z Z) trivial)))))) ?_
 refine yK ?_
 exact⟨Z,Ent.to ⟨Z,Z,Z,Z,Z,Z,Z,Z,aj⟩ (by rw[ho3,if_neg (by have:=z23;simp at this;omega),iS])⟩
 refine ac ?_
 exact⟨Z,bt.trans (Ent.to ⟨Z,Z,Z,Z,Z,Z,Z,Z,aj⟩ (by rw[ho3,if_pos (by have:=z23;simp at this;omega),List.append_nil];rfl))⟩
 refine ab (ag Z ?_)
 first|refine ji Z ?_|refine aR Z Z ?_
 refine ak ((Val.conv (b:=true) (dt:=.int .i64) O Z Z Z (by kernel_rfl) (by kernel_rfl)).cast (v':=.c (.d (.int .i32 (97+z.1:Int)))) (by rw[l7 .i32 _ (by show(-2147483648:Int)≤_;omega) (by show _≤(2147483647:Int);omega)])) Z (ak ((qE (dt:=.int .i32) O Z Z Z (by kernel_rfl) (by kernel_rfl) (by omega) (by omega)).cast (v':=qV [tW z.1]) (by rw[show(97+(z.1:Int)).toNat=97+z.1 by omega];rfl)) Z (ak (cO (p:=o3) (q:=[tW z.1]) O Z Z Z Z Z Z (by show o3.length+1≤L;omega) (by show L≤_;omega)) Z (jf [34,1,3,4,9,10,11,6] Z (jo Z (aA ?_)))))
 refine jn (ab ?_)
 first|refine ji Z ?_|refine aR Z Z ?_
 refine js Z (jn ?_)
 refine⟨(z.1+1,o3++[tW z.1]),Ent.to ⟨Z,Z,Z,Z,Z,Z,aj⟩ Z,⟨by show z.1+1≤_;omega,?_,by show(o3++[tW z.1]).length≤9*(z.1+1);rw[cG,sG];omega⟩,by show t.xs.length-(z.1+1)<t.xs.length-z.1;omega⟩
 show o3++[tW z.1]=_
 rw[hstep,uy (cS z17),ho3,ho2]
 refine aM (aa (af ?_))
 obtain hz1:z.1=t.xs.length:=by have:=cS z12;omega
 have hzl:z.2.length≤90:=by have:=hi.2.2;omega
 have ho:=hi.2.1
 rw[hz1,List.take_length]at ho
 refine bb Z (jf [38,12,1,3,4,9,10,11] Z (jn ?_))
 obtain⟨o5,ho5⟩: ∃o,o=tK z.2 t.c:=⟨_,rfl⟩
 refine bu ⟨[(1,.c (.pt 1 0 0)),(3,.c (.pt 3 0 0))],[(1,.box [.d (.int .i64 t.c),.d (ki t.xs)]),(3,.box [.d (sD o5)])]⟩ ?_ ?_
 refine ao Z (fun z38=>?_) (fun z38=>?_)
 refine af (bb Z (jf [41,39,38,12,1,3,4,9,10,11] Z (bH O [3] (bin:=[.box [.d (sD z.2)]]) Z Z Z Z (ud (n:=t.c) (o:=z.2) h1 h2 (by omega)) Z Z Z Z Z Z (B0:=43000) Z Z (aA ?_))))
 refine jf [38,12,1,3,4,9,10,11] Z (jn (gK [_,_,_,_,_,_,_] [pn [] 0 2,aN,ar [1],pe [1,2] 0,pe [1,2,3] 1,pn (rg 0 5) 2 2,pe (rg 0 6) 2] [3,4,6] [_,_,_,_] (ai (kc Z (kc Z (V Z))) (kc Z (kc Z (ai (aG O (B0:=47000) Z Z Z Z (uo (x:=t.c) h1 h2 (by omega)) (ae Z) Z Z Z Z Z) (ai (aG O (B0:=48000) Z Z Z Z (rk (n:=(t.c.natAbs:Int)) h1 h2 (by omega) (by omega)) (ae Z) Z Z Z Z Z) (ai (cO (p:=(z.2++ft z.2 t.c)) (q:=Lib.itoa (t.c.natAbs:Int)) O Z Z Z Z Z Z (by rw[iS];have:=iH z6;have h7:=mY (o:=z.2) (n:=t.c);show(z.2++ft z.2 t.c).length+(Lib.decDigits t.c.natAbs).length≤L;rw[cG];omega) (by show L≤_;omega)) (ai (eS Z Z Z) trivial))))))) ?_))
 refine yK ?_
 exact⟨Z,Ent.to ⟨Z,Z,aj⟩ (by rw[ho5,iS];unfold tK;rw[if_neg (by simpa using z38)])⟩
 refine ac ?_
 exact⟨Z,bt.trans (Ent.to ⟨Z,Z,aj⟩ (by rw[ho5];unfold tK;rw[if_pos (by simpa using z38)]))⟩
 refine aa (af (js Z (ak (Val.seq (p:=o5) (q:=[]) O Z Z Z Z Z Z) Z (jn (ao Z (fun z50=>?_) (fun z50=>?_))))))
 refine af (js Z (jr ?_))
 refine aD Z ?_
 rw[show tS t=tZ o5 by rw[ho5,ho];rfl]
 unfold tZ
 rw[if_pos (bZ z50)];rfl
 refine ac (af (ag Z (jr ?_)))
 refine aD Z ?_
 rw[show tS t=tZ o5 by rw[ho5,ho];rfl]
 unfold tZ
 rw[if_neg (cS z50)]
end Go.Al
/- What the program's withNewlines answers. -/
namespace Go.Al
variable{L:Nat}(h1:4096≤L)(h2:L≤1073741824)
open Go.Proofs Go.RowKit
set_option maxRecDepth 1000000
def yF:Value→Nat
  | .int _ n=>n.toNat
  | _=>0
theorem qB{c:UInt8}{ls:List cJ}{i:Nat}(h:i<ls.length):cU c (ls.take (i+1))=cU c (ls.take i)++(ls[i]++[c]):=by
 rw[List.take_succ_eq_append_getElem h,dv];simp[cU]
theorem sv{c:UInt8}{ls:List cJ}{i:Nat}:(cU c (ls.take i)).length≤(cU c ls).length:=by
 conv=>rhs;rw[←List.take_append_drop i ls,dv]
 rw[cG];omega
theorem th{w:World}{base:Option Addr}{cap:Nat}{ls:List cJ}(hc: ∀(j:Nat) s,ls[j]? = some s→∃b off,base=some ⟨b,off,none⟩∧b<w.heap.size∧w.cell? ⟨b,off+j,none⟩=some (.string (bS s)))
    (hl:(cU 10 ls).length≤1073741824) (hn:ls.length≤1073741824) :
    Calls Tryz.prog 58 #[.slice base ls.length cap] w fun e w'=>e= .returned (.string (bS (cU 10 ls)))∧Below w.heap.size w w':=by
  go_enter Tryz.func58,Tryz.ntmps58
  go_wp2_with fail
  go_loopw [8] (fun v wr=> ∃i:Nat,v= .int .i64 i∧i≤ls.length∧Lib.IsBuilderF 121 5 w.heap.size w.heap.size (Lib.byteCells (cU 10 (ls.take i))) wr∧Below w.heap.size w wr) (fun v _=>ls.length-yF v)
  case atStart=>exact⟨0,rfl,co _,Lib.IsBuilderF.of (Lib.fresh_isBuilder 121 5 w),(Below.refl _ w).alloc (cm _) _⟩
  case round=>
    obtain⟨i,rfl,hi,hB,hbw⟩:=hrel
    by_cases hlt:i<ls.length
    · obtain⟨b,off,rfl,hb,hcell⟩:=hc i ls[i] (by simp[hlt])
      have hcw:wr.cell? ⟨b,off+i,none⟩=some (.string (bS ls[i])):=(Same.cell (show Same w wr b from hbw.block b hb)).trans hcell
      have hct:=qB (c:=10) hlt
      have hcl:=congrArg List.length hct
      have hcp:=sv (c:=10) (ls:=ls) (i:=i+1)
      rw[cG,cG,sG]at hcl
      have hov: ¬9223372036854775807<(bS ls[i]).size+1:=by rw[fU];omega
      have hap:bS ls[i]++({data:= #[10]}:ByteArray)=bS (ls[i]++[10]):=rM _ _
      go_wp2_with fail
      refine(Tryz.Builder_WriteString_f w.heap.size w.heap.size _ _ wr hB (by rw[Lib.byteCells_length,fU,cG,sG];omega) hbw.size).mono fun e W1 ⟨he,k1,b1⟩=>?_
      subst he
      go_wp2_with fail
      go_roundw
      case rel=>
        refine⟨i+1,by simp,by omega,Or.inr ?_,hbw.trans b1⟩
        rw[hct,Lib.byteCells_append,←nJ]
        exact k1
      case measure=>
        simp[yF]
        omega
    · obtain rfl:i=ls.length:=by omega
      rw[List.take_length]at hB
      go_wp2_with fail
      refine(Tryz.Builder_String_any_f w.heap.size w.heap.size _ wr hB hbw.size).mono fun e W1 ⟨he,_,b1⟩=>?_
      subst he
      go_wp2_with fail
      go_ret
      exact⟨Z,hbw.trans b1⟩
theorem wF{ls:List cJ}(hl:(cU 10 ls).length≤L)(hn:ls.length≤L):MQ h1 h2 58 [.c (.d (qX ls))] [] (Plain (qV (cU 10 ls))):=by
 refine rO ⟨_,_,Tryz.func58,by kernel_rfl,Z⟩ fun w ok m vs h0 h5=>?_
 cases h5 with
 | cons a1 a2=>
  cases a2
  have key: ∀{base cap},(∀(j:Nat) s,ls[j]? = some s→∃b off,base=some ⟨b,off,none⟩∧b<w.heap.size∧w.cell? ⟨b,off+j,none⟩=some (.string (bS s)))→Calls Tryz.prog 58 #[.slice base ls.length cap] w (mL fun x w'=>Frame w w' []∧∀ok' m',(∀b,w.heap.size≤b→ok' b)→RA L w' ok' m' (qV (cU 10 ls)) x):=fun hc=>
   Calls.mono (th hc (by omega) (by omega)) fun e w' ⟨he,hw⟩=>by
    subst he
    exact⟨.of_below hw,fun ok' m' _=>.c (.d (.str (by show(bS _).size≤L;rw[fU];exact hl)))⟩
  rcases rX a1 with⟨rfl,base,cap,rfl⟩|⟨b,off,cap,rfl,hb,hcap,hc⟩
  exact key (fun j s h=>by cases h)
  exact key fun j s h=>⟨b,off,Z,hb,(hc j s h).1⟩
abbrev lB(ls:List cJ)(l:Nat):B:=.box [.rs l 0 ls.length]
abbrev lR(ls:List cJ):B:=.row false 1 (ls.map fun p=>[sD p])
theorem gvT{p:cJ}{ts:List Tm}{ls:List cJ}{i:Nat}(h:i<ts.length):ls++cB p (ts.take (i+1))=(ls++cB p (ts.take i))++[p++[32]++tS (ts.getD i default)]:=by
 rw[List.take_succ_eq_append_getElem h,au h]
 unfold cB
 rw[List.map_append,List.map_cons,List.map_nil,←dO]
theorem nD{c:UInt8}: ∀{ls:List cJ},ls.length≤(cU c ls).length
 | []=>cm _
 | p::r=>by
  have:=nD (c:=c) (ls:=r)
  rw[cU,cG,dF,dF];omega
theorem rj{p:cJ}{ts:List Tm}{ls:List cJ}(hp:p.length≤4)(ht:bQ ts 6=true)(hll:ls.length≤1000):MQ h1 h2 54 [qV p,ff ts,.c (.pt 0 0 0)] [(0,lB ls 1),(1,lR ls)] (fA (.tup []) [(0,lB (ls++cB p ts) 2),(2,lR (ls++cB p ts))]):=by
 refine d9 500 Z (MC.keep [500,502] (bs:=[lB (ls++cB p ts) 502,lR (ls++cB p ts)]) (R:=.tup []) Z Z (jH 22 [500,501] h1 h2 Tryz.func54 Z fun O hF=>?_))
 refine ld ?_
 obtain⟨htm,htl⟩:=dU (n:=6) ht
 have hl:ts.length≤L:=by omega
 refine af (js Z ?_)
 first|refine bP Z ?_|refine js Z ?_|refine aR Z Z ?_
 refine js Z (jn (ah (al (X:=Nat) (fun i=>⟨[(0,qV p),(2,.c (.pt 500 0 0)),(7,ff ts),(8,eI ts.length),(9,eI i)],[(500,lB (ls++cB p (ts.take i)) 502),(502,lR (ls++cB p (ts.take i)))]⟩) (fun i=>i≤ts.length) (fun i=>ts.length-i) 0 ((am 501 502 Z Z).trans (Ent.to ⟨Z,Z,Z,Z,Z,aj⟩ (by rw[show ls++cB p (ts.take 0)=ls by simp[cB]];rfl))) ?_ (fun i hi=>?_))))
 exact co _
 refine af (js Z (jn (aa (ao Z (fun z10=>?_) (fun z10=>?_)))))
 refine ac (aa (ah (af ?_)))
 have hi0:i<ts.length:=by have:=bZ z10;omega
 have hti:(ts.getD i default).term=true:=by rw[au hi0];exact htm _ (List.getElem_mem hi0)
 have hok:(ts.getD i default).ok=true:=by unfold Tm.term at hti;simp only[bD]at hti;exact hti.1
 have htl4:=pp hti
 have hCl:(cB p (ts.take i)).length≤6:=by unfold cB;rw[aQ,List.length_take];omega
 refine ak (ax O Z Z Z Z Z Z Z Z (bJ hi0)) Z (js Z (jf [12,10,0,2,7,8,9] Z (jl Z (aA ?_))))
 refine jo Z (aA ?_)
 refine bw (aq [500,502,6] (e':=[(6,_),(0,_),(2,_),(7,_),(8,_),(9,_)]) Z Z ⟨Z,Z,Z,Z,Z,Z,aj⟩ Z) (bw (Ent.freeze 6 (e':=[(6,_),(0,_),(2,_),(7,_),(8,_),(9,_)]) Z (.cons Z (.c (.box (cs:=(ts.getD i default).cells) Z (aV Z))) (fe [0,2,7,8,9] Z)) (vk Z (mK Z (.skip .nil)))) ?_)
 refine aA ?_
 refine jn (u6 [_,_,_,_,_,_,_,_,_] [pn [] 0 2,pn [] 0 1,pn [1] 0 1,aN,pe [3] 0,pn (rg 1 4) 1 1,pe (rg 1 5) 1,pe (rg 0 7) 2,pe (rg 0 8) 3] [4,6,7,8] [_,_,_,_,_] [[],[],[502],[]] (ai (ka Z Z (ka Z Z (kw Z Z))) (ai (ka Z Z (kw Z Z)) (ai (ai (ai (cO (p:=p) (q:=[32]) O Z Z Z Z Z Z (by show p.length+1≤L;omega) (by show L≤_;omega)) Z) (ai (cO (p:=p) (q:=[32]) O Z Z Z Z Z Z (by show p.length+1≤L;omega) (by show L≤_;omega)) Z)) (ka Z Z (ai (ai (bF (aG O (B0:=18000) Z Z Z Z (wJ (t:=(ts.getD i default)) h1 h2 hok) (ae Z) Z Z Z Z Z)) Z) (ai (ai (cO (p:=(p++[32])) (q:=(tS (ts.getD i default))) O Z Z Z Z Z Z (by rw[cG];show p.length+1+_≤L;omega) (by show L≤_;omega)) Z) (ai (ai (bF (nG O Z Z Z Z Z Z Z Z Z Z Z Z Z Z)) Z) (ai (ai (gu (own:=false) (xs:=(ls++cB p (ts.take i)).map (fun p=>[sD p])) (ys:=[[sD (p++[32]++tS (ts.getD i default))]]) (zs:=((ls++cB p (ts.take i))++[(p++[32]++tS (ts.getD i default))]).map (fun p=>[sD p])) (n:=((ls++cB p (ts.take i))++[(p++[32]++tS (ts.getD i default))]).length) O Z Z Z Z Z Z Z Z Z Z Z Z Z Z Z Z (.row Z (aQ _).symm) (.whole Z Z (.inr ⟨Z,Z⟩)) (by simp) Z (by simp;omega) (by simp;omega) (by simp) (by simp) Z) Z) (ai (ai (bF (eS Z Z Z)) Z) trivial))))))))) ?_)
 refine jw [6,0,2,7,8,9] Z (ld ?_)
 refine ab ?_
 first|refine ji Z ?_|refine aR Z Z ?_
 refine js Z (jn ?_)
 refine⟨i+1,((aq [500,20] (e':=[(0,_),(2,_),(7,_),(8,_),(9,_)]) Z Z ⟨Z,Z,Z,Z,Z,aj⟩ Z).trans (am 20 502 Z Z)).trans (Ent.to ⟨Z,Z,Z,Z,Z,aj⟩ (by rw[gvT hi0];rfl)),by omega,by omega⟩
 refine aM ?_
 show _∧_
 obtain rfl:i=ts.length:=by have:=cS z10;omega
 rw[List.take_length]
 refine⟨.inr Z,_,bt,_,Z,Z,Z⟩
theorem nC{a:An}(h:bB a=true): ∀{n:Nat},n≤a.code.length→(cZ a n).length≤8*n
 | 0,_=>cm _
 | n + 1,hn=>by
  have h1:=nC h (n:=n) (by omega)
  obtain⟨_,_,_,_,_,_,h7⟩:=kh h
  have h2:(pY a n).length≤8:=by
   by_cases h9:jW (fun p:Pt=>decide (p.k=(n:Int))) a.pts<0
   rw[rJ h9];simp
   obtain⟨k,hk⟩:=mh (show 0≤jW (fun p:Pt=>decide (p.k=(n:Int))) a.pts by omega)
   obtain⟨hk1,hk2⟩:=oo hk
   have:=(dU (n:=6) (h7 k hk1)).2
   rw[hk2,cG,dF,sG]
   unfold cB;rw[aQ];omega
  rw[cZ,cG];omega
theorem uc{a:An}(hv:bB a=true)(hL:1048576<L):MQ h1 h2 21 [aAn a] [] (Plain (qV (ga a))):=by
 refine av ?_ Z
 refine jB 49 h1 h2 Tryz.func21 Z fun O hF=>?_
 obtain⟨hin,hcl,hcl1,htp,hto,hpl,hpf⟩:=kh hv
 have hl:a.code.length≤L:=by omega
 have hlp:a.pts.length≤L:=by omega
 have htl:=qd hv
 have q1:(cB dS a.pre).length≤6:=by unfold cB;rw[aQ];exact(dU (n:=6) htp).2
 have q2:(cB cL a.post).length≤6:=by unfold cB;rw[aQ];exact(dU (n:=6) hto).2
 refine af (jx Z (aA ?_))
 refine bw (Ent.freeze 1 (e':=[(1,_),(0,_)]) Z (.cons Z (.c (.box (cs:=a.data) Z (aV Z))) (fe [0] Z)) (.skip .nil)) ?_
 refine aA ?_
 refine js Z (bm (jl Z (aA ?_)))
 refine bm (bw (ea 3 900 1 false 0 Z Z Z) (ag Z (bm (bb Z (jf [11,9,4,8,1,3] Z (bH O [3,900] (bin:=[lB [] 1,lR []]) Z Z Z Z (rj (p:=dS) (ts:=a.pre) (ls:=[]) h1 h2 (by decide) htp (by simp)) Z Z Z Z Z Z (B0:=13000) Z Z (aA ?_)))))))
 refine jf [4,8,1,3] Z (bm (bb Z (jf [15,13,4,8,1,3] Z (bH O [3,13002] (bin:=[lB (cB dS a.pre) 1,lR (cB dS a.pre)]) Z Z Z Z (rj (p:=cL) (ts:=a.post) (ls:=cB dS a.pre) h1 h2 (by decide) hto (by omega)) Z Z Z Z Z Z (B0:=17000) Z Z (aA ?_)))))
 refine jf [4,8,1,3] Z (jn (aa (af (ag Z ?_))))
 first|refine bP Z ?_|refine js Z ?_|refine aR Z Z ?_
 refine js Z (jn (ah (al (X:=Nat) (fun i=>⟨[(1,ptr a.data),(3,.c (.pt 3 0 0)),(4,.c (.fn 54 [.pt 3 0 0])),(18,cn a.code),(19,eI a.code.length),(20,eI i)],[(3,lB (cB dS a.pre++cB cL a.post++cZ a i) 900),(900,lR (cB dS a.pre++cB cL a.post++cZ a i))]⟩) (fun i=>i≤a.code.length) (fun i=>a.code.length-i) 0 ((am 17002 900 Z Z).trans (Ent.to ⟨Z,Z,Z,Z,Z,Z,aj⟩ (by rw[show(cB dS a.pre++cB cL a.post++cZ a 0)=cB dS a.pre++cB cL a.post from List.append_nil _];rfl))) ?_ (fun i hi=>?_))))
 exact co _
 refine af (js Z (jn (aa (ao Z (fun z21=>?_) (fun z21=>?_)))))
 refine ac (aa (ah (af (js Z ?_))))
 have hi0:i<a.code.length:=by have:=bZ z21;omega
 have hCl:=nC hv (n:=i) (by omega)
 have hil:=pH (hin i hi0)
 refine ak (ax O Z Z Z Z Z Z Z Z (bJ hi0)) Z (js Z (jf [24,22,21,1,3,4,18,19,20] Z (jl Z (aA ?_))))
 refine js Z (jf [5,6,24,21,1,3,4,18,19,20] Z (jo Z (aA ?_)))
 refine bw (aq [3,900,6] (e':=[(6,_),(5,_),(1,_),(3,_),(4,_),(18,_),(19,_),(20,_)]) Z Z ⟨Z,Z,Z,Z,Z,Z,Z,Z,aj⟩ Z) (bw (Ent.freeze 6 (e':=[(6,_),(5,_),(1,_),(3,_),(4,_),(18,_),(19,_),(20,_)]) Z (.cons Z (.c (.box (cs:=(a.code.getD i default).cells) Z (aV Z))) (fe [5,1,3,4,18,19,20] Z)) (vk Z (mK Z (.skip .nil)))) ?_)
 refine aA ?_
 refine jn (aa (af (ag Z (jf [26,25,6,1,3,4,18,19,20] Z (ba Z (p9 (a:=a) (k:=(i:Int)) h1 h2) 28000 Z (js Z (jf [7,6,1,3,4,18,19,20] Z (bm (ag Z (jn ?_))))))))))
 obtain⟨M,hM0,hM1,hMl,hnx⟩: ∃M:List cJ,((jW (fun p:Pt=>decide (p.k=(i:Int))) a.pts)<0→M=[])∧(∀k:Nat,(jW (fun p:Pt=>decide (p.k=(i:Int))) a.pts)=k→M=eg::(cB sH (a.pts.getD k default).fs))∧M.length≤7∧(cB dS a.pre++cB cL a.post++cZ a (i+1))=(cB dS a.pre++cB cL a.post++cZ a i)++M++[iu (a.code.getD i default)]:=by
  by_cases h:(jW (fun p:Pt=>decide (p.k=(i:Int))) a.pts)<0
  refine⟨[],fun _=>rfl,fun k hk=>by omega,by simp,?_⟩
  rw[cZ,rJ h];simp
  obtain⟨k,hk⟩:=mh (show 0≤(jW (fun p:Pt=>decide (p.k=(i:Int))) a.pts) by omega)
  obtain⟨hk1,hk2⟩:=oo hk
  refine⟨eg::(cB sH (a.pts.getD k default).fs),fun h9=>by omega,fun j hj=>by rw[show j=k by omega],?_,by rw[cZ,hk2];simp⟩
  have:=(dU (n:=6) (hpf k hk1)).2
  unfold cB;rw[dF,aQ];omega
 refine bu ⟨[(1,ptr a.data),(3,.c (.pt 3 0 0)),(4,.c (.fn 54 [.pt 3 0 0])),(6,ptr (a.code.getD i default).cells),(18,cn a.code),(19,eI a.code.length),(20,eI i)],[(3,lB ((cB dS a.pre++cB cL a.post++cZ a i)++M) 900),(900,lR ((cB dS a.pre++cB cL a.post++cZ a i)++M))]⟩ ?_ ?_
 refine ao Z (fun z29=>?_) (fun z29=>?_)
 refine af ?_
 obtain⟨k,hk⟩:=mh (show 0≤(jW (fun p:Pt=>decide (p.k=(i:Int))) a.pts) by simpa using z29)
 obtain⟨hk1,_⟩:=oo hk
 have hgl:=(dU (n:=6) (hpf k hk1)).2
 rw[hk]
 refine js Z (bc (ch O Z Z Z Z Z Z Z Z Z Z Z) Z (aA ?_))
 refine bc (lq (own:=false) (xs:=(cB dS a.pre++cB cL a.post++cZ a i).map (fun p=>[sD p])) (ys:=[[sD eg]]) (zs:=((cB dS a.pre++cB cL a.post++cZ a i)++[eg]).map (fun p=>[sD p])) (n:=((cB dS a.pre++cB cL a.post++cZ a i)++[eg]).length) O Z (.row Z (aQ _).symm) (.whole Z Z (.inr ⟨Z,Z⟩)) (by simp) Z (by simp;omega) (by simp;omega) (by simp) (by simp)) Z (aA ?_)
 refine aA ?_
 refine jf [32,29,28,7,6,1,3,4,18,19,20] Z (jo Z (aA ?_))
 refine aA ?_
 refine jn (ab (bp Z (ak (ax O Z Z Z Z Z Z Z Z (bJ hk1)) Z (ag Z (jf [39,33,32,29,28,7,6,1,3,4,18,19,20] Z (bH O [3,32] (bin:=[lB ((cB dS a.pre++cB cL a.post++cZ a i)++[eg]) 1,lR ((cB dS a.pre++cB cL a.post++cZ a i)++[eg])]) Z Z Z Z (rj (p:=sH) (ts:=(a.pts.getD k default).fs) (ls:=(cB dS a.pre++cB cL a.post++cZ a i)++[eg]) h1 h2 (by decide) (hpf k hk1) (by simp only[cG,sG];omega)) Z Z Z Z Z Z (B0:=41000) Z Z (aA ?_)))))))
 refine jf [32,29,28,7,6,1,3,4,18,19,20] Z (jn ?_)
 exact⟨Z,((aq [3,41002] (e':=[(1,_),(3,_),(4,_),(6,_),(18,_),(19,_),(20,_)]) Z Z ⟨Z,Z,Z,Z,Z,Z,Z,aj⟩ Z).trans (am 41002 900 Z Z)).trans (Ent.to ⟨Z,Z,Z,Z,Z,Z,Z,aj⟩ (by rw[show(cB dS a.pre++cB cL a.post++cZ a i)++M=(cB dS a.pre++cB cL a.post++cZ a i)++[eg]++(cB sH (a.pts.getD k default).fs) by rw[hM1 k hk];simp];rfl))⟩
 refine ac ?_
 exact⟨Z,Ent.to ⟨Z,Z,Z,Z,Z,Z,Z,aj⟩ (by rw[hM0 (by simpa using z29),List.append_nil])⟩
 refine u6 [_,_,_,_,_,_] [pn [] 0 2,aN,pe [1] 0,pe [1,2] 1,pe (rg 0 4) 2,pe (rg 0 5) 3] [2,3,4,5] [_,_,_,_,_] [[],[],[900],[]] (ai (ka Z Z (ka Z Z (kw Z Z))) (ka Z Z (ai (ai (bF (aG O (B0:=44000) Z Z Z Z (wG (x:=(a.code.getD i default)) h1 h2 (hin i hi0)) (ae Z) Z Z Z Z Z)) Z) (ai (ai (bF (nG O Z Z Z Z Z Z Z Z Z Z Z Z Z Z)) Z) (ai (ai (gu (own:=false) (xs:=((cB dS a.pre++cB cL a.post++cZ a i)++M).map (fun p=>[sD p])) (ys:=[[sD (iu (a.code.getD i default))]]) (zs:=(((cB dS a.pre++cB cL a.post++cZ a i)++M)++[(iu (a.code.getD i default))]).map (fun p=>[sD p])) (n:=(((cB dS a.pre++cB cL a.post++cZ a i)++M)++[(iu (a.code.getD i default))]).length) O Z Z Z Z Z Z Z Z Z Z Z Z Z Z Z Z (.row Z (aQ _).symm) (.whole Z Z (.inr ⟨Z,Z⟩)) (by simp) Z (by simp;omega) (by simp;omega) (by simp) (by simp) Z) Z) (ai (ai (bF (eS Z Z Z)) Z) trivial)))))) ?_
 refine jw [1,3,4,6,18,19,20] Z (ld ?_)
 refine ab ?_
 first|refine ji Z ?_|refine aR Z Z ?_
 refine js Z (jn ?_)
 refine⟨i+1,((aq [3,45] (e':=[(1,_),(3,_),(4,_),(18,_),(19,_),(20,_)]) Z Z ⟨Z,Z,Z,Z,Z,Z,aj⟩ Z).trans (am 45 900 Z Z)).trans (Ent.to ⟨Z,Z,Z,Z,Z,Z,aj⟩ (by rw[hnx];rfl)),by omega,by omega⟩
 refine aM (af ?_)
 obtain rfl:i=a.code.length:=by have:=cS z21;omega
 refine js Z (aP O Z Z Z Z (wF (ls:=gd a) h1 h2 (by show(ga a).length≤L;omega) (by have:=nD (c:=10) (ls:=gd a);have h:(cU 10 (gd a)).length≤30000:=htl;omega)) (.cons (.c (.whole Z (show(gd a).length=((gd a).map _).length from(aQ _).symm))) .nil) Z Z Z Z Z (B0:=49000) Z (js Z (jf [2,21,1,3,4,18,19,20] Z (jr ?_))))
 refine aD Z ?_
 rfl
end Go.Al
