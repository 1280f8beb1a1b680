/- Proofs as text: the writers, walked. -/
import Derived.Test.YtjjheilajcepfaaGreatDoorE
import Derived.Test.YtjjheilajcepfaaGreatDoorH
import Derived.WalkKit
import Derived.Deep.QuietTactic
import Derived.BigQuiet
import Derived.Lib.Join
set_option linter.unusedVariables false
set_option linter.unusedSimpArgs false
set_option maxRecDepth 10000
set_option maxHeartbeats 4000000
open Go.Proofs
/- The bytes of a package, in plain Lean. -/
namespace Go.Al
variable{L:Nat}(h1:4096≤L)(h2:L≤1073741824)
open Go.Lib
structure Pk where
  nm:aQ
  an:An
  pf:List (List Nd)
def sK(p:List Nd):aQ:=bB 47 (p.map bz)
theorem t0{n:Int}(h:co n=true):(itoa n).length≤7:=by
 unfold co at h
 simp only[aN,decide_eq_true_eq]at h
 unfold itoa
 rw[if_neg (by omega)]
 exact fY (by omega)
theorem iz{c:UInt8}{B:Nat}: ∀{ls:List aQ},(∀l∈ls,l.length≤B)→(bB c ls).length≤(B+1)*ls.length
 | [],_=>by simp[bB]
 | [p],h=>by have:=h p (by simp);simp only[bB,oP];omega
 | p::q::r,h=>by
  have h1:=iz (c:=c) (ls:=q::r) fun x hx=>h x (List.mem_cons_of_mem _ hx)
  have h2:=h p (List.mem_cons_self ..)
  rw[bB,dS,fh,fh (a:=p),Nat.mul_add]
  omega
theorem sT{x:Nd}(h:cQ x=true):NdR x∧x.mul.length≤20∧∀m∈x.mul,co m=true:=by
 have hz:x.term.zero=true→x.term.ok=true:=fun hz=>by
  unfold Tm.zero at hz
  simp only[aN,decide_eq_true_eq]at hz
  have h0:x.term.xs=[]:=List.length_eq_zero_iff.1 (by omega)
  have:x.term=⟨0,[]⟩:=by cases hx:x.term with|mk c xs=>rw[hx]at hz h0;simp only at hz h0;rw[h0,hz.1]
  rw[this];exact uV
 unfold cQ at h
 split at h
 rename_i h1
 simp only[aN,decide_eq_true_eq]at h
 obtain⟨⟨h2,h3⟩,h4⟩:=h
 unfold kl at h4
 simp only[aN,decide_eq_true_eq,List.all_eq_true]at h4
 refine⟨⟨.inl h1,by omega,hz h3,fun m hm=>?_⟩,by omega,h4.1⟩
 have:=h4.1 m hm
 unfold co at this
 simp only[aN,decide_eq_true_eq]at this
 omega
 split at h
 rename_i h1
 simp only[aN,decide_eq_true_eq]at h
 obtain⟨⟨h2,h3⟩,h4⟩:=h
 have h0:x.mul=[]:=List.length_eq_zero_iff.1 (by omega)
 exact⟨⟨.inr (.inl h1),by omega,h3,by rw[h0];simp⟩,by omega,by rw[h0];simp⟩
 split at h
 rename_i h1
 simp only[aN,decide_eq_true_eq]at h
 obtain⟨⟨h2,h3⟩,h4⟩:=h
 have h0:x.mul=[]:=List.length_eq_zero_iff.1 (by omega)
 unfold jg at h2
 simp only[aN,decide_eq_true_eq]at h2
 exact⟨⟨.inr (.inr h1),by omega,hz h3,by rw[h0];simp⟩,by omega,by rw[h0];simp⟩
 cases h
theorem mv{x:Nd}(h:cQ x=true):(bz x).length≤170:=by
 obtain⟨hR,h1,h2⟩:=sT h
 unfold bz
 split
 have:=iz (c:=44) (B:=7) (ls:=x.mul.map itoa) fun l hl=>by
  obtain⟨m,hm,rfl⟩:=List.mem_map.1 hl
  exact t0 (h2 m hm)
 rw[cj]at this
 rw[fh];omega
 split
 have:=tF hR.term
 rw[fh];omega
 have:=sv hR.fact
 split<;>simp<;>omega
theorem qx{p:List Nd}(h:gD p=true):1≤p.length∧p.length≤60∧∀x∈p,cQ x=true:=by
 unfold gD at h
 simp only[aN,decide_eq_true_eq,List.all_eq_true]at h
 obtain⟨⟨h1,h2⟩,h3,h4⟩:=h
 exact⟨by omega,by omega,h3⟩
theorem ov{p:List Nd}(h:gD p=true):(sK p).length≤10260:=by
 obtain⟨h1,h2,h3⟩:=qx h
 have:=iz (c:=47) (B:=170) (ls:=p.map bz) fun l hl=>by
  obtain⟨x,hx,rfl⟩:=List.mem_map.1 hl
  exact mv (h3 x hx)
 rw[cj]at this
 unfold sK
 omega
end Go.Al
/- A slice of texts, read in a world. -/
namespace Go.Al
variable{L:Nat}(h1:4096≤L)(h2:L≤1073741824)
open Go.Proofs Go.RowKit
theorem qJ{L:Nat}{w:World}{ok:Nat→Prop}{m:Nat→Loc}{ls:List aQ}{v:Value}(h:RA L w ok m (.c (.d (strs ls))) v) :
    (ls=[]∧∃base cap,v= .slice base 0 cap)∨(∃b off cap,v= .slice (some ⟨b,off,none⟩) ls.length cap∧b<w.heap.size∧ls.length≤cap∧∀(j:Nat) s,ls[j]? = some s→w.cell? ⟨b,off+j,none⟩=some (.string (bS s))∧s.length≤L):=by
 cases h with
 | c h => cases h with
  | d h =>
    generalize hx:strs ls=x at h
    unfold strs at hx
    cases h with
    | slc0=>
      injection hx with h1 h2
      exact .inl ⟨List.map_eq_nil_iff.1 h2,_,_,Z⟩
    | slc h1 h2 h3 h4 h5 h6=>
      injection hx with e1 e2
      subst e1;subst e2
      rw[cj]at h1 h2 ⊢
      refine .inr ⟨_,_,_,Z,h5,h2,fun j s hj=>?_⟩
      have hf:(ls.map fun p=>[sD p]).flatten[j*1+0]? = some (sD s):=fF (sz:=1) h3 (e:=[sD s]) (by rw[List.getElem?_map,hj];rfl) Z
      rw[Nat.mul_one,Nat.add_zero]at hf
      obtain⟨u,hu,hr⟩:=h6.get rfl hf
      cases hr with
      | str hs=>exact⟨hu,by rw[ca]at hs;exact hs⟩
    | _=>cases hx
theorem j0(c:UInt8): ∀ss:List aQ,Lib.join ss [c]=bB c ss
 | []=>rfl
 | [p]=>by simp[Lib.join,List.intercalate,bB]
 | p::q::r=>by
  have ih:=j0 c (q::r)
  unfold Lib.join at ih ⊢
  rw[bB,←ih]
  simp[List.intercalate]
theorem sZ{ss:List aQ}{c:UInt8}(hl:(bB c ss).length≤L):MQ h1 h2 69 [.c (.d (strs ss)),fm [c]] [] (Plain (fm (bB c ss))):=by
 refine lp ⟨_,_,Tryz.func69,by kernel_rfl,Z⟩ fun w ok m vs h0 h5=>?_
 cases h5 with
 | cons a1 a2=>cases a2 with
  | cons a3 a4=>
   cases a4
   obtain⟨rfl,_⟩:=RA.str_inv a3
   rcases qJ a1 with⟨rfl,base,cap,rfl⟩|⟨b,off,cap,rfl,hb,hcap,hc⟩
   ·
    refine Calls.mono (Tryz.strings_Join_none base cap (bS [c]) w) fun e w' ⟨he,hw⟩=>?_
    subst he hw
    exact⟨⟨Z,Z,Z,bP _,fun _ _ _=>rfl⟩,fun ok' m' _=>.c (.d (.str (fg _)))⟩
   ·
    have hm:(ss.map bS).map (·.data.toList)=ss:=by
     rw[List.map_map]
     conv=>rhs;rw[←List.map_id ss]
     exact List.map_congr_left fun x _=>iL x
    have hj:Lib.join ((ss.map bS).map (·.data.toList)) (bS [c]).data.toList=bB c ss:=by rw[hm,iL,j0]
    have hn:ss.length≤1073741825:=by
     have:=my (c:=c) (ss:=ss);omega
    have z2: ∀(j:Nat) x,(ss.map bS)[j]? = some x→w.cell? ⟨b,off+j,none⟩=some (.string x):=by
     intro j x hx
     rw[List.getElem?_map]at hx
     cases hs:ss[j]? with
     | none=>rw[hs]at hx;cases hx
     | some s=>rw[hs]at hx;cases hx;exact(hc j s hs).1
    have h:=Tryz.strings_Join b off cap (ss.map bS) (bS [c]) w z2 hb (by rw[cj];omega) (by rw[cj];exact hcap) (by rw[hj];omega)
    rw[hj,cj]at h
    refine Calls.mono h fun e w' ⟨he,hw⟩=>?_
    subst he
    exact⟨.of_below hw,fun ok' m' _=>.c (.d (.str (by show(bS _).size≤L;rw[ca];exact hl)))⟩
theorem nW{α:Type}[Inhabited α]{f:α→aQ}{xs:List α}{i:Nat}(h:i<xs.length):(xs.take (i+1)).map f=(xs.take i).map f++[f (xs.getD i default)]:=by
 rw[List.take_succ_eq_append_getElem h,List.map_append,List.map_singleton,am h]
theorem vK{ms:List Int}(hm: ∀m∈ms,-1000000000≤m∧m≤1000000000)(hl:(bB 44 (ms.map Lib.itoa)).length≤L)(hn:ms.length<L):MQ h1 h2 66 [bD ms] [] (Plain (fm (bB 44 (ms.map Lib.itoa)))):=by
 refine aH ?_ Z
 refine jB 20 h1 h2 Tryz.func66 Z fun O hF=>?_
 refine af (js Z (aZ (js Z (jn (ah (af (js Z ?_)))))))
 first|refine eh Z ?_|refine js Z ?_|refine cf Z Z ?_
 refine js Z (jn (ak (av (X:=Nat) (fun i=>⟨[(3,.c (.rs 900 0 ((ms.take i).map Lib.itoa).length)),(6,bD ms),(7,eI ms.length),(8,eI i)],[(900,.row false 1 (((ms.take i).map Lib.itoa).map (fun p=>[sD p])))]⟩) (fun i=>i≤ms.length) (fun i=>ms.length-i) 0 ((ee 3 900 1 false Z Z).trans (Ent.to (e':=[(3,_),(6,_),(7,_),(8,_)]) ⟨Z,Z,Z,Z,aq⟩ Z)) ?_ (fun i hi=>?_))))
 exact fg _
 refine af (js Z (jn (ah (ar Z (fun z9=>?_) (fun z9=>?_)))))
 refine al (ah (ak (af ?_)))
 have hi0:i<ms.length:=by have:=cN z9;omega
 have hmi:=hm (ms.getD i default) (by rw[am hi0];exact List.getElem_mem hi0)
 refine aj (bi O Z Z Z Z Z Z Z Z (gG hi0)) Z (ac Z (jf [5,9,3,6,7,8] Z (jn (ag (ac Z (jf [13,12,9,3,6,7,8] Z (bE Z (l6 (n:=ms.getD i default) h1 h2 (by omega) (by omega)) 15000 Z (jf [14,12,9,3,6,7,8] Z (aI (aP O Z Z Z Z Z Z Z Z Z Z Z) Z (au ?_))))))))))
 refine jf [15,12,9,3,6,7,8] Z (aI (cw (own:=false) (xs:=((ms.take i).map Lib.itoa).map (fun p=>[sD p])) (ys:=[[sD (Lib.itoa (ms.getD i default))]]) (zs:=(((ms.take i).map Lib.itoa)++[(Lib.itoa (ms.getD i default))]).map (fun p=>[sD p])) (n:=(((ms.take i).map Lib.itoa)++[(Lib.itoa (ms.getD i default))]).length) O Z (.row Z (cj _).symm) (.whole Z Z (.inr ⟨Z,Z⟩)) (by simp) Z (by simp;omega) (by simp;omega) (by simp) (by simp)) Z (au ?_))
 refine au ?_
 refine js Z (jf [3,9,6,7,8] Z (jn (ag ?_)))
 first|refine ji Z ?_|refine cf Z Z ?_
 refine js Z (jn ?_)
 refine⟨i+1,((ap [16] (e':=[(3,_),(6,_),(7,_),(8,_)]) Z Z ⟨Z,Z,Z,Z,aq⟩ Z).trans (ax 16 900 Z Z)).trans (Ent.to ⟨by rw[nW hi0];rfl,Z,Z,Z,aq⟩ (by rw[nW hi0];rfl)),by omega,by omega⟩
 refine bg (af ?_)
 obtain rfl:i=ms.length:=by have:=de z9;omega
 rw[List.take_length]
 refine js Z (dy O Z Z Z Z (sZ (ss:=ms.map Lib.itoa) (c:=44) h1 h2 hl) (.cons (.c (.whole Z (cj _).symm)) (.cons (.c .d) .nil)) Z Z Z Z Z (B0:=20000) Z (js Z (jf [2,9,3,6,7,8] Z (jr ?_))))
 refine aC Z ?_
 rfl
theorem vL{p:List Nd}(hb:gD p=true)(hL:1048576<L):MQ h1 h2 30 [bN p] [] (Plain (fm (sK p))):=by
 refine aH ?_ Z
 refine jB 42 h1 h2 Tryz.func30 Z fun O hF=>?_
 obtain⟨hp1,hp60,hnd⟩:=qx hb
 have hl:p.length≤L:=by omega
 refine af (js Z (aZ (js Z (jn (ah (af (js Z ?_)))))))
 first|refine eh Z ?_|refine js Z ?_|refine cf Z Z ?_
 refine js Z (jn (ak (av (X:=Nat) (fun i=>⟨[(3,.c (.rs 900 0 ((p.take i).map bz).length)),(6,bN p),(7,eI p.length),(8,eI i)],[(900,.row false 1 (((p.take i).map bz).map (fun p=>[sD p])))]⟩) (fun i=>i≤p.length) (fun i=>p.length-i) 0 ((ee 3 900 1 false Z Z).trans (Ent.to (e':=[(3,_),(6,_),(7,_),(8,_)]) ⟨Z,Z,Z,Z,aq⟩ Z)) ?_ (fun i hi=>?_))))
 exact fg _
 refine af (js Z (jn (ah (ar Z (fun z9=>?_) (fun z9=>?_)))))
 refine al (ah (ak (af ?_)))
 have hi0:i<p.length:=by have:=cN z9;omega
 have hxb:cQ (p.getD i default)=true:=by rw[am hi0];exact hnd _ (List.getElem_mem hi0)
 obtain⟨hxR,hx20,hxco⟩:=sT hxb
 have hxl:=mv hxb
 refine aj (bi O Z Z Z Z Z Z Z Z (gG hi0)) Z (js Z (jf [11,9,3,6,7,8] Z (jl Z (au ?_))))
 refine jo Z (au ?_)
 refine aA (ap [900,5] (e':=[(5,_),(3,_),(6,_),(7,_),(8,_)]) Z Z ⟨Z,Z,Z,Z,Z,aq⟩ Z) (aA (Ent.freeze 5 (e':=[(5,_),(3,_),(6,_),(7,_),(8,_)]) Z (.cons Z (.c (.box (cs:=(p.getD i default).cells) Z (aK Z))) (fe [3,6,7,8] Z)) (eT Z (.skip .nil))) ?_)
 refine au ?_
 refine aZ (ac Z (jn (f2 ⟨[(3,.c (.rs 900 0 (((p.take i).map bz)++[(bz (p.getD i default))]).length)),(6,bN p),(7,eI p.length),(8,eI i)],[(900,.row false 1 ((((p.take i).map bz)++[(bz (p.getD i default))]).map (fun p=>[sD p])))]⟩ ?_ ?_)))
 refine ak (af (ac Z (jn (ar Z (fun z21=>?_) (fun z21=>?_)))))
 refine ag ?_
 have hk1:(p.getD i default).kind=1:=cN z21
 have hn1:bz (p.getD i default)=99::bB 44 ((p.getD i default).mul.map Lib.itoa):=if_pos hk1
 have hxl1:=hxl
 rw[hn1,fh]at hxl1
 refine aW Z (jf [25,23,21,22,13,12,5,3,6,7,8] Z (bE Z (vK (ms:=(p.getD i default).mul) h1 h2 hxR.mul (by omega) (by omega)) 27000 Z (aj ((c8 (p:=[99]) (q:=(bB 44 ((p.getD i default).mul.map Lib.itoa))) O Z Z Z Z Z Z (by show 1+_≤L;omega) (by show L≤_;omega)).cast (v':=fm (bz (p.getD i default))) (congrArg fm hn1.symm)) Z (jf [27,23,21,22,13,12,5,3,6,7,8] Z (aI (aP O Z Z Z Z Z Z Z Z Z Z Z) Z (au ?_))))))
 refine jf [28,23,21,22,13,12,5,3,6,7,8] Z (aI (cw (own:=false) (xs:=((p.take i).map bz).map (fun p=>[sD p])) (ys:=[[sD (bz (p.getD i default))]]) (zs:=(((p.take i).map bz)++[(bz (p.getD i default))]).map (fun p=>[sD p])) (n:=(((p.take i).map bz)++[(bz (p.getD i default))]).length) O Z (.row Z (cj _).symm) (.whole Z Z (.inr ⟨Z,Z⟩)) (by simp) Z (by simp;omega) (by simp;omega) (by simp) (by simp)) Z (au ?_))
 refine au ?_
 refine js Z (jf [3,21,22,13,12,5,6,7,8] Z (jn ?_))
 exact⟨Z,((ap [29] (e':=[(3,_),(6,_),(7,_),(8,_)]) Z Z ⟨Z,Z,Z,Z,aq⟩ Z).trans (ax 29 900 Z Z)).trans (Ent.to ⟨Z,Z,Z,Z,aq⟩ Z)⟩
 refine af (ac Z (jn (ar Z (fun z30=>?_) (fun z30=>?_))))
 refine ag ?_
 have hk2:(p.getD i default).kind=2:=cN z30
 have hn2:bz (p.getD i default)=115::tS (p.getD i default).term:=by unfold bz;rw[hk2,if_neg (by decide),if_pos Z]
 have hxl2:=hxl
 rw[hn2,fh]at hxl2
 refine aW Z (jf [34,32,30,31,21,22,13,12,5,3,6,7,8] Z (bE Z (s7 (t:=(p.getD i default).term) h1 h2 hxR.term) 36000 Z (aj ((c8 (p:=[115]) (q:=(tS (p.getD i default).term)) O Z Z Z Z Z Z (by show 1+_≤L;omega) (by show L≤_;omega)).cast (v':=fm (bz (p.getD i default))) (congrArg fm hn2.symm)) Z (jf [36,32,30,31,21,22,13,12,5,3,6,7,8] Z (aI (aP O Z Z Z Z Z Z Z Z Z Z Z) Z (au ?_))))))
 refine jf [37,32,30,31,21,22,13,12,5,3,6,7,8] Z (aI (cw (own:=false) (xs:=((p.take i).map bz).map (fun p=>[sD p])) (ys:=[[sD (bz (p.getD i default))]]) (zs:=(((p.take i).map bz)++[(bz (p.getD i default))]).map (fun p=>[sD p])) (n:=(((p.take i).map bz)++[(bz (p.getD i default))]).length) O Z (.row Z (cj _).symm) (.whole Z Z (.inr ⟨Z,Z⟩)) (by simp) Z (by simp;omega) (by simp;omega) (by simp) (by simp)) Z (au ?_))
 refine au ?_
 refine js Z (jf [3,30,31,21,22,13,12,5,6,7,8] Z (jn ?_))
 exact⟨Z,((ap [38] (e':=[(3,_),(6,_),(7,_),(8,_)]) Z Z ⟨Z,Z,Z,Z,aq⟩ Z).trans (ax 38 900 Z Z)).trans (Ent.to ⟨Z,Z,Z,Z,aq⟩ Z)⟩
 refine ag ?_
 have hk3:(p.getD i default).kind=3:=hxR.kind.elim (fun h=>absurd h (de z21)) fun h=>h.elim (fun h=>absurd h (de z30)) id
 have hn3:bz (p.getD i default)=116::Lib.itoa (p.getD i default).fact:=by unfold bz;rw[hk3,if_neg (by decide),if_neg (by decide),if_pos Z]
 have hxl3:=hxl
 rw[hn3,fh]at hxl3
 have hxf:=hxR.fact
 refine aW Z (jf [16,14,30,31,21,22,13,12,5,3,6,7,8] Z (bE Z (l6 (n:=(p.getD i default).fact) h1 h2 (by omega) (by omega)) 18000 Z (aj ((c8 (p:=[116]) (q:=(Lib.itoa (p.getD i default).fact)) O Z Z Z Z Z Z (by show 1+_≤L;omega) (by show L≤_;omega)).cast (v':=fm (bz (p.getD i default))) (congrArg fm hn3.symm)) Z (jf [18,14,30,31,21,22,13,12,5,3,6,7,8] Z (aI (aP O Z Z Z Z Z Z Z Z Z Z Z) Z (au ?_))))))
 refine jf [19,14,30,31,21,22,13,12,5,3,6,7,8] Z (aI (cw (own:=false) (xs:=((p.take i).map bz).map (fun p=>[sD p])) (ys:=[[sD (bz (p.getD i default))]]) (zs:=(((p.take i).map bz)++[(bz (p.getD i default))]).map (fun p=>[sD p])) (n:=(((p.take i).map bz)++[(bz (p.getD i default))]).length) O Z (.row Z (cj _).symm) (.whole Z Z (.inr ⟨Z,Z⟩)) (by simp) Z (by simp;omega) (by simp;omega) (by simp) (by simp)) Z (au ?_))
 refine au ?_
 refine js Z (jf [3,30,31,21,22,13,12,5,6,7,8] Z (jn ?_))
 exact⟨Z,((ap [20] (e':=[(3,_),(6,_),(7,_),(8,_)]) Z Z ⟨Z,Z,Z,Z,aq⟩ Z).trans (ax 20 900 Z Z)).trans (Ent.to ⟨Z,Z,Z,Z,aq⟩ Z)⟩
 refine ag ?_
 first|refine ji Z ?_|refine cf Z Z ?_
 refine js Z (jn ?_)
 refine⟨i+1,Ent.to ⟨by rw[nW hi0];rfl,Z,Z,Z,aq⟩ (by rw[nW hi0]),by omega,by omega⟩
 refine bg (af ?_)
 obtain rfl:i=p.length:=by have:=de z9;omega
 rw[List.take_length]
 refine js Z (dy O Z Z Z Z (sZ (ss:=p.map bz) (c:=47) h1 h2 (by have:=ov hb;unfold sK at this;omega)) (.cons (.c (.whole Z (cj _).symm)) (.cons (.c .d) .nil)) Z Z Z Z Z (B0:=42000) Z (js Z (jf [2,9,3,6,7,8] Z (jr ?_))))
 refine aC Z ?_
 rfl
end Go.Al
