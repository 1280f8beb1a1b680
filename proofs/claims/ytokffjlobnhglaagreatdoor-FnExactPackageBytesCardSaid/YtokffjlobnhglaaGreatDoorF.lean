/- The bytes of a package: the writers of both sides, walked; the law; what the package-level variables hold. -/
import Derived.Test.YtokffjlobnhglaaGreatDoorE
import Derived.BigCall
import Derived.Test.YtokffjlobnhglaaGreatDoorH
import Derived.Test.YtokffjlobnhglaaGreatDoorTie
import Derived.Test.YtokffjlobnhglaaGreatDoorCards
import Derived.ProofKit
import Derived.OpenShut
import Derived.LaidMore
import Derived.LaidLaws
import Derived.Lay
import Derived.SevenTiedAt
import Derived.Shelf.Vars
import Derived.Stop.Joined
set_option linter.unusedVariables false
set_option linter.unusedSimpArgs false
set_option maxRecDepth 10000
set_option maxHeartbeats 4000000
open Go.Proofs
/- What the program's withNewlines answers. -/
namespace Go.Al
variable{L:Nat}(h1:4096≤L)(h2:L≤1073741824)
open Go.Proofs Go.RowKit
set_option maxRecDepth 1000000
def qc:Value→Nat
  | .int _ n=>n.toNat
  | _=>0
theorem mu{c:UInt8}{ls:List Str}{i:Nat}(h:i<ls.length):bb c (ls.take (i+1))=bb c (ls.take i)++(ls[i]++[c]):=by
 rw[List.take_succ_eq_append_getElem h,bF];simp[bb]
theorem nO{c:UInt8}{ls:List Str}{i:Nat}:(bb c (ls.take i)).length≤(bb c ls).length:=by
 conv=>rhs;rw[←List.take_append_drop i ls,bF]
 rw[bn];omega
theorem oC{w:World}{base:Option Addr}{cap:Nat}{ls:List Str}(hc: ∀(j:Nat) s,ls[j]? = some s→∃b off,base=some ⟨b,off,none⟩∧b<w.heap.size∧w.cell? ⟨b,off+j,none⟩=some (.string (bS s)))
    (hl:(bb 10 ls).length≤1073741824) (hn:ls.length≤1073741824) :
    Calls Tryz.prog 85 #[.slice base ls.length cap] w fun e w'=>e= .returned (.string (bS (bb 10 ls)))∧Below w.heap.size w w':=by
  go_enter Tryz.func85,Tryz.ntmps85
  go_wp2_with fail
  go_loopw [8] (fun v wr=> ∃i:Nat,v= .int .i64 i∧i≤ls.length∧Lib.IsBuilderF 80 5 w.heap.size w.heap.size (Lib.byteCells (bb 10 (ls.take i))) wr∧Below w.heap.size w wr) (fun v _=>ls.length-qc v)
  case atStart=>exact⟨0,rfl,bZ _,Lib.IsBuilderF.of (Lib.fresh_isBuilder 80 5 w),(Below.refl _ w).alloc (cw _) _⟩
  case round=>
    obtain⟨i,rfl,hi,hB,hbw⟩:=hrel
    by_cases hlt:i<ls.length
    · obtain⟨b,off,rfl,hb,hcell⟩:=hc i ls[i] (by simp[hlt])
      have hcw:wr.cell? ⟨b,off+i,none⟩=some (.string (bS ls[i])):=(Same.cell (show Same w wr b from hbw.block b hb)).trans hcell
      have hct:=mu (c:=10) hlt
      have hcl:=congrArg List.length hct
      have hcp:=nO (c:=10) (ls:=ls) (i:=i+1)
      rw[bn,bn,n5]at hcl
      have hov: ¬9223372036854775807<(bS ls[i]).size+1:=by rw[be];omega
      have hap:bS ls[i]++({data:= #[10]}:ByteArray)=bS (ls[i]++[10]):=nk _ _
      go_wp2_with fail
      refine(Tryz.Builder_WriteString_f w.heap.size w.heap.size _ _ wr hB (by rw[Lib.byteCells_length,be,bn,n5];omega) hbw.size).mono fun e W1 ⟨he,k1,b1⟩=>?_
      subst he
      go_wp2_with fail
      go_roundw
      case rel=>
        refine⟨i+1,by simp,by omega,Or.inr ?_,hbw.trans b1⟩
        rw[hct,Lib.byteCells_append,←gc]
        exact k1
      case measure=>
        simp[qc]
        omega
    · obtain rfl:i=ls.length:=by omega
      rw[List.take_length]at hB
      go_wp2_with fail
      refine(Tryz.Builder_String_any_f w.heap.size w.heap.size _ wr hB hbw.size).mono fun e W1 ⟨he,_,b1⟩=>?_
      subst he
      go_wp2_with fail
      go_ret
      exact⟨Z,hbw.trans b1⟩
theorem rb{ls:List Str}(hl:(bb 10 ls).length≤L)(hn:ls.length≤L):MQ h1 h2 85 [.c (.d (jM ls))] [] (Plain (bk (bb 10 ls))):=by
 refine kT ⟨_,_,Tryz.func85,by kernel_rfl,Z⟩ fun w ok m vs h0 h5=>?_
 cases h5 with
 | cons a1 a2=>
  cases a2
  have key: ∀{base cap},(∀(j:Nat) s,ls[j]? = some s→∃b off,base=some ⟨b,off,none⟩∧b<w.heap.size∧w.cell? ⟨b,off+j,none⟩=some (.string (bS s)))→Calls Tryz.prog 85 #[.slice base ls.length cap] w (jN fun x w'=>Frame w w' []∧∀ok' m',(∀b,w.heap.size≤b→ok' b)→RA L w' ok' m' (bk (bb 10 ls)) x):=fun hc=>
   Calls.mono (oC hc (by omega) (by omega)) fun e w' ⟨he,hw⟩=>by
    subst he
    exact⟨.of_below hw,fun ok' m' _=>.c (.d (.str (by show(bS _).size≤L;rw[be];exact hl)))⟩
  rcases gV a1 with⟨rfl,base,cap,rfl⟩|⟨b,off,cap,rfl,hb,hcap,hc⟩
  exact key (fun j s h=>by cases h)
  exact key fun j s h=>⟨b,off,Z,hb,(hc j s h).1⟩
abbrev lB(ls:List Str)(l:Nat):B:=.box [.rs l 0 ls.length]
abbrev lR(ls:List Str):B:=.row false 1 (ls.map fun p=>[sD p])
theorem gvT{p:Str}{ts:List Tm}{ls:List Str}{i:Nat}(h:i<ts.length):ls++bo p (ts.take (i+1))=(ls++bo p (ts.take i))++[p++[32]++tS (ts.getD i default)]:=by
 rw[List.take_succ_eq_append_getElem h,au h]
 unfold bo
 rw[List.map_append,List.map_cons,List.map_nil,←dd]
theorem kg{c:UInt8}: ∀{ls:List Str},ls.length≤(bb c ls).length
 | []=>cw _
 | p::r=>by
  have:=kg (c:=c) (ls:=r)
  rw[bb,bn,dV,dV];omega
theorem m5{p:Str}{ts:List Tm}{ls:List Str}(hp:p.length≤4)(ht:bh ts 6=true)(hll:ls.length≤1000):MQ h1 h2 81 [bk p,dY ts,.c (.pt 0 0 0)] [(0,lB ls 1),(1,lR ls)] (kD (.tup []) [(0,lB (ls++bo p ts) 2),(2,lR (ls++bo p ts))]):=by
 refine nV 500 Z (MC.keep [500,502] (bs:=[lB (ls++bo p ts) 502,lR (ls++bo p ts)]) (R:=.tup []) Z Z (jH 22 [500,501] h1 h2 Tryz.func81 Z fun O hF=>?_))
 refine nZ ?_
 obtain⟨htm,htl⟩:=cJ (n:=6) ht
 have hl:ts.length≤L:=by omega
 refine ab (js Z ?_)
 first|refine bA Z ?_|refine js Z ?_|refine aQ Z Z ?_
 refine js Z (jn (ak (aq (X:=Nat) (fun i=>⟨[(0,bk p),(2,.c (.pt 500 0 0)),(7,dY ts),(8,eI ts.length),(9,eI i)],[(500,lB (ls++bo p (ts.take i)) 502),(502,lR (ls++bo p (ts.take i)))]⟩) (fun i=>i≤ts.length) (fun i=>ts.length-i) 0 ((bv 501 502 Z Z).trans (Ent.to ⟨Z,Z,Z,Z,Z,ao⟩ (by rw[show ls++bo p (ts.take 0)=ls by simp[bo]];rfl))) ?_ (fun i hi=>?_))))
 exact bZ _
 refine ab (js Z (jn (af (al Z (fun z10=>?_) (fun z10=>?_)))))
 refine ae (af (ak (ab ?_)))
 have hi0:i<ts.length:=by have:=bK z10;omega
 have hti:(ts.getD i default).term=true:=by rw[au hi0];exact htm _ (List.getElem_mem hi0)
 have hok:(ts.getD i default).ok=true:=by unfold Tm.term at hti;simp only[bd]at hti;exact hti.1
 have htl4:=jh hti
 have hCl:(bo p (ts.take i)).length≤6:=by unfold bo;rw[cS,List.length_take];omega
 refine ah (aF O Z Z Z Z Z Z Z Z (cQ hi0)) Z (js Z (jf [12,10,0,2,7,8,9] Z (jl Z (aW ?_))))
 refine jo Z (aW ?_)
 refine bf (aE [500,502,6] (e':=[(6,_),(0,_),(2,_),(7,_),(8,_),(9,_)]) Z Z ⟨Z,Z,Z,Z,Z,Z,ao⟩ Z) (bf (Ent.freeze 6 (e':=[(6,_),(0,_),(2,_),(7,_),(8,_),(9,_)]) Z (.cons Z (.c (.box (cs:=(ts.getD i default).cells) Z (bj Z))) (fe [0,2,7,8,9] Z)) (qg Z (py Z (.skip .nil)))) ?_)
 refine aW ?_
 refine jn (tA [_,_,_,_,_,_,_,_,_] [pn [] 0 2,pn [] 0 1,pn [1] 0 1,bp,pe [3] 0,pn (rg 1 4) 1 1,pe (rg 1 5) 1,pe (rg 0 7) 2,pe (rg 0 8) 3] [4,6,7,8] [_,_,_,_,_] [[],[],[502],[]] (ai (ka Z Z (ka Z Z (kw Z Z))) (ai (ka Z Z (kw Z Z)) (ai (ai (ai (aw (p:=p) (q:=[32]) O Z Z Z Z Z Z (by show p.length+1≤L;omega) (by show L≤_;omega)) Z) (ai (aw (p:=p) (q:=[32]) O Z Z Z Z Z Z (by show p.length+1≤L;omega) (by show L≤_;omega)) Z)) (ka Z Z (ai (ai (iV (aD O (B0:=18000) Z Z Z Z (pq (t:=(ts.getD i default)) h1 h2 hok) (aj Z) Z Z Z Z Z)) Z) (ai (ai (aw (p:=(p++[32])) (q:=(tS (ts.getD i default))) O Z Z Z Z Z Z (by rw[bn];show p.length+1+_≤L;omega) (by show L≤_;omega)) Z) (ai (ai (iV (kk O Z Z Z Z Z Z Z Z Z Z Z Z Z Z)) Z) (ai (ai (gt (own:=false) (xs:=(ls++bo p (ts.take i)).map (fun p=>[sD p])) (ys:=[[sD (p++[32]++tS (ts.getD i default))]]) (zs:=((ls++bo p (ts.take i))++[(p++[32]++tS (ts.getD i default))]).map (fun p=>[sD p])) (n:=((ls++bo p (ts.take i))++[(p++[32]++tS (ts.getD i default))]).length) O Z Z Z Z Z Z Z Z Z Z Z Z Z Z Z Z (.row Z (cS _).symm) (.whole Z Z (.inr ⟨Z,Z⟩)) (by simp) Z (by simp;omega) (by simp;omega) (by simp) (by simp) Z) Z) (ai (ai (iV (eS Z Z Z)) Z) trivial))))))))) ?_)
 refine jw [6,0,2,7,8,9] Z (nZ ?_)
 refine ag ?_
 first|refine ji Z ?_|refine aQ Z Z ?_
 refine js Z (jn ?_)
 refine⟨i+1,((aE [500,20] (e':=[(0,_),(2,_),(7,_),(8,_),(9,_)]) Z Z ⟨Z,Z,Z,Z,Z,ao⟩ Z).trans (bv 20 502 Z Z)).trans (Ent.to ⟨Z,Z,Z,Z,Z,ao⟩ (by rw[gvT hi0];rfl)),by omega,by omega⟩
 refine aL ?_
 show _∧_
 obtain rfl:i=ts.length:=by have:=ce z10;omega
 rw[List.take_length]
 refine⟨.inr Z,_,cp,_,Z,Z,Z⟩
theorem kf{a:An}(h:cU a=true): ∀{n:Nat},n≤a.code.length→(cn a n).length≤8*n
 | 0,_=>cw _
 | n + 1,hn=>by
  have h1:=kf h (n:=n) (by omega)
  obtain⟨_,_,_,_,_,_,h7⟩:=dO h
  have h2:(mQ a n).length≤8:=by
   by_cases h9:e7 (fun p:Pt=>decide (p.k=(n:Int))) a.pts<0
   rw[kN h9];simp
   obtain⟨k,hk⟩:=fF (show 0≤e7 (fun p:Pt=>decide (p.k=(n:Int))) a.pts by omega)
   obtain⟨hk1,hk2⟩:=gT hk
   have:=(cJ (n:=6) (h7 k hk1)).2
   rw[hk2,bn,dV,n5]
   unfold bo;rw[cS];omega
  rw[cn,bn];omega
theorem ru{a:An}(hv:cU a=true)(hL:1048576<L):MQ h1 h2 40 [n8 a] [] (Plain (bk (cx a))):=by
 refine ac ?_ Z
 refine jB 49 h1 h2 Tryz.func40 Z fun O hF=>?_
 obtain⟨hin,hcl,hcl1,htp,hto,hpl,hpf⟩:=dO hv
 have hl:a.code.length≤L:=by omega
 have hlp:a.pts.length≤L:=by omega
 have htl:=dA hv
 have q1:(bo b0 a.pre).length≤6:=by unfold bo;rw[cS];exact(cJ (n:=6) htp).2
 have q2:(bo bz a.post).length≤6:=by unfold bo;rw[cS];exact(cJ (n:=6) hto).2
 refine ab (jx Z (aW ?_))
 refine bf (Ent.freeze 1 (e':=[(1,_),(0,_)]) Z (.cons Z (.c (.box (cs:=a.data) Z (bj Z))) (fe [0] Z)) (.skip .nil)) ?_
 refine aW ?_
 refine js Z (aX (jl Z (aW ?_)))
 refine aX (bf (kt 3 900 1 false 0 Z Z Z) (aa Z (aX (bc Z (jf [11,9,4,8,1,3] Z (el O [3,900] (bin:=[lB [] 1,lR []]) Z Z Z Z (m5 (p:=b0) (ts:=a.pre) (ls:=[]) h1 h2 (by decide) htp (by simp)) Z Z Z Z Z Z (B0:=13000) Z Z (aW ?_)))))))
 refine jf [4,8,1,3] Z (aX (bc Z (jf [15,13,4,8,1,3] Z (el O [3,13002] (bin:=[lB (bo b0 a.pre) 1,lR (bo b0 a.pre)]) Z Z Z Z (m5 (p:=bz) (ts:=a.post) (ls:=bo b0 a.pre) h1 h2 (by decide) hto (by omega)) Z Z Z Z Z Z (B0:=17000) Z Z (aW ?_)))))
 refine jf [4,8,1,3] Z (jn (af (ab (aa Z ?_))))
 first|refine bA Z ?_|refine js Z ?_|refine aQ Z Z ?_
 refine js Z (jn (ak (aq (X:=Nat) (fun i=>⟨[(1,ptr a.data),(3,.c (.pt 3 0 0)),(4,.c (.fn 81 [.pt 3 0 0])),(18,i8 a.code),(19,eI a.code.length),(20,eI i)],[(3,lB (bo b0 a.pre++bo bz a.post++cn a i) 900),(900,lR (bo b0 a.pre++bo bz a.post++cn a i))]⟩) (fun i=>i≤a.code.length) (fun i=>a.code.length-i) 0 ((bv 17002 900 Z Z).trans (Ent.to ⟨Z,Z,Z,Z,Z,Z,ao⟩ (by rw[show(bo b0 a.pre++bo bz a.post++cn a 0)=bo b0 a.pre++bo bz a.post from List.append_nil _];rfl))) ?_ (fun i hi=>?_))))
 exact bZ _
 refine ab (js Z (jn (af (al Z (fun z21=>?_) (fun z21=>?_)))))
 refine ae (af (ak (ab (js Z ?_))))
 have hi0:i<a.code.length:=by have:=bK z21;omega
 have hCl:=kf hv (n:=i) (by omega)
 have hil:=jq (hin i hi0)
 refine ah (aF O Z Z Z Z Z Z Z Z (cQ hi0)) Z (js Z (jf [24,22,21,1,3,4,18,19,20] Z (jl Z (aW ?_))))
 refine js Z (jf [5,6,24,21,1,3,4,18,19,20] Z (jo Z (aW ?_)))
 refine bf (aE [3,900,6] (e':=[(6,_),(5,_),(1,_),(3,_),(4,_),(18,_),(19,_),(20,_)]) Z Z ⟨Z,Z,Z,Z,Z,Z,Z,Z,ao⟩ Z) (bf (Ent.freeze 6 (e':=[(6,_),(5,_),(1,_),(3,_),(4,_),(18,_),(19,_),(20,_)]) Z (.cons Z (.c (.box (cs:=(a.code.getD i default).cells) Z (bj Z))) (fe [5,1,3,4,18,19,20] Z)) (qg Z (py Z (.skip .nil)))) ?_)
 refine aW ?_
 refine jn (af (ab (aa Z (jf [26,25,6,1,3,4,18,19,20] Z (aB Z (tb (a:=a) (k:=(i:Int)) h1 h2) 28000 Z (js Z (jf [7,6,1,3,4,18,19,20] Z (aX (aa Z (jn ?_))))))))))
 obtain⟨M,hM0,hM1,hMl,hnx⟩: ∃M:List Str,((e7 (fun p:Pt=>decide (p.k=(i:Int))) a.pts)<0→M=[])∧(∀k:Nat,(e7 (fun p:Pt=>decide (p.k=(i:Int))) a.pts)=k→M=bQ::(bo kz (a.pts.getD k default).fs))∧M.length≤7∧(bo b0 a.pre++bo bz a.post++cn a (i+1))=(bo b0 a.pre++bo bz a.post++cn a i)++M++[iH (a.code.getD i default)]:=by
  by_cases h:(e7 (fun p:Pt=>decide (p.k=(i:Int))) a.pts)<0
  refine⟨[],fun _=>rfl,fun k hk=>by omega,by simp,?_⟩
  rw[cn,kN h];simp
  obtain⟨k,hk⟩:=fF (show 0≤(e7 (fun p:Pt=>decide (p.k=(i:Int))) a.pts) by omega)
  obtain⟨hk1,hk2⟩:=gT hk
  refine⟨bQ::(bo kz (a.pts.getD k default).fs),fun h9=>by omega,fun j hj=>by rw[show j=k by omega],?_,by rw[cn,hk2];simp⟩
  have:=(cJ (n:=6) (hpf k hk1)).2
  unfold bo;rw[dV,cS];omega
 refine bJ ⟨[(1,ptr a.data),(3,.c (.pt 3 0 0)),(4,.c (.fn 81 [.pt 3 0 0])),(6,ptr (a.code.getD i default).cells),(18,i8 a.code),(19,eI a.code.length),(20,eI i)],[(3,lB ((bo b0 a.pre++bo bz a.post++cn a i)++M) 900),(900,lR ((bo b0 a.pre++bo bz a.post++cn a i)++M))]⟩ ?_ ?_
 refine al Z (fun z29=>?_) (fun z29=>?_)
 refine ab ?_
 obtain⟨k,hk⟩:=fF (show 0≤(e7 (fun p:Pt=>decide (p.k=(i:Int))) a.pts) by simpa using z29)
 obtain⟨hk1,_⟩:=gT hk
 have hgl:=(cJ (n:=6) (hpf k hk1)).2
 rw[hk]
 refine js Z (bC (bt O Z Z Z Z Z Z Z Z Z Z Z) Z (aW ?_))
 refine bC (eT (own:=false) (xs:=(bo b0 a.pre++bo bz a.post++cn a i).map (fun p=>[sD p])) (ys:=[[sD bQ]]) (zs:=((bo b0 a.pre++bo bz a.post++cn a i)++[bQ]).map (fun p=>[sD p])) (n:=((bo b0 a.pre++bo bz a.post++cn a i)++[bQ]).length) O Z (.row Z (cS _).symm) (.whole Z Z (.inr ⟨Z,Z⟩)) (by simp) Z (by simp;omega) (by simp;omega) (by simp) (by simp)) Z (aW ?_)
 refine aW ?_
 refine jf [32,29,28,7,6,1,3,4,18,19,20] Z (jo Z (aW ?_))
 refine aW ?_
 refine jn (ag (aJ Z (ah (aF O Z Z Z Z Z Z Z Z (cQ hk1)) Z (aa Z (jf [39,33,32,29,28,7,6,1,3,4,18,19,20] Z (el O [3,32] (bin:=[lB ((bo b0 a.pre++bo bz a.post++cn a i)++[bQ]) 1,lR ((bo b0 a.pre++bo bz a.post++cn a i)++[bQ])]) Z Z Z Z (m5 (p:=kz) (ts:=(a.pts.getD k default).fs) (ls:=(bo b0 a.pre++bo bz a.post++cn a i)++[bQ]) h1 h2 (by decide) (hpf k hk1) (by simp only[bn,n5];omega)) Z Z Z Z Z Z (B0:=41000) Z Z (aW ?_)))))))
 refine jf [32,29,28,7,6,1,3,4,18,19,20] Z (jn ?_)
 exact⟨Z,((aE [3,41002] (e':=[(1,_),(3,_),(4,_),(6,_),(18,_),(19,_),(20,_)]) Z Z ⟨Z,Z,Z,Z,Z,Z,Z,ao⟩ Z).trans (bv 41002 900 Z Z)).trans (Ent.to ⟨Z,Z,Z,Z,Z,Z,Z,ao⟩ (by rw[show(bo b0 a.pre++bo bz a.post++cn a i)++M=(bo b0 a.pre++bo bz a.post++cn a i)++[bQ]++(bo kz (a.pts.getD k default).fs) by rw[hM1 k hk];simp];rfl))⟩
 refine ae ?_
 exact⟨Z,Ent.to ⟨Z,Z,Z,Z,Z,Z,Z,ao⟩ (by rw[hM0 (by simpa using z29),List.append_nil])⟩
 refine tA [_,_,_,_,_,_] [pn [] 0 2,bp,pe [1] 0,pe [1,2] 1,pe (rg 0 4) 2,pe (rg 0 5) 3] [2,3,4,5] [_,_,_,_,_] [[],[],[900],[]] (ai (ka Z Z (ka Z Z (kw Z Z))) (ka Z Z (ai (ai (iV (aD O (B0:=44000) Z Z Z Z (rc (x:=(a.code.getD i default)) h1 h2 (hin i hi0)) (aj Z) Z Z Z Z Z)) Z) (ai (ai (iV (kk O Z Z Z Z Z Z Z Z Z Z Z Z Z Z)) Z) (ai (ai (gt (own:=false) (xs:=((bo b0 a.pre++bo bz a.post++cn a i)++M).map (fun p=>[sD p])) (ys:=[[sD (iH (a.code.getD i default))]]) (zs:=(((bo b0 a.pre++bo bz a.post++cn a i)++M)++[(iH (a.code.getD i default))]).map (fun p=>[sD p])) (n:=(((bo b0 a.pre++bo bz a.post++cn a i)++M)++[(iH (a.code.getD i default))]).length) O Z Z Z Z Z Z Z Z Z Z Z Z Z Z Z Z (.row Z (cS _).symm) (.whole Z Z (.inr ⟨Z,Z⟩)) (by simp) Z (by simp;omega) (by simp;omega) (by simp) (by simp) Z) Z) (ai (ai (iV (eS Z Z Z)) Z) trivial)))))) ?_
 refine jw [1,3,4,6,18,19,20] Z (nZ ?_)
 refine ag ?_
 first|refine ji Z ?_|refine aQ Z Z ?_
 refine js Z (jn ?_)
 refine⟨i+1,((aE [3,45] (e':=[(1,_),(3,_),(4,_),(18,_),(19,_),(20,_)]) Z Z ⟨Z,Z,Z,Z,Z,Z,ao⟩ Z).trans (bv 45 900 Z Z)).trans (Ent.to ⟨Z,Z,Z,Z,Z,Z,ao⟩ (by rw[hnx];rfl)),by omega,by omega⟩
 refine aL (ab ?_)
 obtain rfl:i=a.code.length:=by have:=ce z21;omega
 refine js Z (br O Z Z Z Z (rb (ls:=eb a) h1 h2 (by show(cx a).length≤L;omega) (by have:=kg (c:=10) (ls:=eb a);have h:(bb 10 (eb a)).length≤30000:=htl;omega)) (.cons (.c (.whole Z (show(eb a).length=((eb a).map _).length from(cS _).symm))) .nil) Z Z Z Z Z (B0:=49000) Z (js Z (jf [2,21,1,3,4,18,19,20] Z (jr ?_))))
 refine am Z ?_
 rfl
end Go.Al
/- The program's packageBytes: the bytes, written by a strings.Builder. -/
namespace Go.Al
variable{L:Nat}(h1:4096≤L)(h2:L≤1073741824)
open Go.Proofs Go.RowKit
set_option maxRecDepth 1000000
abbrev Pk.cells(p:Pk):List D:=sD p.nm::(p.an.data++[fB p.pf])
abbrev aPk(p:Pk):A:=.agg (p.cells.map .d)
def gK:Code→Code
  | .seq _ c=>c
  | c=>c
theorem av{α:Type}{l:List α}{n:Nat}(h:l.length=n+1): ∃v r,l=v::r∧r.length=n:=by
 cases l with
 | nil=>cases h
 | cons v r=>exact⟨v,r,Z,by simpa using h⟩
theorem oz{L:Nat}{w:World}{ok:Nat→Prop}{m:Nat→Loc}{cs:List D}{off:Nat}{v:Value}(h:RA L w ok m (.c (.d (.ptr cs off))) v): ∃b o,v= .pointer (some ⟨b,o+off,none⟩)∧b<w.heap.size∧RDs L w ok cs b o []:=by
 cases h with
 | c h=>cases h with
  | d h=>cases h with
    | ptr h1 h2 h3=>exact⟨_,_,Z,h2,h3⟩
theorem ox{L:Nat}{w:World}{ok:Nat→Prop}{sz:Nat}{xs:List (List D)}{v:Value}{F:List Nat}(h:RD L w ok (.slc sz xs) v F): ∃base cap,v= .slice base xs.length cap:=by
 cases h with
 | slc0=>exact⟨_,_,Z⟩
 | slc h1 h2 h3 h4 h5 h6=>exact⟨_,_,Z⟩
 | own h1 h2 h3 h4 h5 h6 h7=>exact⟨_,_,Z⟩
theorem nP{L:Nat}(h1:4096≤L)(h2:L≤1073741824)(hL:1048576<L){s:Str}{w:World}{ok:Nat→Prop}(hg:GOk Tryz.prog w ok)(hs:s.length≤40000) :
    Calls Tryz.prog 42 #[.string (bS s)] w fun e w'=>e= .returned (.tuple #[.string (bS (d9 s)),.bool true])∧Below w.heap.size w w':=by
 refine Calls.mono ((rq (s:=s) h1 h2 hs hL).calls hg (vs:=[.string (bS s)]) (.cons (.c (.d (.str (by rw[be];omega)))) .nil)) fun e w' he=>?_
 cases e with
 | returned x=>
  obtain⟨hB,_,_,hr⟩:=he
  refine⟨?_,hB⟩
  cases hr with
  | tup h=>cases h with
   | cons a b=>cases b with
     | cons c d=>
       cases d
       rw[a.str_inv.1,c.bool_inv]
 | _=>exact he.elim
theorem kh{L:Nat}(h1:4096≤L)(h2:L≤1073741824){n:Nat}{w:World}{ok:Nat→Prop}(hg:GOk Tryz.prog w ok)(hn:n≤1000000000000000) :
    Calls Tryz.prog 44 #[.int .i64 (n:Int)] w fun e w'=>e= .returned (.string (bS (bO (2*n))))∧Below w.heap.size w w':=by
 refine Calls.mono ((ph (n:=n) h1 h2 hn).calls hg (vs:=[.int .i64 (n:Int)]) (.cons (.c (.d (.int (by show(-9223372036854775808:Int)≤_;omega) (by show _≤(9223372036854775807:Int);omega)))) .nil)) fun e w' he=>?_
 cases e with
 | returned x=>
  obtain⟨hB,_,_,hr⟩:=he
  exact⟨by rw[hr.str_inv.1],hB⟩
 | _=>exact he.elim
theorem nQ{L:Nat}(h1:4096≤L)(h2:L≤1073741824){s:Str}{w:World}{ok:Nat→Prop}(hg:GOk Tryz.prog w ok)(hs:s.length≤L) :
    Calls Tryz.prog 46 #[.string (bS s)] w fun e w'=>e= .returned (.int .i64 (gM s:Nat))∧Below w.heap.size w w':=by
 refine Calls.mono ((ro (s:=s) h1 h2 hs).calls hg (vs:=[.string (bS s)]) (.cons (.c (.d (.str (by rw[be];omega)))) .nil)) fun e w' he=>?_
 cases e with
 | returned x=>
  obtain⟨hB,_,_,hr⟩:=he
  exact⟨by rw[hr.int_inv'],hB⟩
 | _=>exact he.elim
theorem mv{L:Nat}(h1:4096≤L)(h2:L≤1073741824){n:Nat}{w:World}{ok:Nat→Prop}(hg:GOk Tryz.prog w ok)(hn:n≤1000000000000000) :
    Calls Tryz.prog 45 #[.int .i64 (n:Int)] w fun e w'=>e= .returned (.int .i64 (n:Int))∧Below w.heap.size w w':=by
 refine Calls.mono ((mV (n:=(n:Int)) h1 h2).calls hg (vs:=[.int .i64 (n:Int)]) (.cons (.c (.d (.int (by show(-9223372036854775808:Int)≤_;omega) (by show _≤(9223372036854775807:Int);omega)))) .nil)) fun e w' he=>?_
 cases e with
 | returned x=>
  obtain⟨hB,_,_,hr⟩:=he
  exact⟨by rw[hr.int_inv'],hB⟩
 | _=>exact he.elim
theorem dD{T e:TypeId}{B b:Nat}{bs:List Value}{w w':World}(h:Lib.IsBuilderF T e B b bs w)(hb:Below w.heap.size w w'):Lib.IsBuilderF T e B b bs w':=by
 have key: ∀{p},Lib.BuilderAtF T e B b p bs w→Lib.BuilderAtF T e B b p bs w':=fun{p} h=>by
  obtain⟨hB,v,h1,⟨hl,hv⟩,hne⟩:=h
  have same: ∀k o,w.heap[k]? = some o→w'.heap[k]? = some o:=fun k o hk=>(hb.block k (Array.getElem?_eq_some_iff.1 hk).1).trans hk
  refine⟨hB,v,same _ _ h1,⟨hl,?_⟩,hne⟩
  rcases hv with hn|⟨g,cap,cur,fz,rfl,hg,hgg,rest⟩
  · exact .inl hn
  · exact .inr ⟨g,cap,cur,fz,rfl,hg,same _ _ hgg,rest⟩
 exact h.elim (fun x=>.inl (key x)) (fun x=>.inr (key x))
theorem gY{T e:TypeId}{B b:Nat}{p:Value}{s t:Str}{w:World}(h:Lib.BuilderAtF T e B b (.pointer (some ⟨b,0,none⟩)) (Lib.byteCells s++Lib.strCells (bS t)) w):Lib.IsBuilderF T e B b (Lib.byteCells (s++t)) w:=by
 refine .inr ?_
 rw[Lib.byteCells_append,←gc]
 exact h
theorem oA {L:Nat}(h1:4096≤L)(h2:L≤1073741824)(hL:1048576<L){p:Pk}(hv:iG p=true){Q:bm}(hQ:Q .ret ⟨[(2,bk (gB p)),(3,eB (decide ((gB p).length≤40000)))],[]⟩) :
    AWP (SG L 63) (gK (gK (gK (Tryz.f16.body.getD Code.skip)))) Q ⟨[(1,ptr p.cells),(4,.c (.d (jM (gu p))))],[]⟩:=by
  intro Γ eq a w hR
  obtain⟨m,F,hR0⟩:=hR
  obtain⟨sg,w0,Fin,ok0,m0,good,fin⟩:=Γ
  obtain rfl:sg=SG L 63:=eq
  obtain⟨⟨l⟩,ds⟩:=a
  have hd:ds=[]:=hR0.defers
  subst hd
  have hlen:l.length=62+1:=hR0.size
  obtain⟨v0,l0,rfl,g0⟩:=av hlen
  obtain⟨v1,l1,rfl,g1⟩:=av g0
  obtain⟨v2,l2,rfl,g2⟩:=av g1
  obtain⟨v3,l3,rfl,g3⟩:=av g2
  obtain⟨v4,l4,rfl,g4⟩:=av g3
  obtain⟨v5,l5,rfl,g5⟩:=av g4
  obtain⟨v6,l6,rfl,g6⟩:=av g5
  obtain⟨v7,l7,rfl,g7⟩:=av g6
  obtain⟨v8,l8,rfl,g8⟩:=av g7
  obtain⟨v9,l9,rfl,g9⟩:=av g8
  obtain⟨v10,l10,rfl,g10⟩:=av g9
  obtain⟨v11,l11,rfl,g11⟩:=av g10
  obtain⟨v12,l12,rfl,g12⟩:=av g11
  obtain⟨v13,l13,rfl,g13⟩:=av g12
  obtain⟨v14,l14,rfl,g14⟩:=av g13
  obtain⟨v15,l15,rfl,g15⟩:=av g14
  obtain⟨v16,l16,rfl,g16⟩:=av g15
  obtain⟨v17,l17,rfl,g17⟩:=av g16
  obtain⟨v18,l18,rfl,g18⟩:=av g17
  obtain⟨v19,l19,rfl,g19⟩:=av g18
  obtain⟨v20,l20,rfl,g20⟩:=av g19
  obtain⟨v21,l21,rfl,g21⟩:=av g20
  obtain⟨v22,l22,rfl,g22⟩:=av g21
  obtain⟨v23,l23,rfl,g23⟩:=av g22
  obtain⟨v24,l24,rfl,g24⟩:=av g23
  obtain⟨v25,l25,rfl,g25⟩:=av g24
  obtain⟨v26,l26,rfl,g26⟩:=av g25
  obtain⟨v27,l27,rfl,g27⟩:=av g26
  obtain⟨v28,l28,rfl,g28⟩:=av g27
  obtain⟨v29,l29,rfl,g29⟩:=av g28
  obtain⟨v30,l30,rfl,g30⟩:=av g29
  obtain⟨v31,l31,rfl,g31⟩:=av g30
  obtain⟨v32,l32,rfl,g32⟩:=av g31
  obtain⟨v33,l33,rfl,g33⟩:=av g32
  obtain⟨v34,l34,rfl,g34⟩:=av g33
  obtain⟨v35,l35,rfl,g35⟩:=av g34
  obtain⟨v36,l36,rfl,g36⟩:=av g35
  obtain⟨v37,l37,rfl,g37⟩:=av g36
  obtain⟨v38,l38,rfl,g38⟩:=av g37
  obtain⟨v39,l39,rfl,g39⟩:=av g38
  obtain⟨v40,l40,rfl,g40⟩:=av g39
  obtain⟨v41,l41,rfl,g41⟩:=av g40
  obtain⟨v42,l42,rfl,g42⟩:=av g41
  obtain⟨v43,l43,rfl,g43⟩:=av g42
  obtain⟨v44,l44,rfl,g44⟩:=av g43
  obtain⟨v45,l45,rfl,g45⟩:=av g44
  obtain⟨v46,l46,rfl,g46⟩:=av g45
  obtain⟨v47,l47,rfl,g47⟩:=av g46
  obtain⟨v48,l48,rfl,g48⟩:=av g47
  obtain⟨v49,l49,rfl,g49⟩:=av g48
  obtain⟨v50,l50,rfl,g50⟩:=av g49
  obtain⟨v51,l51,rfl,g51⟩:=av g50
  obtain⟨v52,l52,rfl,g52⟩:=av g51
  obtain⟨v53,l53,rfl,g53⟩:=av g52
  obtain⟨v54,l54,rfl,g54⟩:=av g53
  obtain⟨v55,l55,rfl,g55⟩:=av g54
  obtain⟨v56,l56,rfl,g56⟩:=av g55
  obtain⟨v57,l57,rfl,g57⟩:=av g56
  obtain⟨v58,l58,rfl,g58⟩:=av g57
  obtain⟨v59,l59,rfl,g59⟩:=av g58
  obtain⟨v60,l60,rfl,g60⟩:=av g59
  obtain⟨v61,l61,rfl,g61⟩:=av g60
  obtain⟨v62,l62,rfl,g62⟩:=av g61
  obtain rfl:=List.length_eq_zero_iff.1 g62
  clear hlen g0 g1 g2 g3 g4 g5 g6 g7 g8 g9 g10 g11 g12 g13 g14 g15 g16 g17 g18 g19 g20 g21 g22 g23 g24 g25 g26 g27 g28 g29 g30 g31 g32 g33 g34 g35 g36 g37 g38 g39 g40 g41 g42 g43 g44 g45 g46 g47 g48 g49 g50 g51 g52 g53 g54 g55 g56 g57 g58 g59 g60 g61 g62
  have e1:RA L w _ m (ptr p.cells) v1:=hR0.env 1 _ Z
  have e4:RA L w _ m (.c (.d (jM (gu p)))) v4:=hR0.env 4 _ Z
  have hg:=hR0.good (F1:=F) fun b hb=>hb
  obtain⟨b1,o1,rfl,hb1,hr1⟩:=oz e1
  obtain⟨u5,hu5,hr5⟩:=hr1.get rfl (j:=5) (d:=fB p.pf) rfl
  obtain⟨bs5,cap5,rfl⟩:=ox hr5
  rw[cS]at hu5
  have htl:=kE hv
  have hbl:=kO hv
  obtain⟨hnm,han,hpf,hpr⟩:=rU.1 hv
  rcases gV e4 with⟨h,_⟩|⟨b,off,cap,rfl,hb,hcap,hc⟩
  · cases h
  have hnl:(mM p).length≤10:=bP (by omega)
  have htn:(gu p).length=p.pf.length+2:=by simp[gu]
  have hacc: ∀{i},i≤(gu p).length→(fV (gu p) (mM p) i).length≤3000000:=fun{i} hi=>by have:=ki (c:=mM p) htl hnl hi;omega
  show Code.wp Tryz.prog _ _ _ _
  dsimp only[gK,Tryz.f16,Option.getD]
  go_wp2_with fail
  go_loopw [33] (fun v wr=> ∃i:Nat,v= .int .i64 i∧i≤(gu p).length∧Lib.IsBuilderF 80 5 w.heap.size w.heap.size (Lib.byteCells (fV (gu p) (mM p) i)) wr∧Below w.heap.size w wr) (fun v _=>(gu p).length-qc v)
  case atStart=>exact⟨0,rfl,bZ _,Lib.IsBuilderF.of (Lib.fresh_isBuilder 80 5 w),(Below.refl _ w).alloc (cw _) _⟩
  case round=>
    obtain⟨i,rfl,hi,hB,hbw⟩:=hrel
    by_cases hlt:i<(gu p).length
    · obtain⟨hcell,_⟩:=hc i (gu p)[i] (by simp[hlt])
      have hcw:wr.cell? ⟨b,off+i,none⟩=some (.string (bS (gu p)[i])):=(Same.cell (show Same w wr b from hbw.block b hb)).trans hcell
      have hsl:=htl (gu p)[i] (List.getElem_mem hlt)
      have hpt:=gE hsl
      have hai:=hacc (i:=i) hi
      have hst: ∀c,fV (gu p) c (i+1)=fV (gu p) c i++d9 (gu p)[i]++(if i=1 then c else[]):=fun c=>by
        rw[fV,show(gu p).getD i []=(gu p)[i] by simp[List.getD_eq_getElem?_getD,hlt]]
      go_wp2_with fail
      refine(nP h1 h2 hL (hg.below hbw) hsl).mono fun e W1 ⟨he,q1⟩=>?_
      subst he
      have hB1:=dD hB q1
      have hw1:=hbw.trans (q1.mono hbw.size)
      go_wp2_with fail
      refine(Tryz.Builder_WriteString_f w.heap.size w.heap.size _ _ W1 hB1 (by rw[Lib.byteCells_length,be];omega) hw1.size).mono fun e W2 ⟨he,k2,q2⟩=>?_
      subst he
      have hw2:=hw1.trans q2
      have hB2:=gY (p:=.pointer none) k2
      by_cases hi1:i=1
      · subst hi1
        have hu:W2.cell? ⟨b1,o1+5,none⟩=some (Value.slice bs5 p.pf.length cap5):=(Same.cell (show Same w W2 b1 from hw2.block b1 hb1)).trans hu5
        go_wp2_with fail
        refine(mv h1 h2 (n:=p.pf.length) (hg.below hw2) (by omega)).mono fun e W3 ⟨he,q3⟩=>?_
        subst he
        have hB3:=dD hB2 q3
        have hw3:=hw2.trans (q3.mono hw2.size)
        go_wp2_with fail
        refine(kh h1 h2 (n:=p.pf.length) (hg.below hw3) (by omega)).mono fun e W4 ⟨he,q4⟩=>?_
        subst he
        have hB4:=dD hB3 q4
        have hw4:=hw3.trans (q4.mono hw3.size)
        have hnl2:(bO (2*p.pf.length)).length≤10:=hnl
        go_wp2_with fail
        refine(Tryz.Builder_WriteString_f w.heap.size w.heap.size _ _ W4 hB4 (by rw[Lib.byteCells_length,be,bn];omega) hw4.size).mono fun e W5 ⟨he,k5,q5⟩=>?_
        subst he
        go_wp2_with fail
        go_roundw
        case rel=>
          refine⟨1+1,by simp,by omega,?_,hw4.trans q5⟩
          rw[hst,if_pos trivial]
          exact gY (p:=.pointer none) k5
        case measure=>
          simp[qc]
          omega
      · have hi2: ¬(i:Int)=1:=by omega
        go_wp2_with fail
        go_roundw
        case rel=>
          refine⟨i+1,by simp,by omega,?_,hw2⟩
          rw[hst,if_neg hi1,List.append_nil]
          exact hB2
        case measure=>
          simp[qc]
          omega
    · obtain rfl:i=(gu p).length:=by omega
      rw[nT]at hB
      have hck:=kM (s:=fy p)
      have hml:=bP (m:=2*gM (fy p)) (by omega)
      go_wp2_with fail
      refine(Tryz.Builder_String_any_f w.heap.size w.heap.size (fy p) wr hB hbw.size).mono fun e W1 ⟨he,hB1,q1⟩=>?_
      subst he
      have hw1:=hbw.trans q1
      go_wp2_with fail
      refine(nQ h1 h2 (s:=fy p) (hg.below hw1) (by omega)).mono fun e W2 ⟨he,q2⟩=>?_
      subst he
      have hB2:=dD hB1 q2
      have hw2:=hw1.trans (q2.mono hw1.size)
      go_wp2_with fail
      refine(kh h1 h2 (n:=gM (fy p)) (hg.below hw2) (by omega)).mono fun e W3 ⟨he,q3⟩=>?_
      subst he
      have hB3:=dD hB2 q3
      have hw3:=hw2.trans (q3.mono hw2.size)
      go_wp2_with fail
      refine(Tryz.Builder_WriteString_f w.heap.size w.heap.size _ _ W3 hB3 (by rw[Lib.byteCells_length,be];omega) hw3.size).mono fun e W4 ⟨he,k4,q4⟩=>?_
      subst he
      have hw4:=hw3.trans q4
      have hB4:Lib.IsBuilderF 80 5 w.heap.size w.heap.size (Lib.byteCells (gB p)) W4:=gY (p:=.pointer none) k4
      go_wp2_with fail
      refine(Tryz.Builder_String_any_f w.heap.size w.heap.size (gB p) W4 hB4 hw4.size).mono fun e W5 ⟨he,hB5,q5⟩=>?_
      subst he
      have hw5:=hw4.trans q5
      go_wp2_with fail
      refine(Tryz.Builder_Len_f w.heap.size w.heap.size _ W5 hB5).mono fun e W6 ⟨he,hw⟩=>?_
      subst he
      subst hw
      rw[Lib.byteCells_length]
      have hal:(gB p).length≤1000000:=by unfold gB;rw[bn];omega
      go_wp2_with fail
      have hdec:decide (((gB p).length:Int)≤40000)=decide ((gB p).length≤40000):=decide_eq_decide.2 (by omega)
      rw[hdec]
      refine⟨⟨[(2,bk (gB p)),(3,eB (decide ((gB p).length≤40000)))],[]⟩,⟨fun _=>.nil,[],?_⟩,hQ⟩
      refine⟨.nil,List.nodup_nil,(fun b hb=>by cases hb),fun t v ht=>?_,rfl,rfl,⟨hw5.os.trans hR0.frame.os,hw5.tape.trans hR0.frame.tape,hw5.output.trans hR0.frame.output,Nat.le_trans hR0.frame.size hw5.size,fun b hb hn=>(hw5.block b (Nat.lt_of_lt_of_le hb hR0.frame.size)).trans (hR0.frame.block b hb hn)⟩,fun l _ h=>(by cases h),fun l b c z h=>(by cases h)⟩
      simp only[ap,aH]at ht
      split at ht
      · rename_i e
        subst e
        cases ht
        exact .c (.d (.str (by show(bS (gB p)).size≤L;rw[be];omega)))
      · split at ht
        · rename_i e
          subst e
          cases ht
          exact .c (.d .bool)
        · cases ht
def mI(p:Pk)(i:Nat):List Str:=p.nm::cx p.an::(p.pf.take i).map eQ
theorem oT{p:Pk}{i:Nat}(h:i<p.pf.length):mI p (i+1)=mI p i++[eQ (p.pf.getD i default)]:=by
 unfold mI
 rw[List.take_succ_eq_append_getElem h,List.map_append,au h];rfl
theorem oo{p:Pk}:mI p p.pf.length=gu p:=by unfold mI gu;rw[List.take_length]
theorem rA{p:Pk}(hv:iG p=true)(hL:1048576<L):MQ h1 h2 16 [aPk p] [] (Plain (.tup [bk (gB p),eB (decide ((gB p).length≤40000))])):=by
 refine jB 63 h1 h2 Tryz.func16 Z fun O hF=>?_
 obtain⟨hnm,han,hpf,hpr⟩:=rU.1 hv
 have hl:p.pf.length≤L:=by omega
 refine ab (jx Z (aW ?_))
 refine bf (Ent.freeze 1 (e':=[(1,_),(0,_)]) Z (.cons Z (.c (.box (cs:=p.cells) Z (bj Z))) (fe [0] Z)) (.skip .nil)) ?_
 refine aW ?_
 refine aa Z (jn (af (kA [_,_,_,_,_,_,_] [pn [] 0 1,pn [0] 0 1,bp,aT [2],pe [2,3] 0,pe (rg 0 5) 1,pn (rg 0 6) 2 2] [4,5] [_,_,_] (ai (kc Z (V Z)) (ai (kc Z (V Z)) (kc Z (kc Z (ai (aD O (B0:=17000) Z Z Z Z (ru (a:=p.an) h1 h2 han hL) (aj Z) Z Z Z Z Z) (ai (nX O Z Z Z Z Z Z Z Z Z Z Z Z Z) (kc Z trivial))))))) ?_)))
 refine jw [4,3,2,1,0] Z (nZ ?_)
 refine af (ab (aa Z ?_))
 first|refine bA Z ?_|refine js Z ?_|refine aQ Z Z ?_
 refine js Z (jn (ak (aq (X:=Nat) (fun i=>⟨[(1,ptr p.cells),(4,.c (.rs 900 0 (mI p i).length)),(19,iQ p.pf),(20,eI p.pf.length),(21,eI i)],[(900,.row false 1 ((mI p i).map (fun p=>[sD p])))]⟩) (fun i=>i≤p.pf.length) (fun i=>p.pf.length-i) 0 ((bv 17 900 Z Z).trans (Ent.to ⟨Z,Z,Z,Z,Z,ao⟩ Z)) ?_ (fun i hi=>?_))))
 exact bZ _
 refine ab (js Z (jn (af (al Z (fun z22=>?_) (fun z22=>?_)))))
 refine ae (af (ak (ab ?_)))
 have hi0:i<p.pf.length:=by have:=bK z22;omega
 have hpi:gA (p.pf.getD i default)=true:=by rw[au hi0];exact hpr _ (List.getElem_mem hi0)
 have htl:(mI p i).length=(p.pf.take i).length+2:=by unfold mI;simp
 rw[List.length_take]at htl
 refine ah (aF O Z Z Z Z Z Z Z Z (cQ hi0)) Z (aa Z (jf [6,22,1,4,19,20,21] Z (jn (ag (aa Z (jf [26,25,22,1,4,19,20,21] Z (aB Z (rt (p:=p.pf.getD i default) h1 h2 hpi hL) 28000 Z (jf [27,25,22,1,4,19,20,21] Z (bC (bt O Z Z Z Z Z Z Z Z Z Z Z) Z (aW ?_))))))))))
 refine jf [28,25,22,1,4,19,20,21] Z (bC (eT (own:=false) (xs:=(mI p i).map (fun p=>[sD p])) (ys:=[[sD (eQ (p.pf.getD i default))]]) (zs:=((mI p i)++[(eQ (p.pf.getD i default))]).map (fun p=>[sD p])) (n:=((mI p i)++[(eQ (p.pf.getD i default))]).length) O Z (.row Z (cS _).symm) (.whole Z Z (.inr ⟨Z,Z⟩)) (by simp) Z (by simp;omega) (by simp;omega) (by simp) (by simp)) Z (aW ?_))
 refine aW ?_
 refine js Z (jf [4,22,1,19,20,21] Z (jn (ag ?_)))
 first|refine ji Z ?_|refine aQ Z Z ?_
 refine js Z (jn ?_)
 refine⟨i+1,((aE [29] (e':=[(1,_),(4,_),(19,_),(20,_),(21,_)]) Z Z ⟨Z,Z,Z,Z,Z,ao⟩ Z).trans (bv 29 900 Z Z)).trans (Ent.to ⟨Z,by rw[oT hi0];rfl,Z,Z,Z,ao⟩ (by rw[oT hi0];rfl)),by omega,by omega⟩
 refine aL ?_
 obtain rfl:i=p.pf.length:=by have:=ce z22;omega
 rw[oo]
 refine lS ((aE [900] (e':=[(1,_),(4,_)]) Z Z ⟨Z,Z,ao⟩ Z).trans (Ent.freeze 900 (e':=[(1,_),(4,_)]) Z (.cons Z (.keep Z) (.cons Z (.c (.row Z (cS _).symm)) .nil)) (.skip .nil))) ?_
 refine oA h1 h2 hL hv ?_
 refine am Z ?_
 exact⟨Z,Z⟩
theorem rv{q:List Nd}:MQ h1 h2 38 [dI q] [] (Plain (eB (!lX q))):=by
 refine ac ?_ Z
 refine jB 6 h1 h2 Tryz.func38 Z fun O hF=>?_
 refine ab (js Z (aX (js Z (jf [3,2] Z (aB Z (s6 (p:=q) h1 h2) 5000 Z (aa Z (jf [2] Z (jr ?_))))))))
 refine am Z ?_
 rfl
variable{qs:List (List Nd)}
theorem rf:MQ h1 h2 79 [iQ qs,.c (.fn 38 [])] [] (Plain (eI (e7 (fun q:List Nd=>!lX q) qs))):=by
 refine ac ?_ Z
 refine jB 19 h1 h2 Tryz.func79 Z fun O hF=>?_
 have hl:qs.length≤L:=by simpa[As.fact,A.fact,M.fact,D.fact,Ds.fact]using hF.1.1
 refine ab (js Z (jn (af (ab (js Z ?_)))))
 first|refine bA Z ?_|refine js Z ?_|refine aQ Z Z ?_
 refine js Z (jn (ak (aq (X:=Nat) (fun i=>⟨[(0,iQ qs),(1,.c (.fn 38 [])),(7,eI qs.length),(8,eI i)],[]⟩) (fun i=>i≤qs.length∧∀j (h:j<qs.length),j<i→(fun q:List Nd=>!lX q) qs[j]=false) (fun i=>qs.length-i) 0 (Ent.env ⟨Z,Z,Z,Z,ao⟩) ?_ (fun i hi=>?_))))
 exact⟨bZ _,fun j h hj=>absurd hj (Nat.not_lt_zero j)⟩
 refine ab (js Z (jn (af (al Z (fun z9=>?_) (fun z9=>?_)))))
 refine ae (af (ak (ab ?_)))
 have hil:i<qs.length:=by have:=bK z9;omega
 refine aa Z (aX (bc Z ?_))
 first|refine n0 Z Z ?_|refine eZ Z Z ?_|refine aQ Z Z ?_
 refine js Z (aV [(15,_),(11,_),(5,_),(10,_),(9,_),(0,_),(1,_),(7,_),(8,_)] [] ⟨Z,Z,Z,Z,Z,Z,Z,Z,Z,ao⟩ Z (aB Z (rv (q:=qs.getD i default) h1 h2) 17000 Z (jf [16,5,10,9,0,1,7,8] Z (jn (al Z (fun z16=>?_) (fun z16=>?_))))))
 refine ab (aa Z (jr ?_))
 refine am Z ?_
 rw[au hil]at z16
 rw[fY hil hi.2 z16]
 refine ae (ag ?_)
 first|refine ji Z ?_|refine aQ Z Z ?_
 refine js Z (jn ?_)
 refine⟨i+1,Ent.env ⟨Z,Z,Z,Z,ao⟩,⟨by omega,fun j h hj=>?_⟩,by omega⟩
 by_cases e:j=i
 subst e;rw[au h]at z16;exact z16
 exact hi.2 j h (by omega)
 refine aL (ab (js Z (jr ?_)))
 refine am Z ?_
 have h9:=ce z9
 rw[fX (fun j hj=>hi.2 j hj (by omega))]
theorem rx:MQ h1 h2 37 [iQ qs,.c (.fn 38 [])] [] (Plain (eB (qs.any (fun q:List Nd=>!lX q)))):=by
 refine ac ?_ Z
 refine jB 9 h1 h2 Tryz.func37 Z fun O hF=>?_
 refine ab (js Z (aX (aa Z (br O Z Z Z Z (rf (qs:=qs) h1 h2) (.cons (.c .d) (.cons (.c (.fn .nil)) .nil)) Z Z Z Z Z (B0:=8000) Z (aa Z (jr ?_))))))
 refine am Z ?_
 exact congrArg eB kJ
theorem sK{p:Pk}:(bif (bif (bif i5 p.nm then cU p.an else false)then decide ((p.pf.length:Int)≤60)else false)then !(p.pf.any fun q=>!lX q)else false)=iG p:=by
 have e:(!(p.pf.any fun q=>!lX q))=p.pf.all gA:=by
  rw[List.all_eq_not_any_not]
  exact congrArg _ (List.any_congr Z fun q=>by rw[pS])
 have e2:decide ((p.pf.length:Int)≤60)=decide (p.pf.length≤60):=decide_eq_decide.2 (by omega)
 rw[e,e2]
 unfold iG
 cases i5 p.nm<;>cases cU p.an<;>cases decide (p.pf.length≤60)<;>rfl
theorem rB{p:Pk}(hlp:p.pf.length≤L):MQ h1 h2 15 [aPk p] [] (Plain (eB (iG p))):=by
 refine ac ?_ Z
 refine jB 23 h1 h2 Tryz.func15 Z fun O hF=>?_
 refine ab (jx Z (aW ?_))
 refine bf (Ent.freeze 1 (e':=[(1,_),(0,_)]) Z (.cons Z (.c (.box (cs:=p.cells) Z (bj Z))) (fe [0] Z)) (.skip .nil)) ?_
 refine aW ?_
 refine js Z (aX (aa Z (jf [4,2,1,0] Z (aB Z (ry (s:=p.nm) h1 h2) 6000 Z (js Z (jf [6,2,1,0] Z (aA 3 Z Z Z (fun hx=>ax hx Z (ax hx Z (bu O hx Z Z Z Z (c71 (a:=p.an) h1 h2) (aj Z) Z Z Z Z Z Z Z (B0:=10000) Z (AN.nil)))) Z Z ?_)))))))
 first|refine ah (ar O Z Z Z Z Z) Z ?_|refine ah (ay O Z Z Z Z Z) Z ?_|refine ah (Val.pickB O Z Z Z Z Z) Z ?_
 refine js Z (jf [11,2,1,0] Z (aA 4 Z Z Z (fun hx=>ax hx Z (ax hx Z (c5 hx (aU O Z Z Z Z Z Z Z Z) Z (ax hx Z (AN.nil))))) Z Z ?_))
 first|refine ah (ar O Z Z Z Z Z) Z ?_|refine ah (ay O Z Z Z Z Z) Z ?_|refine ah (Val.pickB O Z Z Z Z Z) Z ?_
 refine js Z (jf [17,2,1,0] Z (aA 4 Z Z Z (fun hx=>ax hx Z (ax hx Z (bu O hx Z Z Z Z (rx (qs:=p.pf) h1 h2) (.cons (.c .d) (.cons (.c (.fn .nil)) .nil)) Z Z Z Z Z Z Z (B0:=21000) Z (ax hx Z (AN.nil))))) Z Z ?_))
 first|refine ah (ar O Z Z Z Z Z) Z ?_|refine ah (ay O Z Z Z Z Z) Z ?_|refine ah (Val.pickB O Z Z Z Z Z) Z ?_
 refine js Z (jf [2,0] Z (jr ?_))
 refine am Z ?_
 exact congrArg eB sK
theorem qk{p:Pk}{b:Bool}(h:(bif (bif !i5 p.nm then true else !cU p.an)then true else decide ((60:Int)<(p.pf.length:Int)))=b):(b=true→iG p=false)∧(b=false→i5 p.nm=true∧cU p.an=true∧p.pf.length≤60):=by
 subst h
 unfold iG
 by_cases h3:p.pf.length≤60
 simp only[h3,decide_true,show¬(60:Int)<(p.pf.length:Int) by omega,decide_false]
 cases i5 p.nm<;>cases cU p.an<;>simp
 simp only[h3,decide_false,show(60:Int)<(p.pf.length:Int) by omega,decide_true]
 cases i5 p.nm<;>cases cU p.an<;>simp
theorem rD{p:Pk}(hlp:p.pf.length≤L):MQ h1 h2 11 [ptr p.cells] [] (Plain (eB (iG p))):=by
 refine ac ?_ Z
 refine jB 43 h1 h2 Tryz.func11 Z fun O hF=>?_
 refine ab (js Z (jn (af (ab (aJ Z (jf [7,2,0] Z (aB Z (rz (s:=p.nm) h1 h2) 9000 Z (aa Z (jf [10,2,0] Z (aA 5 Z Z Z (fun hx=>ax hx Z (ax hx Z (ax hx Z (bu O hx Z Z Z Z (c67 (a:=p.an) h1 h2) (.cons (.c (.sub Z)) .nil) Z Z Z Z Z Z Z (B0:=15000) Z (ax hx Z (AN.nil)))))) Z Z ?_))))))))))
 first|refine ah (ay O Z Z Z Z Z) Z ?_|refine ah (Val.pickB O Z Z Z Z Z) Z ?_|refine ah (ar O Z Z Z Z Z) Z ?_
 refine js Z (jf [17,2,0] Z (aA 6 Z Z Z (fun hx=>ax hx Z (ax hx Z (ax hx Z (ax hx Z (c5 hx (aU O Z Z Z Z Z Z Z Z) Z (ax hx Z (AN.nil))))))) Z Z ?_))
 first|refine ah (ay O Z Z Z Z Z) Z ?_|refine ah (Val.pickB O Z Z Z Z Z) Z ?_|refine ah (ar O Z Z Z Z Z) Z ?_
 refine jf [24,2,0] Z (jn (al Z (fun z24=>?_) (fun z24=>?_)))
 refine ab (js Z (jr ?_))
 refine am Z ?_
 rw[(qk Z).1 z24]
 refine ae (af (ab (js Z (jn (ak (aq (X:=Nat) (fun i=>⟨[(0,ptr p.cells),(3,eI i)],[]⟩) (fun i=>i≤p.pf.length∧∀j (h:j<p.pf.length),j<i→gA p.pf[j]=true) (fun i=>p.pf.length-i) 0 (Ent.to ⟨Z,Z,ao⟩ Z) ?_ (fun i hi=>?_)))))))
 exact⟨bZ _,fun j h hj=>absurd hj (Nat.not_lt_zero j)⟩
 refine af (ab (aJ Z (js Z ?_)))
 first|refine bA Z ?_|refine js Z ?_|refine aQ Z Z ?_
 refine js Z (jf [31,0,3] Z (jn (al Z (fun z31=>?_) (fun z31=>?_))))
 refine ae (af (ak (ab (aJ Z (js Z ?_)))))
 have hi0:i<p.pf.length:=by have:=bK z31;omega
 refine ah (aF O Z Z Z Z Z Z Z Z (cQ hi0)) Z (js Z (jf [40,31,0,3] Z (aB Z (c83 (p:=p.pf.getD i default) h1 h2) 42000 Z (js Z (jf [42,31,0,3] Z (jn (al Z (fun z42=>?_) (fun z42=>?_))))))))
 refine ab (js Z (jr ?_))
 refine am Z ?_
 have h9:gA (p.pf.getD i default)=false:=by simpa using z42
 rw [show iG p=false by
  cases hp:iG p with
  | false=>rfl
  | true=>have:=(rU.1 hp).2.2.2 (p.pf.getD i default) (by rw[au hi0];exact List.getElem_mem hi0);rw[h9]at this;cases this]
 refine ae (ag (js Z ?_))
 first|refine ji Z ?_|refine aQ Z Z ?_
 refine js Z (jf [3,42,31,0] Z (jn ?_))
 refine⟨i+1,Ent.to ⟨Z,Z,ao⟩ Z,⟨by omega,fun j h hj=>?_⟩,by omega⟩
 by_cases e:j=i
 subst e;have:=z42;rw[au h]at this;simpa using this
 exact hi.2 j h (by omega)
 refine aL (ab (js Z (jr ?_)))
 refine am Z ?_
 obtain⟨g1,g2,g3⟩:=(qk rfl).2 z24
 rw [rU.2 ⟨g1,g2,g3,fun q hq=>by
  obtain⟨j,hj,rfl⟩:=List.getElem_of_mem hq
  exact hi.2 j hj (by have:=ce z31;omega)⟩]
theorem j7{ps:List (List Nd)}{i:Nat}(h:i<ps.length):(((ps.take (i+1)).map fun q=>d9 (eQ q)).flatten)=(((ps.take i).map fun q=>d9 (eQ q)).flatten)++d9 (eQ (ps.getD i default)):=by
 rw[List.take_succ_eq_append_getElem h,List.map_append,List.flatten_append,au h]
 simp
theorem nj{ps:List (List Nd)}(h: ∀q∈ps,gA q=true){i:Nat}:(((ps.take i).map fun q=>d9 (eQ q)).flatten).length≤10270*ps.length:=by
 have h1:=ie (ps:=ps.take i) fun q hq=>h q (List.mem_of_mem_take hq)
 rw[List.length_take]at h1
 have:min i ps.length≤ps.length:=Nat.min_le_right _ _
 omega
theorem oZ{q:List Nd}(h:gA q=true): ∀x∈q,NdR x:=fun x hx=>(m4 ((kK h).2.2 x hx)).1
theorem pV{p:Pk}(hv:iG p=true)(hL:1048576<L)(hal:(gB p).length≤40000):MQ h1 h2 12 [ptr p.cells] [] (Plain (.tup [bk (gB p),eB true])):=by
 refine jB 99 h1 h2 Tryz.func12 Z fun O hF=>?_
 obtain⟨hnm,han,hpf,hpr⟩:=rU.1 hv
 have hlp:p.pf.length≤L:=by omega
 have hnl:p.nm.length≤40000:=kE hv _ (List.mem_cons_self ..)
 have hal2:=dA han
 have hhl:=kL hv
 have hbl:=kO hv
 have hck:=kM (s:=fy p)
 have hml:=bP (m:=2*gM (fy p)) (by omega)
 have hhl2:=hhl
 unfold mO at hhl2
 simp only[bn]at hhl2
 refine ab (aa Z (aX (aJ Z (jf [20,3,2,0] Z (aG O Z Z Z Z (iP (s:=p.nm) h1 h2 hnl hL) (aj Z) Z Z Z Z (B0:=22000) Z Z (aJ Z (js Z (jf [5,4,3,2,0] Z (aX (bc Z (jf [27,5,4,3,2,0] Z (br O Z Z Z Z (pj (a:=p.an) h1 h2 han hL) (.cons (.c (.sub Z)) .nil) Z Z Z Z Z (B0:=29000) Z (jf [28,5,4,3,2,0] Z (aG O Z Z Z Z (iP (s:=cx p.an) h1 h2 (by omega) hL) (aj Z) Z Z Z Z (B0:=30000) Z Z (aJ Z (js Z (jf [7,6,5,4,3,2,0] Z (aX (aJ Z ?_)))))))))))))))))))
 first|refine bA Z ?_|refine js Z ?_|refine aQ Z Z ?_
 refine jf [37,7,6,5,4,3,2,0] Z (aG O Z Z Z Z (ly (n:=p.pf.length) h1 h2 (by omega)) (aj Z) Z Z Z Z (B0:=39000) Z Z (aJ Z (js Z (jf [9,8,7,6,5,4,3,2,0] Z (jn (af (ab (bc Z (jf [43,9,8,7,6,4,3,2,0] Z (jL Z (js Z (jf [44,43,9,8,6,4,3,2,0] Z (jL Z (js Z (ah (aS O Z Z Z Z Z) Z (js Z (jf [47,9,8,6,4,3,2,0] Z (jL Z (js Z (jf [48,47,8,6,4,3,2,0] Z (jL Z (js Z (ah (aS O Z Z Z Z Z) Z (jf [50,8,6,4,3,2,0] Z (jn (al Z (fun z50=>?_) (fun z50=>?_)))))))))))))))))))))))))))
 exact absurd z50 (by simp)
 refine ae (ab (aa Z (ah (aw (p:=(d9 p.nm)) (q:=(d9 (cx p.an))) O Z Z Z Z Z Z (by show _≤L;omega) (by show L≤_;omega)) Z (js Z (ah (aw (p:=(d9 p.nm++d9 (cx p.an))) (q:=(mM p)) O Z Z Z Z Z Z (by rw[bn];show _≤L;omega) (by show L≤_;omega)) Z (js Z (jf [10,3,2,0] Z (jn (af (ab (js Z (jn (ak (aq (X:=Nat) (fun i=>⟨[(0,ptr p.cells),(10,bk (mO p++((p.pf.take i).map fun q=>d9 (eQ q)).flatten)),(11,eI i)],[]⟩) (fun i=>i≤p.pf.length) (fun i=>p.pf.length-i) 0 (Ent.to ⟨Z,congrArg (fun s=>some (bk s)) (by unfold mO mM;simp),Z,ao⟩ Z) ?_ (fun i hi=>?_)))))))))))))))
 exact bZ _
 refine af (ab (aJ Z (js Z ?_)))
 first|refine bA Z ?_|refine js Z ?_|refine aQ Z Z ?_
 refine js Z (jf [62,0,10,11] Z (jn (al Z (fun z62=>?_) (fun z62=>?_))))
 refine ae (af (ak (ab (aJ Z (js Z ?_)))))
 have hi0:i<p.pf.length:=by have:=bK z62;omega
 have hqi:gA (p.pf.getD i default)=true:=by rw[au hi0];exact hpr _ (List.getElem_mem hi0)
 have hql:=fE hqi
 have hfl:=nj (i:=i) hpr
 have hqp:=gE (t:=eQ (p.pf.getD i default)) (by omega)
 refine ah (aF O Z Z Z Z Z Z Z Z (cQ hi0)) Z (js Z (jf [72,62,0,10,11] Z (aB Z (pp (p:=(p.pf.getD i default)) h1 h2 (oZ hqi) (by show(eQ (p.pf.getD i default)).length≤L;omega)) 74000 Z (jf [73,62,0,10,11] Z (aG O Z Z Z Z (iP (s:=eQ (p.pf.getD i default)) h1 h2 (by omega) hL) (aj Z) Z Z Z Z (B0:=75000) Z Z (aJ Z (js Z (jf [13,12,62,0,10,11] Z (jn (af (ab (aa Z (jf [78,12,62,0,10,11] Z (jn (al Z (fun z78=>?_) (fun z78=>?_))))))))))))))))
 exact absurd z78 (by simp)
 refine ae (ag (aa Z (ah (aw (p:=(mO p++((p.pf.take i).map fun q=>d9 (eQ q)).flatten)) (q:=(d9 (eQ (p.pf.getD i default)))) O Z Z Z Z Z Z (by rw[bn];show _≤L;omega) (by show L≤_;omega)) Z (js Z (jf [10,78,62,0,11] Z (jn (ag (js Z ?_))))))))
 first|refine ji Z ?_|refine aQ Z Z ?_
 refine js Z (jf [11,10,78,62,0] Z (jn ?_))
 refine⟨i+1,Ent.to ⟨Z,?_,Z,ao⟩ Z,by omega,by omega⟩
 exact congrArg (fun s=>some (bk s)) (by rw[j7 hi0,←dd])
 refine aL (ab ?_)
 obtain rfl:i=p.pf.length:=by have:=ce z62;omega
 rw[List.take_length]
 refine js Z (aB Z (pi (s:=fy p) h1 h2 (by omega)) 85000 Z (jf [84,62,0,10,11] Z (aG O Z Z Z Z (ly (n:=gM (fy p)) h1 h2 (by omega)) (aj Z) Z Z Z Z (B0:=86000) Z Z (aJ Z (js Z (jf [15,14,62,0,10,11] Z (aX (aa Z (ah (aw (p:=(fy p)) (q:=(bO (2*gM (fy p)))) O Z Z Z Z Z Z (by show _≤L;omega) (by show L≤_;omega)) Z (js Z (jf [10,15,62,0,11] Z (jn (af (ab (bc Z (jf [93,10,62,0,11] Z (jL Z (js Z (jL Z ?_)))))))))))))))))))
 first|refine bA Z ?_|refine js Z ?_|refine aQ Z Z ?_
 refine jf [95,93,10,62,0,11] Z (jL Z (js Z (ah (aS O Z Z Z Z Z) Z (jf [97,10,62,0,11] Z (jn (al Z (fun z97=>?_) (fun z97=>?_)))))))
 exact absurd (bK z97) (by have e9:=be (fy p++bO (2*gM (fy p)));have e8:(gB p).length=(fy p++bO (2*gM (fy p))).length:=rfl;omega)
 refine ae (ab (bc Z (jr ?_)))
 refine⟨.inl Z,_,(aE [] (e':=[(2,_),(3,_)]) Z Z ⟨Z,Z,ao⟩ Z),_,Z,?_⟩
 exact⟨Z,Z⟩
theorem pW{p:Pk}(hv:iG p=true)(hL:1048576<L)(hal: ¬(gB p).length≤40000):MQ h1 h2 12 [ptr p.cells] [] (Plain (.tup [bk [],eB false])):=by
 refine jB 99 h1 h2 Tryz.func12 Z fun O hF=>?_
 obtain⟨hnm,han,hpf,hpr⟩:=rU.1 hv
 have hlp:p.pf.length≤L:=by omega
 have hnl:p.nm.length≤40000:=kE hv _ (List.mem_cons_self ..)
 have hal2:=dA han
 have hhl:=kL hv
 have hbl:=kO hv
 have hck:=kM (s:=fy p)
 have hml:=bP (m:=2*gM (fy p)) (by omega)
 have hhl2:=hhl
 unfold mO at hhl2
 simp only[bn]at hhl2
 refine ab (aa Z (aX (aJ Z (jf [20,3,2,0] Z (aG O Z Z Z Z (iP (s:=p.nm) h1 h2 hnl hL) (aj Z) Z Z Z Z (B0:=22000) Z Z (aJ Z (js Z (jf [5,4,3,2,0] Z (aX (bc Z (jf [27,5,4,3,2,0] Z (br O Z Z Z Z (pj (a:=p.an) h1 h2 han hL) (.cons (.c (.sub Z)) .nil) Z Z Z Z Z (B0:=29000) Z (jf [28,5,4,3,2,0] Z (aG O Z Z Z Z (iP (s:=cx p.an) h1 h2 (by omega) hL) (aj Z) Z Z Z Z (B0:=30000) Z Z (aJ Z (js Z (jf [7,6,5,4,3,2,0] Z (aX (aJ Z ?_)))))))))))))))))))
 first|refine bA Z ?_|refine js Z ?_|refine aQ Z Z ?_
 refine jf [37,7,6,5,4,3,2,0] Z (aG O Z Z Z Z (ly (n:=p.pf.length) h1 h2 (by omega)) (aj Z) Z Z Z Z (B0:=39000) Z Z (aJ Z (js Z (jf [9,8,7,6,5,4,3,2,0] Z (jn (af (ab (bc Z (jf [43,9,8,7,6,4,3,2,0] Z (jL Z (js Z (jf [44,43,9,8,6,4,3,2,0] Z (jL Z (js Z (ah (aS O Z Z Z Z Z) Z (js Z (jf [47,9,8,6,4,3,2,0] Z (jL Z (js Z (jf [48,47,8,6,4,3,2,0] Z (jL Z (js Z (ah (aS O Z Z Z Z Z) Z (jf [50,8,6,4,3,2,0] Z (jn (al Z (fun z50=>?_) (fun z50=>?_)))))))))))))))))))))))))))
 exact absurd z50 (by simp)
 refine ae (ab (aa Z (ah (aw (p:=(d9 p.nm)) (q:=(d9 (cx p.an))) O Z Z Z Z Z Z (by show _≤L;omega) (by show L≤_;omega)) Z (js Z (ah (aw (p:=(d9 p.nm++d9 (cx p.an))) (q:=(mM p)) O Z Z Z Z Z Z (by rw[bn];show _≤L;omega) (by show L≤_;omega)) Z (js Z (jf [10,3,2,0] Z (jn (af (ab (js Z (jn (ak (aq (X:=Nat) (fun i=>⟨[(0,ptr p.cells),(10,bk (mO p++((p.pf.take i).map fun q=>d9 (eQ q)).flatten)),(11,eI i)],[]⟩) (fun i=>i≤p.pf.length) (fun i=>p.pf.length-i) 0 (Ent.to ⟨Z,congrArg (fun s=>some (bk s)) (by unfold mO mM;simp),Z,ao⟩ Z) ?_ (fun i hi=>?_)))))))))))))))
 exact bZ _
 refine af (ab (aJ Z (js Z ?_)))
 first|refine bA Z ?_|refine js Z ?_|refine aQ Z Z ?_
 refine js Z (jf [62,0,10,11] Z (jn (al Z (fun z62=>?_) (fun z62=>?_))))
 refine ae (af (ak (ab (aJ Z (js Z ?_)))))
 have hi0:i<p.pf.length:=by have:=bK z62;omega
 have hqi:gA (p.pf.getD i default)=true:=by rw[au hi0];exact hpr _ (List.getElem_mem hi0)
 have hql:=fE hqi
 have hfl:=nj (i:=i) hpr
 have hqp:=gE (t:=eQ (p.pf.getD i default)) (by omega)
 refine ah (aF O Z Z Z Z Z Z Z Z (cQ hi0)) Z (js Z (jf [72,62,0,10,11] Z (aB Z (pp (p:=(p.pf.getD i default)) h1 h2 (oZ hqi) (by show(eQ (p.pf.getD i default)).length≤L;omega)) 74000 Z (jf [73,62,0,10,11] Z (aG O Z Z Z Z (iP (s:=eQ (p.pf.getD i default)) h1 h2 (by omega) hL) (aj Z) Z Z Z Z (B0:=75000) Z Z (aJ Z (js Z (jf [13,12,62,0,10,11] Z (jn (af (ab (aa Z (jf [78,12,62,0,10,11] Z (jn (al Z (fun z78=>?_) (fun z78=>?_))))))))))))))))
 exact absurd z78 (by simp)
 refine ae (ag (aa Z (ah (aw (p:=(mO p++((p.pf.take i).map fun q=>d9 (eQ q)).flatten)) (q:=(d9 (eQ (p.pf.getD i default)))) O Z Z Z Z Z Z (by rw[bn];show _≤L;omega) (by show L≤_;omega)) Z (js Z (jf [10,78,62,0,11] Z (jn (ag (js Z ?_))))))))
 first|refine ji Z ?_|refine aQ Z Z ?_
 refine js Z (jf [11,10,78,62,0] Z (jn ?_))
 refine⟨i+1,Ent.to ⟨Z,?_,Z,ao⟩ Z,by omega,by omega⟩
 exact congrArg (fun s=>some (bk s)) (by rw[j7 hi0,←dd])
 refine aL (ab ?_)
 obtain rfl:i=p.pf.length:=by have:=ce z62;omega
 rw[List.take_length]
 refine js Z (aB Z (pi (s:=fy p) h1 h2 (by omega)) 85000 Z (jf [84,62,0,10,11] Z (aG O Z Z Z Z (ly (n:=gM (fy p)) h1 h2 (by omega)) (aj Z) Z Z Z Z (B0:=86000) Z Z (aJ Z (js Z (jf [15,14,62,0,10,11] Z (aX (aa Z (ah (aw (p:=(fy p)) (q:=(bO (2*gM (fy p)))) O Z Z Z Z Z Z (by show _≤L;omega) (by show L≤_;omega)) Z (js Z (jf [10,15,62,0,11] Z (jn (af (ab (bc Z (jf [93,10,62,0,11] Z (jL Z (js Z (jL Z ?_)))))))))))))))))))
 first|refine bA Z ?_|refine js Z ?_|refine aQ Z Z ?_
 refine jf [95,93,10,62,0,11] Z (jL Z (js Z (ah (aS O Z Z Z Z Z) Z (jf [97,10,62,0,11] Z (jn (al Z (fun z97=>?_) (fun z97=>?_)))))))
 refine ab (aa Z (jr ?_))
 refine⟨.inl Z,_,(aE [] (e':=[(2,_),(3,_)]) Z Z ⟨Z,Z,ao⟩ Z),_,Z,?_⟩
 exact⟨Z,Z⟩
 exact absurd (ce z97) (by have e9:=be (fy p++bO (2*gM (fy p)));have e8:(gB p).length=(fy p++bO (2*gM (fy p))).length:=rfl;omega)
theorem pr{p:Pk}(h:iG p=true)(h2:(gB p).length≤40000):jQ p=(gB p,true):=by unfold jQ;rw[if_pos h,if_pos h2]
theorem pu{p:Pk}(h:iG p=true)(h2: ¬(gB p).length≤40000):jQ p=([],false):=by unfold jQ;rw[if_pos h,if_neg h2]
theorem pw{p:Pk}(h:iG p=false):jQ p=([],false):=by unfold jQ;rw[if_neg (by simp[h])]
abbrev n9(p:Pk):A:=.tup [bk (jQ p).1,eB (jQ p).2]
theorem rC{L:Nat}(h1:4096≤L)(h2:L≤1073741824){p:Pk}(hv:iG p=true)(hL:1048576<L):MC Tryz.prog L 12 [ptr p.cells] [] (Plain (n9 p)):=by
 by_cases h:(gB p).length≤40000
 unfold n9;rw[pr hv h];exact pV h1 h2 hv hL h
 unfold n9;rw[pu hv h];exact pW h1 h2 hv hL h
theorem rG{p:Pk}(hlp:p.pf.length≤L)(hL:1048576<L):MQ h1 h2 5 [aPk p] [] (Plain (n9 p)):=by
 refine jB 9 h1 h2 Tryz.func5 Z fun O hF=>?_
 refine ab (jx Z (aW ?_))
 refine bf (Ent.freeze 1 (e':=[(1,_),(0,_)]) Z (.cons Z (.c (.box (cs:=p.cells) Z (bj Z))) (fe [0] Z)) (.skip .nil)) ?_
 refine aW ?_
 refine aa Z (jn (af (ab (aB Z (rD (p:=p) h1 h2 hlp) 5000 Z (js Z (jn (al Z (fun z5=>?_) (fun z5=>?_))))))))
 refine ab (aa Z (jr ?_))
 refine⟨.inl Z,_,(aE [] (e':=[(2,_),(3,_)]) Z Z ⟨Z,Z,ao⟩ Z),_,Z,?_⟩
 exact⟨by unfold n9;rw[pw (by simpa using z5)];rfl,Z⟩
 refine ae (ab (aG O Z Z Z Z (rC (p:=p) h1 h2 (by simpa using z5) hL) (aj Z) Z Z Z Z (B0:=7000) Z Z (aJ Z (jf [3,2,4,1,0] Z (jr ?_)))))
 refine⟨.inl Z,_,(aE [] (e':=[(2,_),(3,_)]) Z Z ⟨Z,Z,ao⟩ Z),_,Z,?_⟩
 exact⟨Z,Z⟩
theorem rF{p:Pk}(hlp:p.pf.length≤L)(hL:1048576<L):MQ h1 h2 7 [aPk p] [] (Plain (n9 p)):=by
 refine jB 17 h1 h2 Tryz.func7 Z fun O hF=>?_
 refine ab (jx Z (aW ?_))
 refine bf (Ent.freeze 1 (e':=[(1,_),(0,_)]) Z (.cons Z (.c (.box (cs:=p.cells) Z (bj Z))) (fe [0] Z)) (.skip .nil)) ?_
 refine aW ?_
 refine aa Z (jn (af (ab (js Z (aB Z (rB (p:=p) h1 h2 hlp) 8000 Z (js Z (jf [8,3,2,1,0] Z (jn (al Z (fun z8=>?_) (fun z8=>?_))))))))))
 refine ab (aa Z (jr ?_))
 refine⟨.inl Z,_,(aE [] (e':=[(2,_),(3,_)]) Z Z ⟨Z,Z,ao⟩ Z),_,Z,?_⟩
 exact⟨by unfold n9;rw[pw (by simpa using z8)];rfl,Z⟩
 refine ae (ab (js Z (jf [10,3,2,1,0] Z (aG O Z Z Z Z (rA (p:=p) h1 h2 (by simpa using z8) hL) (aj Z) Z Z Z Z (B0:=12000) Z Z (aJ Z (js Z (jf [5,4,3,2,1,0] Z (jn (af (ab (aa Z (jf [15,4,3,2,1,0] Z (jn (al Z (fun z15=>?_) (fun z15=>?_)))))))))))))))
 refine ab (aa Z (jr ?_))
 refine⟨.inl Z,_,(aE [] (e':=[(2,_),(3,_)]) Z Z ⟨Z,Z,ao⟩ Z),_,Z,?_⟩
 exact⟨by unfold n9;rw[pu (by simpa using z8) (by simpa using z15)];rfl,Z⟩
 refine ae (ab (bc Z (jf [3,2,1,0] Z (jr ?_))))
 refine⟨.inl Z,_,(aE [] (e':=[(2,_),(3,_)]) Z Z ⟨Z,Z,ao⟩ Z),_,Z,?_⟩
 exact⟨by unfold n9;rw[pr (by simpa using z8) (by simpa using z15)],Z⟩
def Pk.size(p:Pk):Nat:=p.nm.length+p.an.size+szs (szs Nd.size) p.pf
theorem pk{L:Nat}(h1:4096≤L)(h2:L≤9223372036854775807){p:Pk}{left:Int}(hl0:0≤left)(hl1:left≤1048576):MC Tryz.prog L 4 [aPk p,eI left] [] (Plain (eI (bH left p.size))):=by
 refine ac ?_ Z
 have O:=fC (nt:=25) h1 h2
 refine MC.body O Tryz.func4 (by kernel_rfl) Z Z (Nat.le_of_ble_eq_true Z) (fun hF=>?_)
 have hsl:p.nm.length≤L:=by have h:=hF;simp only[As.fact,A.fact,M.fact,Ms.fact,D.fact,Ds.fact,be,List.map_cons,List.cons_append]at h;exact h.1.1
 refine ab (jx Z (aW ?_))
 refine js Z (aX (bc Z (ah (bG (p:=p.nm) O Z Z Z Z Z Z Z Z Z) Z (ah (aP O Z Z (by omega) (by omega)) Z (js Z (jf [1,4,2,0] Z (jn (af (ab (aa Z (jn (al Z (fun z11=>?_) (fun z11=>?_)))))))))))))
 refine ab (js Z (jr ?_))
 refine am Z ?_
 have h9:=bK z11
 rw[show bH left p.size= -1 from if_pos (by unfold Pk.size;omega)]
 refine ae (ab (bc Z (jf [14,13,10,1,4,2,0] Z ?_)))
 have ha0: ¬(left-(p.nm.length:Int))<0:=ce z11
 refine aB Z (c22 (a:=p.an) (left:=(left-(p.nm.length:Int))) h1 h2 (by omega) (by omega)) 16000 Z (js Z (jf [1,10,4,2,0] Z (jn (af (ab (aa Z (jn (al Z (fun z17=>?_) (fun z17=>?_)))))))))
 refine ab (js Z (jr ?_))
 refine am Z ?_
 have h9:=bK z17
 rw[show bH left p.size= -1 from if_pos (by unfold bH at h9;unfold Pk.size;split at h9<;>omega)]
 refine ae (ab (bc Z (jf [20,19,16,1,10,4,2,0] Z ?_)))
 have hb0: ¬(bH (left-(p.nm.length:Int)) p.an.size)<0:=ce z17
 have le2:=gP (left:=(left-(p.nm.length:Int))) (by omega) p.an.size
 refine aB Z (c43 (ts:=p.pf) (left:=(bH (left-(p.nm.length:Int)) p.an.size)) h1 h2 (by omega) (by omega)) 22000 Z (js Z (jf [1,16,10,4,2,0] Z (jn (af (ab (aa Z (jn (al Z (fun z23=>?_) (fun z23=>?_)))))))))
 refine ab (js Z (jr ?_))
 refine am Z ?_
 have h9:=bK z23
 rw[show bH left p.size= -1 from if_pos (by unfold bH at h9 hb0;unfold Pk.size;split at hb0<;>split at h9<;>omega)]
 refine ae (ab (aa Z (jf [4,22,1,16,10,2,0] Z (jr ?_))))
 refine am Z ?_
 have h9:=ce z23
 rw [show bH left p.size=bH (bH (left-(p.nm.length:Int)) p.an.size) (szs (szs Nd.size) p.pf) by
  unfold bH at h9 hb0 ⊢;unfold Pk.size
  split at hb0<;>split at h9<;>(repeat' split)<;>omega]
theorem m7{p:Pk}:MQ h1 h2 6 [aPk p] [] (Plain (aPk p)):=by
 refine MC.data (jB 16 h1 h2 Tryz.func6 Z fun O hF=>?_)
 refine ab (jx Z (aW ?_))
 refine jf [1] Z (jl Z (aW ?_))
 refine aX (jl Z (aW ?_))
 refine aX (bc Z (jf [6,5,3,2,1] Z (jo Z (aW ?_))))
 refine jf [3,2,1] Z (aX (aa Z (jf [8,3,2,1] Z (aG O Z Z Z Z (sO (a:=p.an) h1 h2) (aj Z) Z Z Z Z (B0:=10000) Z Z (js Z (jf [10,9,3,2,1] Z (jo Z (aW ?_))))))))
 refine jf [3,2,1] Z (aX (aa Z (jf [12,3,2,1] Z (aG O Z Z Z Z (sN (ps:=p.pf) h1 h2) (aj Z) Z Z Z Z (B0:=14000) Z Z (js Z (jf [14,13,3,2,1] Z (jo Z (aW ?_))))))))
 refine jf [3,2,1] Z (aX (js Z (jo Z (aW ?_))))
 refine jr ?_
 refine am Z ?_
 exact .v (.agg (.cons .d (.cons .d (.cons .d (.cons .d (.cons .d (.cons .d .nil)))))))
theorem rE{p:Pk}:MQ h1 h2 8 [aPk p,aPk p] [] (Plain (eB true)):=by
 refine ac ?_ Z
 refine jB 22 h1 h2 Tryz.func8 Z fun O hF=>?_
 refine ab (jx Z (aW ?_))
 refine jf [2,1] Z (jx Z (aW ?_))
 refine js Z (jn (af (ab (aJ Z (ah ((gJ (p:=p.nm) (q:=p.nm) O Z Z Z Z Z Z).cast (v':=eB false) (congrArg eB (by simp))) Z (jf [9,4,3,2,1] Z (jn (al Z (fun z9=>?_) (fun z9=>?_)))))))))
 exact absurd z9 (by decide)
 refine ae (af (ab (aJ Z (jf [13,11,4,3,2,1] Z (aB Z ((c26 (s:=p.an) (t:=p.an) h1 h2).plain (u:=eB true) (by simp)) 15000 Z (js Z (jf [15,4,3,2,1] Z (jn (al Z (fun z15=>?_) (fun z15=>?_))))))))))
 exact absurd z15 (by decide)
 refine ae (af (ab (aJ Z (jf [19,17,4,3,2,1] Z (aB Z ((c49 (xs:=p.pf) (ys:=p.pf) h1 h2).plain (u:=eB true) (by simp)) 21000 Z (js Z (jf [21,4,3,2,1] Z (jn (al Z (fun z21=>?_) (fun z21=>?_))))))))))
 exact absurd z21 (by decide)
 refine ae (ab (js Z (jr ?_)))
 refine am Z ?_
 rfl
theorem pX{L:Nat}(h1:4096≤L)(h2:L≤9223372036854775807){p:Pk}(hz:bH 1048576 p.size<0):MC Tryz.prog L 3 [aPk p] [] (Plain (eB true)):=by
 refine ac ?_ Z
 have O:=fC (nt:=40) h1 h2
 refine MC.body O Tryz.func3 (by kernel_rfl) Z Z (Nat.le_of_ble_eq_true Z) (fun hF=>?_)
 refine ab (jx Z (aW ?_))
 refine js Z (aX (js Z (aX (aa Z (aB Z (pk (p:=p) (left:=1048576) h1 h2 (by decide) (by decide)) 12000 Z (js Z (jf [3,2,1,0] Z (jn (af (ab (aa Z (jn (al Z (fun z13=>?_) (fun z13=>?_))))))))))))))
 refine ab (js Z (jr ?_))
 refine am Z ?_
 rfl
 exact absurd (ce z13) (fun h=>h hz)
theorem rH{p:Pk}{x:Str}{b:Bool}(hz:0≤bH 1048576 p.size)(cs:MQ h1 h2 5 [aPk p] [] (Plain (.tup [bk x,eB b])))(ci:MQ h1 h2 7 [aPk p] [] (Plain (.tup [bk x,eB b]))):MQ h1 h2 3 [aPk p] [] (Plain (eB true)):=by
 refine ac ?_ Z
 refine jB 40 h1 h2 Tryz.func3 Z fun O hF=>?_
 have hbig:L≤9223372036854775807:=Nat.le_trans h2 (by decide)
 refine ab (jx Z (aW ?_))
 refine js Z (aX (js Z (aX (aa Z (aB Z (pk (p:=p) (left:=1048576) h1 hbig (by decide) (by decide)) 12000 Z (js Z (jf [3,2,1,0] Z (jn (af (ab (aa Z (jn (al Z (fun z13=>?_) (fun z13=>?_))))))))))))))
 exact absurd (bK z13) (by omega)
 refine ae (ab (js Z (jf [15,12,3,2,1,0] Z (aG O Z Z Z Z (m7 (p:=p) h1 h2) (aj Z) Z Z Z Z (B0:=17000) Z Z (jf [16,12,3,2,1,0] Z (aG O Z Z Z Z (cs) (aj Z) Z Z Z Z (B0:=18000) Z Z (aJ Z (js Z (jf [5,4,12,3,2,1,0] Z (aX (js Z (aG O Z Z Z Z (m7 (p:=p) h1 h2) (aj Z) Z Z Z Z (B0:=22000) Z Z (jf [21,5,4,12,3,2,1,0] Z (jl Z (aW ?_)))))))))))))))
 refine jo Z (aW ?_)
 refine aX (js Z (aG O Z Z Z Z (ci) (aj Z) Z Z Z Z (B0:=25000) Z Z (aJ Z (js Z (jf [8,7,6,21,5,4,12,3,2,1,0] Z (jn (af (ab (aa Z (ah ((gJ (p:=x) (q:=x) O Z Z Z Z Z Z).cast (v':=eB false) (congrArg eB (by simp))) Z (js Z (jf [30,8,6,21,5,12,3,2,1,0] Z (jL Z (js Z (jf [31,30,6,21,5,12,3,2,1,0] Z (jL Z (js Z (jf [32,31,30,6,21,12,3,2,1,0] Z (jL Z (cj ((V Z).cast (v':=eB false) (by cases b<;>rfl)) rfl rfl rfl (ah (aS O Z Z Z Z Z) Z (jf [34,6,21,12,3,2,1,0] Z (jn (al Z (fun z34=>?_) (fun z34=>?_)))))))))))))))))))))))))
 exact absurd z34 (by decide)
 refine ae (af (af (jw [6,21,12,3,2,1,0] Z (kA [_,_,_,_,_] [pn [] 0 1,bp,pe [1] 0,pe [0,1,2] 1,pn (rg 0 4) 2 2] [2,3] [_,_,_] (ai (kc Z (V Z)) (kc Z (ai (fv O (B0:=38000) Z Z Z Z (m7 (p:=p) h1 h2) (aj Z) Z Z Z Z Z) (ai (aD O (B0:=39000) Z Z Z Z (rE (p:=p) h1 h2) (aj Z) Z Z Z Z Z) (kc Z trivial))))) ?_))))
 refine jw [39,6,21,12,3,2,1,0] Z (nZ ?_)
 refine al Z (fun z39=>?_) (fun z39=>?_)
 exact absurd z39 (by decide)
 refine ae (ab (js Z (jr ?_)))
 refine am Z ?_
 rfl
end Go.Al
/- The law of PackageBytes holds for all arguments. -/
namespace Go.Al
variable{L:Nat}(h1:4096≤L)(h2:L≤1073741824)
theorem nJ{L S:Nat}{c:List In}(h:D.fact L (iI c))(hl:c.length≤S):D.fact S (iI c):=by
 simp only[D.fact,cS,bB]at h ⊢
 refine⟨hl,fun x hx=>?_⟩
 have:=h.2 x hx
 exact⟨this.1,this.2.1,ao⟩
theorem nH{L S:Nat}{ps:List Pt}(h:D.fact L (gx ps))(hl:szs Pt.size ps≤S):D.fact S (gx ps):=by
 unfold szs at hl
 simp only[D.fact,cS,bB]at h ⊢
 refine⟨by omega,fun p hp=>?_⟩
 have h1:=h.2 p hp
 have h2:=fD Pt.size hp
 exact⟨h1.1,ig h1.2.1 (by show p.size≤S;omega),ao⟩
theorem oJ{L S:Nat}{p:Pk}(h:A.fact L (aPk p))(hl:p.size≤S):A.fact S (aPk p):=by
 unfold Pk.size An.size at hl
 obtain⟨q0,q1,q2,q3,q4,q5,_⟩:=h
 refine⟨?_,ig q1 (by omega),ig q2 (by omega),nJ q3 (by omega),nH q4 (by omega),mr q5 (by omega),ao⟩
 simp only[M.fact,D.fact,be]at q0 ⊢
 omega
theorem oB{p:Pk}:p.pf.length≤p.size:=by
 unfold Pk.size szs
 omega
theorem law1411{L:Nat}(h1:4096≤L)(h2:L≤9223372036854775807){p:Pk}:MC Tryz.prog L 3 [aPk p] [] (Plain (eB true)):=by
 by_cases hz1:bH 1048576 p.size<0
 exact pX h1 h2 hz1
 have hz:0≤bH 1048576 p.size:=by omega
 have g1:=kV hz (by decide)
 have g2:=oB (p:=p)
 refine MC.facts ⟨_,_,Tryz.func3,by kernel_rfl,Z⟩ fun hF=>?_
 refine oP (L0:=1073741824) Z ?_ ?_
 exact⟨oJ hF.1 (by omega),ao⟩
 exact rH (by decide) (cw _) hz (rG (by decide) (cw _) (by omega) (by decide)) (rF (by decide) (cw _) (by omega) (by decide))
end Go.Al
/- What the rows of the texts share: what the package-level variables hold in every world that a row ranges over. -/
namespace Go.Proofs.YtokffjlobnhglaaGreatDoor
open Go.ChangeShapes Go.WideShapes Go.ChangeAt Go.RowKit Go.Al
theorem wrapLaid{H:Type}{enc:TypeId×Value→H}{a:Assume}{C:Checked}{os:Os}{f:FuncId}{fn:Func}{s:ChangeSpec}{conds:List PathCond}{apart fresh handsOn again:Bool}{X:World→Array Value→Prop}
    (hX: ∀(w w':World) (args:Array Value),w.heap=w'.heap→X w args→X w' args)
    (own:ownKnob C.prog.godebug=none) (started:os.Started) (noInit:C.prog.inits.idxOf? f=none) (hfn:C.prog.funcs[f]? = some fn)
    (witness: ∃(w:World) (tape:Tape) (i:Input),w.os=os∧(w.forCall tape i).Shaped C.prog∧i.vars=[]∧Input.okWide C.prog (w.forCall tape i) .any w.heap.size f i∧
      ((s.pre enc C.prog fn conds apart (w.forCall tape i).memory i.args∧X (w.forCall tape i).memory i.args)∧sizedMet enc C.prog fn (OpenSpec.ofChange s) apart (w.forCall tape i).memory i.args)∧a.holds C.prog (lone (Frame.enter C.prog f i.args .normal) [] (w.forCall tape i)))
    (contract: ∀(W:World) (base:Nat) (args:Array Value) (ds gs:List (DataW H)) (before:List MemPlace),
      (∀(j:Nat) t v,fn.params[j]? = some t→args[j]? = some v→Value.okWide C.prog W .any base t v)→
      DataW.Whole enc C.prog fn.params.toList s.vars apart W args.toList ds gs before→X W args→W.ShapedOpen C.prog→
      Calls C.prog f args W fun e W'=> ∃v,e= .returned v∧s.post enc C.prog fn apart fresh handsOn again W args v W') :
    ReturnsInHanded a C os f .any (fun w args=>(s.pre enc C.prog fn conds apart w args∧X w args)∧sizedMet enc C.prog fn (OpenSpec.ofChange s) apart w args) (s.post enc C.prog fn apart fresh handsOn again):=by
 refine returnsInHanded_of_calls own started noInit witness ?_
 intro w tape i _ hsh _ hok hpre hholds
 obtain⟨_,_,_,fn',hfn',_,_,_,_,hval⟩:=hok
 have e:fn'=fn:=Option.some.inj (hfn'.symm.trans hfn)
 subst e
 obtain⟨⟨⟨ds,gs,before,hw,hc⟩,hx⟩,hz⟩:=hpre
 have hw':=DataW.Whole.of_heap (w':=w.forCall tape i) (by rfl) hw
 refine(contract (w.forCall tape i) w.heap.size i.args ds gs before hval hw' (hX _ _ _ (by rfl) hx) hsh).mono fun e W' ⟨v,he,hp⟩=>?_
 subst he
 exact ChangeSpec.post_blind hp
theorem gk{P:Program}{w:World}: ∀{l:List (String×DataW Unit)} {ps:List MemPlace},DataW.LaidVars P w l ps→∀{x:String×DataW Unit},x∈l→
    ∃g t cs fuel p,P.globalNamed x.1=some g∧(P.globals[g]?).map (·.type)=some t∧w.var? P x.1=some cs∧DataW.trod (fun _=>()) P w 0 (fun _=>true) false fuel t cs.toList=some (x.2,p)
 | [],_,_,_,h=>by cases h
 | (n,d)::l,_,h,x,hx=>by
  obtain⟨g,t,cs,fuel,p,q,hg,ht,hv,hd,hr,_⟩:=h
  rcases List.mem_cons.1 hx with rfl|hx
  exact⟨g,t,cs,fuel,p,hg,ht,hv,hd⟩
  exact gk hr hx
theorem ou{P:Program}{w:World}{n:Nat}{t e:TypeId}{fuel:Nat}{cs:Array Value}{zs:List Int}{p:List MemPlace}(ht:P.underlying t=some (.array n e))(he:P.underlying e=some (.int .u64))(hc:P.cellsOf t=n)(hce:P.cellsOf e=1)(hn:zs.length=n)
    (hd:DataW.trod (fun _:TypeId×Value=>()) P w 0 (fun _=>true) false fuel t cs.toList=some (.agg (zs.map fun z=>.lit (.int .u64 z)),p)):cs=(zs.map fun z=>Value.int .u64 z).toArray:=by
 obtain⟨xs,m,_,ex,hl,hxs,hel⟩:=DataW.trod_array ht hd
 have e3:(xs.map (·.1))=zs.map fun z=>.lit (.int .u64 z):=(DataW.agg.inj (Prod.mk.inj ex).1).symm
 have key:cs.toList=zs.map fun z=>Value.int .u64 z:=by
  refine List.ext_getElem (by simp[hl,hc,hn]) fun i h1 h2=>?_
  have hi:i<n:=by simpa[hn]using h2
  have hE:=hel i hi
  rw[hce,Nat.mul_one,List.getElem?_eq_getElem (by omega)]at hE
  obtain⟨z,e1,e2,_⟩:=DataW.trod_int he hE
  have e4:(xs.map (·.1))[i]? = (zs.map fun z=>(DataW.lit (.int .u64 z):DataW Unit))[i]? := by rw[e3]
  rw[List.getElem?_map,List.getElem?_map,List.getElem?_eq_getElem (by omega:i<xs.length),List.getElem?_eq_getElem (by omega:i<zs.length),e2]at e4
  simp only[Option.map_some,de,DataW.lit.injEq,Lit.int.injEq,true_and]at e4
  have h0:((cs.toList.drop i).take 1)[0]? = some (.int .u64 z):=by rw[e1];rfl
  have h3:cs.toList[i]? = some (.int .u64 z):=by simpa using h0
  rw[List.getElem?_eq_getElem h1]at h3
  rw[Option.some.inj h3,e4,List.getElem_map]
 rw[←key]
theorem mi:(Rows.laid_internal_strconv_uint64pow10:DataW Unit)= .agg (Lib.pow10Tab.map fun z=>.lit (.int .u64 z)):=by kernel_rfl
end Go.Proofs.YtokffjlobnhglaaGreatDoor
/- The package-level variables of the rows that list two of them (tpl2n). -/
namespace Go.Proofs.YtokffjlobnhglaaGreatDoor
open Go.ChangeShapes Go.WideShapes Go.ChangeAt Go.RowKit Go.Al
theorem gok{W:World}{laid:List (String×DataW Unit)}(hl:laidMet Tryz.prog laid W)(hm:("internal/strconv.uint64pow10",Rows.laid_internal_strconv_uint64pow10)∈laid)(hs:W.ShapedOpen Tryz.prog):GOk Tryz.prog W okAll:=by
 intro n g hn hg
 refine⟨trivial,?_⟩
 simp only[GN,List.mem_cons,List.mem_nil_iff,or_false]at hn
 rcases hn with rfl|rfl
 obtain⟨ps,hv,_,_⟩:=hl
 obtain⟨g',t,cs,fuel,p,hg',ht,hv,hd⟩:=gk hv (x:=("internal/strconv.uint64pow10",Rows.laid_internal_strconv_uint64pow10)) hm
 obtain rfl:=Option.some.inj ((show Tryz.prog.globalNamed "internal/strconv.uint64pow10" = some 0 by kernel_rfl).symm.trans hg')
 obtain rfl:=Option.some.inj ((show(Tryz.prog.globals[0]?).map (·.type)=some 179 by kernel_rfl).symm.trans ht)
 refine⟨cs,hv,fun _=>?_,fun h=>absurd h (by simp)⟩
 refine ou (n:=20) (e:=171) Tryz.underlying179 Tryz.underlying171 (by kernel_rfl) (by kernel_rfl) Lib.pow10Tab_length (p:=p) (fuel:=fuel) (P:=Tryz.prog) (w:=W) ?_
 rw[←mi]
 exact hd
 obtain rfl:=Option.some.inj ((show Tryz.prog.globalNamed "internal/bytealg.MaxLen" = some 1 by kernel_rfl).symm.trans hg)
 obtain⟨m,hm⟩:=cell_of_shapedOpen_int (k:=.i64) (g:=1) (t:=3) (zero:= #[.int .i64 0]) hs (bK (by kernel_rfl)) (by kernel_rfl) rfl (by kernel_rfl) (by kernel_rfl) Tryz.underlying3
 have hm':=hm
 unfold World.cell? at hm'
 unfold World.var?
 rw[hg,Option.bind_some]
 cases hb:W.heap[1]? with
 | none=>simp[hb]at hm'
 | some o=>
  cases o with
  | cells cs c d=>exact⟨cs,Z,fun h=>absurd h (by simp),fun _=>⟨m,by simpa[hb]using hm'⟩⟩
  | _=>simp[hb]at hm'
end Go.Proofs.YtokffjlobnhglaaGreatDoor
