/- The law, walked; what the package-level variables hold. -/
import Derived.Test.YtkendpichnklaaaGreatDoorM
import Derived.Test.YtkendpichnklaaaGreatDoorD
import Derived.Test.YtkendpichnklaaaGreatDoorE
import Derived.Test.YtkendpichnklaaaGreatDoorTie
import Derived.Test.YtkendpichnklaaaGreatDoorCards
import Derived.ProofKit
import Derived.OpenShut
import Derived.LaidMore
import Derived.LaidLaws
import Derived.Lay
import Derived.SevenTiedAt
import Derived.Shelf.Vars
import Derived.Stop.Joined
set_option linter.unusedVariables false
set_option linter.unusedSimpArgs false
set_option maxRecDepth 10000
set_option maxHeartbeats 4000000
open Go.Proofs
namespace Go.Al
variable{L:Nat}(h1:4096≤L)(h2:L≤1073741824)
theorem uV{a:An}{r:An}(hcc:1+bv nT r.pre+bv nT r.post+bv fg r.code+bv nP r.pts≤(1073741824:Int))(cs:MQ h1 h2 5 [aAn a] [] (Plain (.tup [aAn r,eB true])))(ci:MQ h1 h2 7 [aAn a] [] (Rows (.tup [.agg [.rs 0 0 r.pre.length,.rs 1 0 r.post.length,.rs 2 0 r.code.length,.rs 3 0 r.pts.length],eB true]) [bA r.pre,bA r.post,cQ r.code,cK r.pts]))(hz1:0≤eL 1048576 a.size)(hcp:1+bv nT a.pre+bv nT a.post+bv fg a.code+bv nP a.pts≤(1073741824:Int)):MQ h1 h2 3 [aAn a] [] (Plain (eB true)):=by
 refine av ?_ Z
 refine jB 96 h1 h2 Tryz.func3 Z fun O hF=>?_
 have hbig:L≤9223372036854775807:=Nat.le_trans h2 (by decide)
 refine af (jx Z (aA ?_))
 refine js Z (bm (js Z (bm (ag Z (ba Z (xr (a:=a) (left:=1048576) h1 hbig (by decide) (by decide)) 17000 Z (js Z (jf [3,2,1,0] Z (jn (aa (af (ag Z (jn (ao Z (fun z18=>?_) (fun z18=>?_))))))))))))))
 exact absurd (bZ z18) (by omega)
 refine ac (af (js Z (jf [20,17,3,2,1,0] Z (cj O Z Z Z Z (p0 (a:=a) h1 h2) (ae Z) Z Z Z Z (B0:=22000) Z Z (jf [21,17,3,2,1,0] Z (cj O Z Z Z Z (cs) (ae Z) Z Z Z Z (B0:=23000) Z Z (bb Z (jf [24,23,17,3,2,1,0] Z (jl Z (aA ?_))))))))))
 refine jo Z (aA ?_)
 refine js Z (jf [5,4,17,3,2,1,0] Z (bm (js Z (aC O (B0:=27000) Z Z Z Z (xq (a:=a) h1 h2) (ae Z) Z Z Z Z Z Z (aA ?_)))))
 refine jf [26,5,4,17,3,2,1,0] Z (jl Z (aA ?_))
 refine jo Z (aA ?_)
 refine bm (js Z (aC O (B0:=30000) Z Z Z Z (ci) (.cons (.agg (.cons (.whole Z (aQ _).symm) (.cons (.whole Z (aQ _).symm) (.cons (.whole Z (aQ _).symm) (.cons (.whole Z (aQ _).symm) .nil))))) .nil) Z Z Z Z Z Z (aA ?_)))
 refine bb Z (jf [31,30,6,26,5,4,17,3,2,1,0] Z (jl Z (aA ?_)))
 refine jo Z (aA ?_)
 refine js Z (jf [8,7,6,26,5,4,17,3,2,1,0] Z (jn (aa (af (ag Z (aP O Z Z Z Z ((tY (s:=r) (t:=r) h1 h2).plain (u:=eB true) (by simp)) (.cons (.agg (.cons (.whole Z (aQ _).symm) (.cons (.whole Z (aQ _).symm) (.cons (.whole Z (aQ _).symm) (.cons (.whole Z (aQ _).symm) .nil))))) (.cons (.agg (aV Z)) .nil)) Z Z Z Z Z (B0:=35000) Z (ag Z (jf [36,8,7,6,26,5,4,17,3,2,1,0] Z (bh Z (js Z (bh Z (js Z (bh Z (js Z (ak (ap O Z Z Z Z Z) Z (jf [40,8,7,6,26,5,4,17,3,2,1,0] Z (jn (ao Z (fun z40=>?_) (fun z40=>?_)))))))))))))))))))
 exact lW z40
 refine ac (aa (aa (jw [8,7,6,26,5,4,17,3,2,1,0] Z (gK [_,_,_,_,_] [pn [] 0 1,aN,pe [1] 0,pe [0,1,2] 1,pn (rg 0 4) 2 2] [2,3] [_,_,_] (ai (kc Z (V Z)) (kc Z (ai (fX O (B0:=44000) Z Z Z Z (p0 (a:=a) h1 h2) (ae Z) Z Z Z Z Z) (ai (aG O (B0:=45000) Z Z Z Z ((tY (s:=a) (t:=a) h1 h2).plain (u:=eB true) (by simp)) (.cons (.agg (.cons (.whole Z (aQ _).symm) (.cons (.whole Z (aQ _).symm) (.cons (.whole Z (aQ _).symm) (.cons (.whole Z (aQ _).symm) .nil))))) (.cons (.agg (aV Z)) .nil)) Z Z Z Z Z) (kc Z trivial))))) ?_))))
 refine jw [45,8,7,6,26,5,4,17,3,2,1,0] Z (ld ?_)
 refine ao Z (fun z45=>?_) (fun z45=>?_)
 exact lW z45
 refine ac (af (js Z (bm (ag Z (jf [47,46,9,8,7,6,26,5,4,17,3,2,1,0] Z (bH O [27000,27001,27002,27003] (bin:=[bA a.pre,bA a.post,cQ a.code,cK a.pts]) Z Z Z Z (xp (a:=a) (k:=1) h1 h2 (by decide) (by omega)) Z Z Z Z Z Z (B0:=49000) Z Z (aA ?_)))))))
 refine js Z (jf [9,8,7,6,26,5,4,17,3,2,1,0] Z (jn (aa (af (ag Z ?_)))))
 rw[decide_eq_false (show¬(1+bv nT a.pre+bv nT a.post+bv fg a.code+bv nP a.pts:Int)<0 by omega)]
 refine js Z (jf [51,9,8,7,6,26,5,4,17,3,2,1,0] Z (bh Z (js Z (bh Z (js Z (bh Z (aP O Z Z Z Z ((tY (s:=r) (t:=r) h1 h2).plain (u:=eB true) (by simp)) (.cons (.agg (.cons (.whole Z (aQ _).symm) (.cons (.whole Z (aQ _).symm) (.cons (.whole Z (aQ _).symm) (.cons (.whole Z (aQ _).symm) .nil))))) (.cons (.agg (aV Z)) .nil)) Z Z Z Z Z (B0:=55000) Z (jf [54,51,9,8,7,6,26,5,4,17,3,2,1,0] Z (bh Z (js Z (ak (ap O Z Z Z Z Z) Z (js Z (jf [57,9,8,7,6,26,5,4,17,3,2,1,0] Z (bh Z (js Z (bh Z (js Z (bh Z (js Z (ak (ap O Z Z Z Z Z) Z (jf [61,9,8,7,6,26,5,4,17,3,2,1,0] Z (jn (ao Z (fun z61=>?_) (fun z61=>?_))))))))))))))))))))))))
 exact lW z61
 refine ac (af (js Z (bm (ag Z (jf [63,62,10,9,8,7,6,26,5,4,17,3,2,1,0] Z (bH O [30000,30001,30002,30003] (bin:=[bA r.pre,bA r.post,cQ r.code,cK r.pts]) Z Z Z Z (xp (a:=r) (k:=1) h1 h2 (by decide) (by omega)) Z Z Z Z Z Z (B0:=65000) Z Z (aA ?_)))))))
 refine js Z (jf [10,9,8,7,6,26,5,4,17,3,2,1,0] Z (bm (js Z (bm (ag Z (aP O Z Z Z Z (xb (a:=r) (k:=1) h1 h2 (by decide) (by omega)) (.cons (.agg (.cons (.whole Z ((aQ _).trans aT).symm) (.cons (.whole Z ((aQ _).trans aT).symm) (.cons (.whole Z ((aQ _).trans aT).symm) (.cons (.whole Z ((aQ _).trans aT).symm) .nil))))) (.cons (.c .d) .nil)) Z Z Z Z Z (B0:=68000) Z (js Z (jf [11,10,9,8,7,6,26,5,4,17,3,2,1,0] Z (jn (aa (af (ag Z (jn (ao Z (fun z69=>?_) (fun z69=>?_)))))))))))))))
 exact absurd (bZ z69) (by omega)
 refine ac (aa (af (bb Z (jf [72,68,11,10,9,8,7,6,26,5,4,17,3,2,1,0] Z (jn (ao Z (fun z72=>?_) (fun z72=>?_)))))))
 exact absurd z72 (by simp)
 refine ac (af (js Z (jf [74,68,11,10,9,8,7,6,26,5,4,17,3,2,1,0] Z (cj O Z Z Z Z (p0 (a:=a) h1 h2) (ae Z) Z Z Z Z (B0:=76000) Z Z (jf [75,68,11,10,9,8,7,6,26,5,4,17,3,2,1,0] Z (aC O (B0:=77000) Z Z Z Z (ci) (ae Z) Z Z Z Z Z Z (aA ?_)))))))
 refine bb Z (jf [78,77,68,11,10,9,8,7,6,26,5,4,17,3,2,1,0] Z (jl Z (aA ?_)))
 refine jo Z (aA ?_)
 refine js Z (jf [13,12,68,11,10,9,8,7,6,26,5,4,17,3,2,1,0] Z (jn (aa (af (ag Z (aP O Z Z Z Z ((tY (s:=r) (t:=r) h1 h2).plain (u:=eB true) (by simp)) (.cons (.agg (.cons (.whole Z (aQ _).symm) (.cons (.whole Z (aQ _).symm) (.cons (.whole Z (aQ _).symm) (.cons (.whole Z (aQ _).symm) .nil))))) (.cons (.agg (aV Z)) .nil)) Z Z Z Z Z (B0:=82000) Z (ag Z (jf [83,13,12,68,11,10,9,8,7,6,26,5,4,17,3,2,1,0] Z (bh Z (js Z (jf [84,83,12,68,11,10,9,8,7,6,26,5,4,17,3,2,1,0] Z (bh Z (js Z (bh Z (js Z (ak (ap O Z Z Z Z Z) Z (jf [87,12,68,11,10,9,8,7,6,26,5,4,17,3,2,1,0] Z (jn (ao Z (fun z87=>?_) (fun z87=>?_))))))))))))))))))))
 exact lW z87
 refine ac (af (js Z (bm (ag Z (jf [89,88,11,12,68,10,9,8,7,6,26,5,4,17,3,2,1,0] Z (aP O Z Z Z Z (xb (a:=r) (k:=1) h1 h2 (by decide) (by omega)) (.cons (.agg (.cons (.whole Z ((aQ _).trans aT).symm) (.cons (.whole Z ((aQ _).trans aT).symm) (.cons (.whole Z ((aQ _).trans aT).symm) (.cons (.whole Z ((aQ _).trans aT).symm) .nil))))) (.cons (.c .d) .nil)) Z Z Z Z Z (B0:=91000) Z (js Z (jf [11,12,68,10,9,8,7,6,26,5,4,17,3,2,1,0] Z (jn (aa (af (ag Z (jn (ao Z (fun z92=>?_) (fun z92=>?_)))))))))))))))
 exact absurd (bZ z92) (by omega)
 refine ac (aa (af (bb Z (jf [95,91,11,12,68,10,9,8,7,6,26,5,4,17,3,2,1,0] Z (jn (ao Z (fun z95=>?_) (fun z95=>?_)))))))
 exact absurd z95 (by simp)
 refine ac (af (js Z (jr ?_)))
 refine aD Z ?_
 rfl
theorem uW{a:An}(cs:MQ h1 h2 5 [aAn a] [] (Plain (.tup [aAn (⟨[],[],[],[]⟩:An),eB false])))(ci:MQ h1 h2 7 [aAn a] [] (Rows (.tup [.agg [.d .nils,.d .nils,.d .nils,.d .nils],eB false]) []))(hz1:0≤eL 1048576 a.size)(hcp:1+bv nT a.pre+bv nT a.post+bv fg a.code+bv nP a.pts≤(1073741824:Int)):MQ h1 h2 3 [aAn a] [] (Plain (eB true)):=by
 refine av ?_ Z
 refine jB 96 h1 h2 Tryz.func3 Z fun O hF=>?_
 have hbig:L≤9223372036854775807:=Nat.le_trans h2 (by decide)
 refine af (jx Z (aA ?_))
 refine js Z (bm (js Z (bm (ag Z (ba Z (xr (a:=a) (left:=1048576) h1 hbig (by decide) (by decide)) 17000 Z (js Z (jf [3,2,1,0] Z (jn (aa (af (ag Z (jn (ao Z (fun z18=>?_) (fun z18=>?_))))))))))))))
 exact absurd (bZ z18) (by omega)
 refine ac (af (js Z (jf [20,17,3,2,1,0] Z (cj O Z Z Z Z (p0 (a:=a) h1 h2) (ae Z) Z Z Z Z (B0:=22000) Z Z (jf [21,17,3,2,1,0] Z (cj O Z Z Z Z (cs) (ae Z) Z Z Z Z (B0:=23000) Z Z (bb Z (jf [24,23,17,3,2,1,0] Z (jl Z (aA ?_))))))))))
 refine jo Z (aA ?_)
 refine js Z (jf [5,4,17,3,2,1,0] Z (bm (js Z (aC O (B0:=27000) Z Z Z Z (xq (a:=a) h1 h2) (ae Z) Z Z Z Z Z Z (aA ?_)))))
 refine jf [26,5,4,17,3,2,1,0] Z (jl Z (aA ?_))
 refine jo Z (aA ?_)
 refine bm (js Z (aC O (B0:=30000) Z Z Z Z (ci) (.cons (.agg (.cons (.whole Z (aQ _).symm) (.cons (.whole Z (aQ _).symm) (.cons (.whole Z (aQ _).symm) (.cons (.whole Z (aQ _).symm) .nil))))) .nil) Z Z Z Z Z Z (aA ?_)))
 refine bb Z (jf [31,30,6,26,5,4,17,3,2,1,0] Z (jl Z (aA ?_)))
 refine jo Z (aA ?_)
 refine js Z (jf [8,7,6,26,5,4,17,3,2,1,0] Z (jn (aa (af (ag Z (aP O Z Z Z Z ((tY (s:=(⟨[],[],[],[]⟩:An)) (t:=(⟨[],[],[],[]⟩:An)) h1 h2).plain (u:=eB true) (by simp)) (.cons (.agg (.cons .nils (.cons .nils (.cons .nils (.cons .nils .nil))))) (.cons (.agg (aV Z)) .nil)) Z Z Z Z Z (B0:=35000) Z (ag Z (jf [36,8,7,6,26,5,4,17,3,2,1,0] Z (bh Z (js Z (bh Z (js Z (bh Z (js Z (ak (ap O Z Z Z Z Z) Z (jf [40,8,7,6,26,5,4,17,3,2,1,0] Z (jn (ao Z (fun z40=>?_) (fun z40=>?_)))))))))))))))))))
 exact lW z40
 refine ac (aa (aa (jw [8,7,6,26,5,4,17,3,2,1,0] Z (gK [_,_,_,_,_] [pn [] 0 1,aN,pe [1] 0,pe [0,1,2] 1,pn (rg 0 4) 2 2] [2,3] [_,_,_] (ai (kc Z (V Z)) (kc Z (ai (fX O (B0:=44000) Z Z Z Z (p0 (a:=a) h1 h2) (ae Z) Z Z Z Z Z) (ai (aG O (B0:=45000) Z Z Z Z ((tY (s:=a) (t:=a) h1 h2).plain (u:=eB true) (by simp)) (.cons (.agg (.cons (.whole Z (aQ _).symm) (.cons (.whole Z (aQ _).symm) (.cons (.whole Z (aQ _).symm) (.cons (.whole Z (aQ _).symm) .nil))))) (.cons (.agg (aV Z)) .nil)) Z Z Z Z Z) (kc Z trivial))))) ?_))))
 refine jw [45,8,7,6,26,5,4,17,3,2,1,0] Z (ld ?_)
 refine ao Z (fun z45=>?_) (fun z45=>?_)
 exact lW z45
 refine ac (af (js Z (bm (ag Z (jf [47,46,9,8,7,6,26,5,4,17,3,2,1,0] Z (bH O [27000,27001,27002,27003] (bin:=[bA a.pre,bA a.post,cQ a.code,cK a.pts]) Z Z Z Z (xp (a:=a) (k:=1) h1 h2 (by decide) (by omega)) Z Z Z Z Z Z (B0:=49000) Z Z (aA ?_)))))))
 refine js Z (jf [9,8,7,6,26,5,4,17,3,2,1,0] Z (jn (aa (af (ag Z ?_)))))
 rw[decide_eq_false (show¬(1+bv nT a.pre+bv nT a.post+bv fg a.code+bv nP a.pts:Int)<0 by omega)]
 refine js Z (jf [51,9,8,7,6,26,5,4,17,3,2,1,0] Z (bh Z (js Z (bh Z (js Z (bh Z (aP O Z Z Z Z ((tY (s:=(⟨[],[],[],[]⟩:An)) (t:=(⟨[],[],[],[]⟩:An)) h1 h2).plain (u:=eB true) (by simp)) (.cons (.agg (.cons .nils (.cons .nils (.cons .nils (.cons .nils .nil))))) (.cons (.agg (aV Z)) .nil)) Z Z Z Z Z (B0:=55000) Z (jf [54,51,9,8,7,6,26,5,4,17,3,2,1,0] Z (bh Z (js Z (ak (ap O Z Z Z Z Z) Z (js Z (jf [57,9,8,7,6,26,5,4,17,3,2,1,0] Z (bh Z (js Z (bh Z (js Z (bh Z (js Z (ak (ap O Z Z Z Z Z) Z (jf [61,9,8,7,6,26,5,4,17,3,2,1,0] Z (jn (ao Z (fun z61=>?_) (fun z61=>?_))))))))))))))))))))))))
 exact lW z61
 refine ac (af (js Z (bm (ag Z (jf [63,62,10,9,8,7,6,26,5,4,17,3,2,1,0] Z (aP O Z Z Z Z (xX (k:=1) h1 h2) (.cons (.agg (.cons .nils (.cons .nils (.cons .nils (.cons .nils .nil))))) (.cons (.c .d) .nil)) Z Z Z Z Z (B0:=65000) Z (js Z (jf [10,9,8,7,6,26,5,4,17,3,2,1,0] Z (bm (js Z (bm (ag Z (aP O Z Z Z Z ((xb (a:=(⟨[],[],[],[]⟩:An)) (k:=1) h1 h2 (by decide) (by decide)).plain (u:=eI 1) Z) (.cons (.agg (.cons .nils (.cons .nils (.cons .nils (.cons .nils .nil))))) (.cons (.c .d) .nil)) Z Z Z Z Z (B0:=68000) Z (js Z (jf [11,10,9,8,7,6,26,5,4,17,3,2,1,0] Z (jn (aa (af (ag Z (jn (ao Z (fun z69=>?_) (fun z69=>?_))))))))))))))))))))))
 exact absurd (bZ z69) (by decide)
 refine ac (aa (af (bb Z (jf [72,68,11,10,9,8,7,6,26,5,4,17,3,2,1,0] Z (jn (ao Z (fun z72=>?_) (fun z72=>?_)))))))
 exact absurd z72 (by simp)
 refine ac (af (js Z (jf [74,68,11,10,9,8,7,6,26,5,4,17,3,2,1,0] Z (cj O Z Z Z Z (p0 (a:=a) h1 h2) (ae Z) Z Z Z Z (B0:=76000) Z Z (jf [75,68,11,10,9,8,7,6,26,5,4,17,3,2,1,0] Z (aC O (B0:=77000) Z Z Z Z (ci) (ae Z) Z Z Z Z Z Z (aA ?_)))))))
 refine bb Z (jf [78,77,68,11,10,9,8,7,6,26,5,4,17,3,2,1,0] Z (jl Z (aA ?_)))
 refine jo Z (aA ?_)
 refine js Z (jf [13,12,68,11,10,9,8,7,6,26,5,4,17,3,2,1,0] Z (jn (aa (af (ag Z (aP O Z Z Z Z ((tY (s:=(⟨[],[],[],[]⟩:An)) (t:=(⟨[],[],[],[]⟩:An)) h1 h2).plain (u:=eB true) (by simp)) (.cons (.agg (.cons .nils (.cons .nils (.cons .nils (.cons .nils .nil))))) (.cons (.agg (aV Z)) .nil)) Z Z Z Z Z (B0:=82000) Z (ag Z (jf [83,13,12,68,11,10,9,8,7,6,26,5,4,17,3,2,1,0] Z (bh Z (js Z (jf [84,83,12,68,11,10,9,8,7,6,26,5,4,17,3,2,1,0] Z (bh Z (js Z (bh Z (js Z (ak (ap O Z Z Z Z Z) Z (jf [87,12,68,11,10,9,8,7,6,26,5,4,17,3,2,1,0] Z (jn (ao Z (fun z87=>?_) (fun z87=>?_))))))))))))))))))))
 exact lW z87
 refine ac (af (js Z (bm (ag Z (jf [89,88,11,12,68,10,9,8,7,6,26,5,4,17,3,2,1,0] Z (aP O Z Z Z Z ((xb (a:=(⟨[],[],[],[]⟩:An)) (k:=1) h1 h2 (by decide) (by decide)).plain (u:=eI 1) Z) (.cons (.agg (.cons .nils (.cons .nils (.cons .nils (.cons .nils .nil))))) (.cons (.c .d) .nil)) Z Z Z Z Z (B0:=91000) Z (js Z (jf [11,12,68,10,9,8,7,6,26,5,4,17,3,2,1,0] Z (jn (aa (af (ag Z (jn (ao Z (fun z92=>?_) (fun z92=>?_)))))))))))))))
 exact absurd (bZ z92) (by decide)
 refine ac (aa (af (bb Z (jf [95,91,11,12,68,10,9,8,7,6,26,5,4,17,3,2,1,0] Z (jn (ao Z (fun z95=>?_) (fun z95=>?_)))))))
 exact absurd z95 (by simp)
 refine ac (af (js Z (jr ?_)))
 refine aD Z ?_
 rfl
theorem uX{L:Nat}(h1:4096≤L)(h2:L≤9223372036854775807){a:An}(hz:eL 1048576 a.size<0):MC Tryz.prog L 3 [aAn a] [] (Plain (eB true)):=by
 refine av ?_ Z
 have O:=ll (nt:=96) h1 h2
 refine MC.body O Tryz.func3 (by kernel_rfl) Z Z (Nat.le_of_ble_eq_true Z) (fun hF=>?_)
 refine af (jx Z (aA ?_))
 refine js Z (bm (js Z (bm (ag Z (ba Z (xr (a:=a) (left:=1048576) h1 h2 (by decide) (by decide)) 17000 Z (js Z (jf [3,2,1,0] Z (jn (aa (af (ag Z (jn (ao Z (fun z18=>?_) (fun z18=>?_))))))))))))))
 refine af (js Z (jr ?_))
 refine aD Z ?_
 rfl
 exact absurd (cS z18) (fun h=>h hz)
theorem uM{ps qs:List Pt}(h:qs.map Pt.fs=ps.map Pt.fs):bv nP qs=bv nP ps:=by
 have e: ∀l:List Pt,bv nP l=((l.map Pt.fs).map fun fs=>1+bv nT fs).sum:=fun l=>by rw[List.map_map];rfl
 rw[e,e,h]
theorem tF(ps:List Pt):bv nP ps=szs Pt.size ps:=by
 induction ps with
 | nil=>rfl
 | cons p r ih=>
  have:=mr p.fs
  have e:nP p=1+bv nT p.fs:=rfl
  simp only[bv,szs,List.map_cons,List.sum_cons,dF,Pt.size]at *
  omega
theorem rI(c:List In):bv fg c=2*c.length:=by
 induction c with
 | nil=>rfl
 | cons x r ih=>
  rw[show bv fg (x::r)=2+bv fg r by simp[bv],ih,dF];omega
theorem sn{L S:Nat}{c:List In}(h:D.fact L (c7 c))(hl:c.length≤S):D.fact S (c7 c):=by
 simp only[D.fact,aQ,dz]at h ⊢
 refine⟨hl,fun x hx=>?_⟩
 have:=h.2 x hx
 exact⟨this.1,this.2.1,aj⟩
theorem sm{L S:Nat}{ps:List Pt}(h:D.fact L (ix ps))(hl:szs Pt.size ps≤S):D.fact S (ix ps):=by
 unfold szs at hl
 simp only[D.fact,aQ,dz]at h ⊢
 refine⟨by omega,fun p hp=>?_⟩
 have h1:=h.2 p hp
 have h2:=ma Pt.size hp
 exact⟨h1.1,kH h1.2.1 (by show p.size≤S;omega),aj⟩
theorem tw{L S:Nat}{a:An}(h:A.fact L (aAn a))(hl:a.size≤S):A.fact S (aAn a):=by
 unfold An.size at hl
 exact⟨kH h.1 (by omega),kH h.2.1 (by omega),sn h.2.2.1 (by omega),sm h.2.2.2.1 (by omega),aj⟩
theorem law1553{L:Nat}(h1:4096≤L)(h2:L≤9223372036854775807){a:An}:MC Tryz.prog L 3 [aAn a] [] (Plain (eB true)):=by
 by_cases hz1:eL 1048576 a.size<0
 exact uX h1 h2 hz1
 have hz1':0≤eL 1048576 a.size:=by omega
 have g1:=oA hz1' (by decide)
 have k1:=mr a.pre
 have k2:=mr a.post
 have k3:=rI a.code
 have k4:=tF a.pts
 have e1:a.size=szs Tm.size a.pre+szs Tm.size a.post+a.code.length+szs Pt.size a.pts:=rfl
 have hcp:1+bv nT a.pre+bv nT a.post+bv fg a.code+bv nP a.pts≤(1073741824:Int):=by omega
 refine MC.facts ⟨_,_,Tryz.func3,by kernel_rfl,Z⟩ fun hF=>?_
 refine tT (L0:=1073741824) Z ?_ ?_
 exact⟨tw hF.1 (by omega),aj⟩
 cases hv:bB a with
 | true=>
  obtain⟨_,o2,o3,o4,o5⟩:=nc (n:=qR a+1) hv
  have o2':(e7 a).pre=a.pre:=o2
  have o3':(e7 a).post=a.post:=o3
  have m1:bv nP (e7 a).pts=bv nP a.pts:=uM o4
  have m2:=rI (e7 a).code
  have m3:(e7 a).code.length≤a.code.length:=o5
  refine uV (r:=e7 a) (by decide) (cm _) ?_ (uT (by decide) (cm _) hv) (uR (by decide) (cm _) hv (by decide)) hz1' hcp
  rw[o2',o3']
  omega
 | false=>exact uW (by decide) (cm _) (uU (by decide) (cm _) hv) (uS (by decide) (cm _) hv) hz1' hcp
end Go.Al
/- What the rows of the texts share: what the package-level variables hold in every world that a row ranges over. -/
namespace Go.Proofs.YtkendpichnklaaaGreatDoor
open Go.ChangeShapes Go.WideShapes Go.ChangeAt Go.RowKit Go.Al
theorem wrapLaid{H:Type}{enc:TypeId×Value→H}{a:Assume}{C:Checked}{os:Os}{f:FuncId}{fn:Func}{s:ChangeSpec}{conds:List PathCond}{apart fresh handsOn again:Bool}{X:World→Array Value→Prop}
    (hX: ∀(w w':World) (args:Array Value),w.heap=w'.heap→X w args→X w' args)
    (own:ownKnob C.prog.godebug=none) (started:os.Started) (noInit:C.prog.inits.idxOf? f=none) (hfn:C.prog.funcs[f]? = some fn)
    (witness: ∃(w:World) (tape:Tape) (i:Input),w.os=os∧(w.forCall tape i).Shaped C.prog∧i.vars=[]∧Input.okWide C.prog (w.forCall tape i) .any w.heap.size f i∧
      ((s.pre enc C.prog fn conds apart (w.forCall tape i).memory i.args∧X (w.forCall tape i).memory i.args)∧sizedMet enc C.prog fn (OpenSpec.ofChange s) apart (w.forCall tape i).memory i.args)∧a.holds C.prog (lone (Frame.enter C.prog f i.args .normal) [] (w.forCall tape i)))
    (contract: ∀(W:World) (base:Nat) (args:Array Value) (ds gs:List (DataW H)) (before:List MemPlace),
      (∀(j:Nat) t v,fn.params[j]? = some t→args[j]? = some v→Value.okWide C.prog W .any base t v)→
      DataW.Whole enc C.prog fn.params.toList s.vars apart W args.toList ds gs before→X W args→W.ShapedOpen C.prog→
      Calls C.prog f args W fun e W'=> ∃v,e= .returned v∧s.post enc C.prog fn apart fresh handsOn again W args v W') :
    ReturnsInHanded a C os f .any (fun w args=>(s.pre enc C.prog fn conds apart w args∧X w args)∧sizedMet enc C.prog fn (OpenSpec.ofChange s) apart w args) (s.post enc C.prog fn apart fresh handsOn again):=by
 refine returnsInHanded_of_calls own started noInit witness ?_
 intro w tape i _ hsh _ hok hpre hholds
 obtain⟨_,_,_,fn',hfn',_,_,_,_,hval⟩:=hok
 have e:fn'=fn:=Option.some.inj (hfn'.symm.trans hfn)
 subst e
 obtain⟨⟨⟨ds,gs,before,hw,hc⟩,hx⟩,hz⟩:=hpre
 have hw':=DataW.Whole.of_heap (w':=w.forCall tape i) (by rfl) hw
 refine(contract (w.forCall tape i) w.heap.size i.args ds gs before hval hw' (hX _ _ _ (by rfl) hx) hsh).mono fun e W' ⟨v,he,hp⟩=>?_
 subst he
 exact ChangeSpec.post_blind hp
theorem jL{P:Program}{w:World}: ∀{l:List (String×DataW Unit)} {ps:List MemPlace},DataW.LaidVars P w l ps→∀{x:String×DataW Unit},x∈l→
    ∃g t cs fuel p,P.globalNamed x.1=some g∧(P.globals[g]?).map (·.type)=some t∧w.var? P x.1=some cs∧DataW.trod (fun _=>()) P w 0 (fun _=>true) false fuel t cs.toList=some (x.2,p)
 | [],_,_,_,h=>by cases h
 | (n,d)::l,_,h,x,hx=>by
  obtain⟨g,t,cs,fuel,p,q,hg,ht,hv,hd,hr,_⟩:=h
  rcases List.mem_cons.1 hx with rfl|hx
  exact⟨g,t,cs,fuel,p,hg,ht,hv,hd⟩
  exact jL hr hx
theorem sX{P:Program}{w:World}{n:Nat}{t e:TypeId}{fuel:Nat}{cs:Array Value}{zs:List Int}{p:List MemPlace}(ht:P.underlying t=some (.array n e))(he:P.underlying e=some (.int .u64))(hc:P.cellsOf t=n)(hce:P.cellsOf e=1)(hn:zs.length=n)
    (hd:DataW.trod (fun _:TypeId×Value=>()) P w 0 (fun _=>true) false fuel t cs.toList=some (.agg (zs.map fun z=>.lit (.int .u64 z)),p)):cs=(zs.map fun z=>Value.int .u64 z).toArray:=by
 obtain⟨xs,m,_,ex,hl,hxs,hel⟩:=DataW.trod_array ht hd
 have e3:(xs.map (·.1))=zs.map fun z=>.lit (.int .u64 z):=(DataW.agg.inj (Prod.mk.inj ex).1).symm
 have key:cs.toList=zs.map fun z=>Value.int .u64 z:=by
  refine List.ext_getElem (by simp[hl,hc,hn]) fun i h1 h2=>?_
  have hi:i<n:=by simpa[hn]using h2
  have hE:=hel i hi
  rw[hce,Nat.mul_one,List.getElem?_eq_getElem (by omega)]at hE
  obtain⟨z,e1,e2,_⟩:=DataW.trod_int he hE
  have e4:(xs.map (·.1))[i]? = (zs.map fun z=>(DataW.lit (.int .u64 z):DataW Unit))[i]? := by rw[e3]
  rw[List.getElem?_map,List.getElem?_map,List.getElem?_eq_getElem (by omega:i<xs.length),List.getElem?_eq_getElem (by omega:i<zs.length),e2]at e4
  simp only[Option.map_some,el,DataW.lit.injEq,Lit.int.injEq,true_and]at e4
  have h0:((cs.toList.drop i).take 1)[0]? = some (.int .u64 z):=by rw[e1];rfl
  have h3:cs.toList[i]? = some (.int .u64 z):=by simpa using h0
  rw[List.getElem?_eq_getElem h1]at h3
  rw[Option.some.inj h3,e4,List.getElem_map]
 rw[←key]
theorem qj:(Rows.laid_internal_strconv_uint64pow10:DataW Unit)= .agg (Lib.pow10Tab.map fun z=>.lit (.int .u64 z)):=by kernel_rfl
end Go.Proofs.YtkendpichnklaaaGreatDoor
/- The package-level variables of the rows that list two of them (tpl2n). -/
namespace Go.Proofs.YtkendpichnklaaaGreatDoor
open Go.ChangeShapes Go.WideShapes Go.ChangeAt Go.RowKit Go.Al
theorem gok{W:World}{laid:List (String×DataW Unit)}(hl:laidMet Tryz.prog laid W)(hm:("internal/strconv.uint64pow10",Rows.laid_internal_strconv_uint64pow10)∈laid)(hs:W.ShapedOpen Tryz.prog):GOk Tryz.prog W okAll:=by
 intro n g hn hg
 refine⟨trivial,?_⟩
 simp only[GN,List.mem_cons,List.mem_nil_iff,or_false]at hn
 rcases hn with rfl|rfl
 obtain⟨ps,hv,_,_⟩:=hl
 obtain⟨g',t,cs,fuel,p,hg',ht,hv,hd⟩:=jL hv (x:=("internal/strconv.uint64pow10",Rows.laid_internal_strconv_uint64pow10)) hm
 obtain rfl:=Option.some.inj ((show Tryz.prog.globalNamed "internal/strconv.uint64pow10" = some 0 by kernel_rfl).symm.trans hg')
 obtain rfl:=Option.some.inj ((show(Tryz.prog.globals[0]?).map (·.type)=some 169 by kernel_rfl).symm.trans ht)
 refine⟨cs,hv,fun _=>?_,fun h=>absurd h (by simp)⟩
 refine sX (n:=20) (e:=151) Tryz.underlying169 Tryz.underlying151 (by kernel_rfl) (by kernel_rfl) Lib.pow10Tab_length (p:=p) (fuel:=fuel) (P:=Tryz.prog) (w:=W) ?_
 rw[←qj]
 exact hd
 rw[show Tryz.prog.globalNamed "internal/bytealg.MaxLen" = none by kernel_rfl]at hg
 cases hg
end Go.Proofs.YtkendpichnklaaaGreatDoor
