/- The law, walked; what the package-level variables hold. -/
import Derived.Test.YtjjheilajcepfaaGreatDoorG
import Derived.Test.YtjjheilajcepfaaGreatDoorE
import Derived.Test.YtjjheilajcepfaaGreatDoorH
import Derived.Test.YtjjheilajcepfaaGreatDoorTie
import Derived.Test.YtjjheilajcepfaaGreatDoorCards
import Derived.ProofKit
import Derived.OpenShut
import Derived.LaidMore
import Derived.LaidLaws
import Derived.Lay
import Derived.SevenTiedAt
import Derived.Shelf.Vars
import Derived.Stop.Joined
import Derived.Stop.LaidErr
set_option linter.unusedVariables false
set_option linter.unusedSimpArgs false
set_option maxRecDepth 10000
open Go.Proofs
namespace Go.Al
variable{L:Nat}(h1:4096≤L)(h2:L≤1073741824)
set_option maxHeartbeats 8000000
theorem qj{L:Nat}(h1:4096≤L)(h2:L≤9223372036854775807){xs ys:List Int}:MC Tryz.prog L 6 [.c (.d (bys xs)),.c (.d (bys ys))] [] (Plain (eB (bif decide ((48:Int)<xs.length)then true else decide ((48:Int)<ys.length)))):=by
 refine aH ?_ Z
 have O:=rO (nt:=13) h1 h2
 refine MC.body O Tryz.func6 (by kernel_rfl) Z Z (Nat.le_of_ble_eq_true Z) (fun hF=>?_)
 refine af (js Z (aZ (js Z ?_)))
 first|refine eh Z ?_|refine js Z ?_|refine cf Z Z ?_
 refine ac Z (jf [8,4,1] Z (aG 3 Z Z Z (fun hx=>aB hx Z (dU hx (bO O Z Z Z Z Z Z Z Z) Z (aB hx Z (AN.nil)))) Z Z ?_))
 first|refine aj (aD O Z Z Z Z Z) Z ?_|refine aj (Val.pickB O Z Z Z Z Z) Z ?_|refine aj (aw O Z Z Z Z Z) Z ?_
 refine js Z (jf [4] Z (jr ?_))
 refine aC Z ?_
 rfl
theorem c1486l{L:Nat}(h1:4096≤L)(h2:L≤9223372036854775807){xs ys:List Int}(h0:(bif decide ((48:Int)<xs.length)then true else decide ((48:Int)<ys.length))=true):MC Tryz.prog L 3 [.c (.d (bys xs)),.c (.d (bys ys))] [] (Plain (eB true)):=by
 refine MC.data ?_
 have O:=rO (nt:=123) h1 h2
 refine MC.body O Tryz.func3 (by kernel_rfl) Z Z (Nat.le_of_ble_eq_true Z) (fun hF=>?_)
 refine af (js Z (jn (ah (af (ac Z (bE Z (qj (xs:=xs) (ys:=ys) h1 h2) 23000 Z (jf [22,4,0,1] Z (jn (ar Z (fun z22=>?_) (fun z22=>?_))))))))))
 refine af (js Z (jr ?_))
 refine aC Z ?_
 exact .v (.c .d)
 exact absurd z22 (by rw[h0];decide)
variable{xs ys:List Int}{p u w:List Nd}
theorem t9{q:Sq}{t:aQ}{d c:Int}{x g:Tm}(h0:(bif decide ((48:Int)<xs.length)then true else decide ((48:Int)<ys.length))=false)(hB1:MQ h1 h2 7 [.c (.d (bys xs))] [] (Plain (.tup [kj q,bN p])))(hT:MQ h1 h2 8 [bN p] [] (Plain (.tup [fm t,eB true])))(hR:MQ h1 h2 9 [fm t] [] (Plain (.tup [bN p,eB true])))(hD:MQ h1 h2 10 [bN p] [] (Plain (.tup [eI d,eB true])))(hd1:1≤d)(hd2:d≤p.length)(hpl:p.length≤1000)(hC:MQ h1 h2 11 [kj q,bN p] [] (Plain (eB true)))(hV:MQ h1 h2 12 [kj q] [] (Plain (.tup [bN u,eB true])))(hu:u.length=1)(hC2:MQ h1 h2 11 [kj q,bN u] [] (Plain (eB true)))(hX:MQ h1 h2 13 [.c (.d (bys ys))] [] (Plain (cP x)))(hA8:MQ h1 h2 15 [.c (.d (bys ys)),eI 0,eI 5] [] (Plain (eI c)))(hA:MQ h1 h2 14 [cP x,cP ⟨c,[]⟩] [] (Plain (fi (g,true))))(hV2:MQ h1 h2 12 [kj ⟨[x],g⟩] [] (Plain (.tup [bN w,eB true])))(hC3:MQ h1 h2 11 [kj ⟨[x],g⟩,bN w] [] (Plain (eB true))):MQ h1 h2 3 [.c (.d (bys xs)),.c (.d (bys ys))] [] (Plain (eB true)):=by
 refine MC.data (jB 123 h1 h2 Tryz.func3 Z fun O hF=>?_)
 refine af (js Z (jn (ah (af (ac Z (bE Z (qj (xs:=xs) (ys:=ys) h1 (Nat.le_trans h2 (by decide))) 23000 Z (jf [22,4,0,1] Z (jn (ar Z (fun z22=>?_) (fun z22=>?_))))))))))
 exact absurd z22 (by rw[h0];decide)
 refine al (af (js Z (jf [24,4,0,1] Z (ab O Z Z Z Z (hB1) (aa Z) Z Z Z Z (B0:=26000) Z Z (aW Z (jf [27,26,4,0,1] Z (jl Z (au ?_))))))))
 refine jo Z (au ?_)
 refine js Z (jf [6,5,4,0,1] Z (aZ (js Z (ab O Z Z Z Z (hT) (aa Z) Z Z Z Z (B0:=31000) Z Z (aT Z (js Z (jf [8,7,6,5,4,0,1] Z (aZ (js Z (jf [34,8,6,5,4,0,1] Z (ab O Z Z Z Z (hR) (aa Z) Z Z Z Z (B0:=36000) Z Z (aT Z (js Z (jf [10,9,8,6,5,4,0,1] Z (aZ (js Z (ab O Z Z Z Z (hD) (aa Z) Z Z Z Z (B0:=41000) Z Z (aT Z (js Z (jf [12,11,10,9,8,6,5,4,0,1] Z (jn (ah (af (aW Z (jf [45,12,11,10,9,6,5,4,0,1] Z (b9 Z (js Z (jf [46,45,12,11,9,6,5,4,0,1] Z (b9 Z ?_)))))))))))))))))))))))))))))
 refine js Z (aj (aU O Z Z Z Z Z) Z (js Z (jf [49,12,11,9,6,5,4,0,1] Z (b9 Z (js Z (jf [50,49,11,9,6,5,4,0,1] Z (b9 Z (js Z (aj (aU O Z Z Z Z Z) Z (js Z (jf [53,11,9,6,5,4,0,1] Z (b9 Z (js Z (b9 Z (aj ((V Z).cast (v':=eB false) (congrArg eB (decide_eq_false (by omega)))) Z (aj (aU O Z Z Z Z Z) Z (js Z (jf [57,11,9,6,5,4,0,1] Z (b9 Z (js Z (jf [58,57,9,6,5,4,0,1] Z (b9 Z (js Z (b9 Z ?_))))))))))))))))))))))))
 first|refine eh Z ?_|refine js Z ?_|refine cf Z Z ?_
 refine jf [60,58,57,9,6,5,4,0,1] Z (b9 Z (aj ((V Z).cast (v':=eB false) (congrArg eB (decide_eq_false (by omega)))) Z (aj (aU O Z Z Z Z Z) Z (js Z (jf [63,9,6,5,4,0,1] Z (b9 Z (js Z (b9 Z (js Z (b9 Z (bE Z (hC) 67000 Z (jf [66,63,9,6,5,4,0,1] Z (b9 Z (js Z (aj (aU O Z Z Z Z Z) Z (js Z (jf [69,9,6,5,4,0,1] Z (b9 Z (js Z (jf [70,69,6,5,4,0,1] Z (b9 Z ?_)))))))))))))))))))))
 first|refine eh Z ?_|refine js Z ?_|refine cf Z Z ?_
 refine jf [71,69,6,5,4,0,1] Z (b9 Z (js Z (b9 Z ?_)))
 first|refine eh Z ?_|refine js Z ?_|refine cf Z Z ?_
 refine jf [73,71,69,6,5,4,0,1] Z (b9 Z (aj ((V Z).cast (v':=eB false) (congrArg eB (by simp))) Z (aj (aU O Z Z Z Z Z) Z (jf [75,6,5,4,0,1] Z (jn (ar Z (fun z75=>?_) (fun z75=>?_)))))))
 exact pU z75
 refine al (af (js Z (jf [77,6,5,4,0,1] Z (ab O Z Z Z Z (hV) (aa Z) Z Z Z Z (B0:=79000) Z Z (aT Z (js Z (jf [14,13,6,5,4,0,1] Z (jn (ah (af (ac Z (jf [82,13,6,5,4,0,1] Z (b9 Z (js Z (b9 Z ?_)))))))))))))))
 first|refine eh Z ?_|refine js Z ?_|refine cf Z Z ?_
 refine jf [84,82,13,6,5,4,0,1] Z (b9 Z (aj ((V Z).cast (v':=eB false) (congrArg eB (by rw[hu];rfl))) Z (jf [85,82,13,6,5,4,0,1] Z (b9 Z (js Z (jf [86,82,13,6,5,4,0,1] Z (b9 Z (js Z (b9 Z (js Z (jf [88,87,86,82,6,5,4,0,1] Z (b9 Z (bE Z (hC2) 90000 Z (jf [89,86,82,6,5,4,0,1] Z (b9 Z (js Z (jf [90,86,82,6,5,4,0,1] Z (b9 Z (aj (aU O Z Z Z Z Z) Z (aj (dx O Z Z Z Z Z) Z (jf [92,6,5,4,0,1] Z (jn (ar Z (fun z92=>?_) (fun z92=>?_))))))))))))))))))))))))
 exact pU z92
 refine al (af (js Z (jf [93,6,5,4,0,1] Z (ab O Z Z Z Z (hX) (aa Z) Z Z Z Z (B0:=95000) Z Z (jf [94,6,5,4,0,1] Z (jl Z (au ?_)))))))
 refine jo Z (au ?_)
 refine jn (ah (v9 [_,_,_,_,_,_,_,_,_,_,_] [pn [] 0 1,bc,pe [1] 0,pn [1,2] 1 1,pe [0,1,2,3] 1,pn [0,1,2,3,4] 2 2,pn [0,1,2,3,4,5] 2 2,pn [0,1,2,3,4,5] 2 3,pn [] 0 2,pe [0,1,2,3,4,5,6,8] 2,pn [0,1,2,3,4,5,6,7,8,9] 3 3] [2,4,9] 8 16 (.box [.d (.int .i64 0),.d .nils]) [_,_,_] [_] [[],[],[],[]] (ai (kf Z Z Z (kg Z Z Z)) (kf Z Z Z (ai (ai (bo (bm (cr O (B0:=99000) Z Z Z Z (hA8) (aa Z) Z Z Z Z Z)) (bm (cr O (B0:=99000) Z Z Z Z (hA8) (aa Z) Z Z Z Z Z))) Z) (kf Z Z Z (ai (ai (bo (bm (bA O (B0:=101000) Z Z Z Z (hA) (.cons (.agg (aK Z)) (.cons (.agg (.cons .d (.cons .nils .nil))) .nil)) Z Z Z Z Z)) (bm (bA O (B0:=101000) Z Z Z Z (hA) (.cons (.agg (aK Z)) (.cons (.agg (.cons .d (.cons .nils .nil))) .nil)) Z Z Z Z Z))) Z) (kf Z Z Z (kf Z Z Z (ai (kf Z Z Z (kg Z Z Z)) (ai (ai (ai (bm (Eff.alloc O Z Z Z Z Z Z)) Z) (ai (ai (bm (Eff.alloc O Z Z Z Z Z Z)) Z) (ai (bm (Eff.alloc O Z Z Z Z Z Z)) Z))) (ai (ai (bo trivial (bm (eS Z Z Z))) Z) (ai (ai (bo trivial (V Z)) Z) trivial))))))))))) ?_))
 refine jw [17,16,15,94,6,5,4,0,1] Z (ie ?_)
 refine af (js Z (aI (aP O Z Z Z Z Z Z Z Z Z Z Z) Z (au ?_)))
 refine aA (ap [15,16,105] (e':=[(105,_),(1,_),(15,_),(16,_),(17,_)]) Z Z ⟨Z,Z,Z,Z,Z,aq⟩ Z) (aA (Ent.freeze 105 (e':=[(105,_),(1,_),(15,_),(16,_),(17,_)]) Z (.cons Z (.c (.row Z Z)) (fe [1,15,16,17] Z)) (bu Z (bu Z (.skip .nil)))) ?_)
 refine au ?_
 refine au ?_
 refine ac Z (jf [107,1,15,16,17] Z (ab O Z Z Z Z (hV2) (aa Z) Z Z Z Z (B0:=109000) Z Z (aT Z (js Z (jf [19,18,1,15,16,17] Z (aZ (ac Z (jf [112,19,18,1,15,16] Z (b9 Z (js Z (aj (dx O Z Z Z Z Z) Z (js Z (jf [115,18,1,15,16] Z (b9 Z (js Z (b9 Z (aI (aP O Z Z Z Z Z Z Z Z Z Z Z) Z (au ?_))))))))))))))))))
 refine aA (ap [15,16,117] (e':=[(117,_),(115,_),(15,_),(16,_),(18,_)]) Z Z ⟨Z,Z,Z,Z,Z,aq⟩ Z) (aA (Ent.freeze 117 (e':=[(117,_),(115,_),(15,_),(16,_),(18,_)]) Z (.cons Z (.c (.row Z Z)) (fe [115,15,16,18] Z)) (bu Z (bu Z (.skip .nil)))) ?_)
 refine au ?_
 refine au ?_
 refine b9 Z (js Z (b9 Z (js Z (jf [119,115,15,16,18] Z (b9 Z (js Z (jf [120,119,115,15,16] Z (b9 Z (bE Z (hC3) 122000 Z (aj (dx O Z Z Z Z Z) Z (js Z (jf [4,15,16] Z (jr ?_)))))))))))))
 refine aC Z ?_
 exact .v (.c .d)
theorem ua{q:Sq}{t:aQ}{d c:Int}{x g:Tm}(h0:(bif decide ((48:Int)<xs.length)then true else decide ((48:Int)<ys.length))=false)(hB1:MQ h1 h2 7 [.c (.d (bys xs))] [] (Plain (.tup [kj q,bN p])))(hT:MQ h1 h2 8 [bN p] [] (Plain (.tup [fm t,eB true])))(hR:MQ h1 h2 9 [fm t] [] (Plain (.tup [bN p,eB true])))(hD:MQ h1 h2 10 [bN p] [] (Plain (.tup [eI d,eB true])))(hd1:1≤d)(hd2:d≤p.length)(hpl:p.length≤1000)(hC:MQ h1 h2 11 [kj q,bN p] [] (Plain (eB true)))(hV:MQ h1 h2 12 [kj q] [] (Plain (.tup [bN u,eB false])))(hX:MQ h1 h2 13 [.c (.d (bys ys))] [] (Plain (cP x)))(hA8:MQ h1 h2 15 [.c (.d (bys ys)),eI 0,eI 5] [] (Plain (eI c)))(hA:MQ h1 h2 14 [cP x,cP ⟨c,[]⟩] [] (Plain (fi (g,true))))(hV2:MQ h1 h2 12 [kj ⟨[x],g⟩] [] (Plain (.tup [bN w,eB true])))(hC3:MQ h1 h2 11 [kj ⟨[x],g⟩,bN w] [] (Plain (eB true))):MQ h1 h2 3 [.c (.d (bys xs)),.c (.d (bys ys))] [] (Plain (eB true)):=by
 refine MC.data (jB 123 h1 h2 Tryz.func3 Z fun O hF=>?_)
 refine af (js Z (jn (ah (af (ac Z (bE Z (qj (xs:=xs) (ys:=ys) h1 (Nat.le_trans h2 (by decide))) 23000 Z (jf [22,4,0,1] Z (jn (ar Z (fun z22=>?_) (fun z22=>?_))))))))))
 exact absurd z22 (by rw[h0];decide)
 refine al (af (js Z (jf [24,4,0,1] Z (ab O Z Z Z Z (hB1) (aa Z) Z Z Z Z (B0:=26000) Z Z (aW Z (jf [27,26,4,0,1] Z (jl Z (au ?_))))))))
 refine jo Z (au ?_)
 refine js Z (jf [6,5,4,0,1] Z (aZ (js Z (ab O Z Z Z Z (hT) (aa Z) Z Z Z Z (B0:=31000) Z Z (aT Z (js Z (jf [8,7,6,5,4,0,1] Z (aZ (js Z (jf [34,8,6,5,4,0,1] Z (ab O Z Z Z Z (hR) (aa Z) Z Z Z Z (B0:=36000) Z Z (aT Z (js Z (jf [10,9,8,6,5,4,0,1] Z (aZ (js Z (ab O Z Z Z Z (hD) (aa Z) Z Z Z Z (B0:=41000) Z Z (aT Z (js Z (jf [12,11,10,9,8,6,5,4,0,1] Z (jn (ah (af (aW Z (jf [45,12,11,10,9,6,5,4,0,1] Z (b9 Z (js Z (jf [46,45,12,11,9,6,5,4,0,1] Z (b9 Z ?_)))))))))))))))))))))))))))))
 refine js Z (aj (aU O Z Z Z Z Z) Z (js Z (jf [49,12,11,9,6,5,4,0,1] Z (b9 Z (js Z (jf [50,49,11,9,6,5,4,0,1] Z (b9 Z (js Z (aj (aU O Z Z Z Z Z) Z (js Z (jf [53,11,9,6,5,4,0,1] Z (b9 Z (js Z (b9 Z (aj ((V Z).cast (v':=eB false) (congrArg eB (decide_eq_false (by omega)))) Z (aj (aU O Z Z Z Z Z) Z (js Z (jf [57,11,9,6,5,4,0,1] Z (b9 Z (js Z (jf [58,57,9,6,5,4,0,1] Z (b9 Z (js Z (b9 Z ?_))))))))))))))))))))))))
 first|refine eh Z ?_|refine js Z ?_|refine cf Z Z ?_
 refine jf [60,58,57,9,6,5,4,0,1] Z (b9 Z (aj ((V Z).cast (v':=eB false) (congrArg eB (decide_eq_false (by omega)))) Z (aj (aU O Z Z Z Z Z) Z (js Z (jf [63,9,6,5,4,0,1] Z (b9 Z (js Z (b9 Z (js Z (b9 Z (bE Z (hC) 67000 Z (jf [66,63,9,6,5,4,0,1] Z (b9 Z (js Z (aj (aU O Z Z Z Z Z) Z (js Z (jf [69,9,6,5,4,0,1] Z (b9 Z (js Z (jf [70,69,6,5,4,0,1] Z (b9 Z ?_)))))))))))))))))))))
 first|refine eh Z ?_|refine js Z ?_|refine cf Z Z ?_
 refine jf [71,69,6,5,4,0,1] Z (b9 Z (js Z (b9 Z ?_)))
 first|refine eh Z ?_|refine js Z ?_|refine cf Z Z ?_
 refine jf [73,71,69,6,5,4,0,1] Z (b9 Z (aj ((V Z).cast (v':=eB false) (congrArg eB (by simp))) Z (aj (aU O Z Z Z Z Z) Z (jf [75,6,5,4,0,1] Z (jn (ar Z (fun z75=>?_) (fun z75=>?_)))))))
 exact pU z75
 refine al (af (js Z (jf [77,6,5,4,0,1] Z (ab O Z Z Z Z (hV) (aa Z) Z Z Z Z (B0:=79000) Z Z (aT Z (js Z (jf [14,13,6,5,4,0,1] Z (jn (ah (af (ac Z (jf [82,13,6,5,4,0,1] Z (i5 Z (i5 Z (jf [84,82,13,6,5,4,0,1] Z (i5 Z (jf [85,82,13,6,5,4,0,1] Z (i5 Z (jf [86,82,13,6,5,4,0,1] Z (fc Z Z Z Z Z (fc Z Z Z Z Z (jf [88,87,86,82,6,5,4,0,1] Z (fc Z Z Z Z Z (jf [89,86,82,6,5,4,0,1] Z (fc Z Z Z Z Z (jf [90,86,82,6,5,4,0,1] Z (i5 Z (aj (aU O Z Z Z Z Z) Z (jf [92,6,5,4,0,1] Z ?_)))))))))))))))))))))))))))))
 refine jn (ar Z (fun z92=>?_) (fun z92=>?_))
 exact pU z92
 refine al (af (js Z (jf [93,6,5,4,0,1] Z (ab O Z Z Z Z (hX) (aa Z) Z Z Z Z (B0:=95000) Z Z (jf [94,6,5,4,0,1] Z (jl Z (au ?_)))))))
 refine jo Z (au ?_)
 refine jn (ah (v9 [_,_,_,_,_,_,_,_,_,_,_] [pn [] 0 1,bc,pe [1] 0,pn [1,2] 1 1,pe [0,1,2,3] 1,pn [0,1,2,3,4] 2 2,pn [0,1,2,3,4,5] 2 2,pn [0,1,2,3,4,5] 2 3,pn [] 0 2,pe [0,1,2,3,4,5,6,8] 2,pn [0,1,2,3,4,5,6,7,8,9] 3 3] [2,4,9] 8 16 (.box [.d (.int .i64 0),.d .nils]) [_,_,_] [_] [[],[],[],[]] (ai (kf Z Z Z (kg Z Z Z)) (kf Z Z Z (ai (ai (bo (bm (cr O (B0:=99000) Z Z Z Z (hA8) (aa Z) Z Z Z Z Z)) (bm (cr O (B0:=99000) Z Z Z Z (hA8) (aa Z) Z Z Z Z Z))) Z) (kf Z Z Z (ai (ai (bo (bm (bA O (B0:=101000) Z Z Z Z (hA) (.cons (.agg (aK Z)) (.cons (.agg (.cons .d (.cons .nils .nil))) .nil)) Z Z Z Z Z)) (bm (bA O (B0:=101000) Z Z Z Z (hA) (.cons (.agg (aK Z)) (.cons (.agg (.cons .d (.cons .nils .nil))) .nil)) Z Z Z Z Z))) Z) (kf Z Z Z (kf Z Z Z (ai (kf Z Z Z (kg Z Z Z)) (ai (ai (ai (bm (Eff.alloc O Z Z Z Z Z Z)) Z) (ai (ai (bm (Eff.alloc O Z Z Z Z Z Z)) Z) (ai (bm (Eff.alloc O Z Z Z Z Z Z)) Z))) (ai (ai (bo trivial (bm (eS Z Z Z))) Z) (ai (ai (bo trivial (V Z)) Z) trivial))))))))))) ?_))
 refine jw [17,16,15,94,6,5,4,0,1] Z (ie ?_)
 refine af (js Z (aI (aP O Z Z Z Z Z Z Z Z Z Z Z) Z (au ?_)))
 refine aA (ap [15,16,105] (e':=[(105,_),(1,_),(15,_),(16,_),(17,_)]) Z Z ⟨Z,Z,Z,Z,Z,aq⟩ Z) (aA (Ent.freeze 105 (e':=[(105,_),(1,_),(15,_),(16,_),(17,_)]) Z (.cons Z (.c (.row Z Z)) (fe [1,15,16,17] Z)) (bu Z (bu Z (.skip .nil)))) ?_)
 refine au ?_
 refine au ?_
 refine ac Z (jf [107,1,15,16,17] Z (ab O Z Z Z Z (hV2) (aa Z) Z Z Z Z (B0:=109000) Z Z (aT Z (js Z (jf [19,18,1,15,16,17] Z (aZ (ac Z (jf [112,19,18,1,15,16] Z (b9 Z (js Z (aj (dx O Z Z Z Z Z) Z (js Z (jf [115,18,1,15,16] Z (b9 Z (js Z (b9 Z (aI (aP O Z Z Z Z Z Z Z Z Z Z Z) Z (au ?_))))))))))))))))))
 refine aA (ap [15,16,117] (e':=[(117,_),(115,_),(15,_),(16,_),(18,_)]) Z Z ⟨Z,Z,Z,Z,Z,aq⟩ Z) (aA (Ent.freeze 117 (e':=[(117,_),(115,_),(15,_),(16,_),(18,_)]) Z (.cons Z (.c (.row Z Z)) (fe [115,15,16,18] Z)) (bu Z (bu Z (.skip .nil)))) ?_)
 refine au ?_
 refine au ?_
 refine b9 Z (js Z (b9 Z (js Z (jf [119,115,15,16,18] Z (b9 Z (js Z (jf [120,119,115,15,16] Z (b9 Z (bE Z (hC3) 122000 Z (aj (dx O Z Z Z Z Z) Z (js Z (jf [4,15,16] Z (jr ?_)))))))))))))
 refine aC Z ?_
 exact .v (.c .d)
theorem law1486a{xs ys:List Int}(hx: ∀n∈xs,0≤n∧n≤255)(hy: ∀n∈ys,0≤n∧n≤255)(h0:(bif decide ((48:Int)<xs.length)then true else decide ((48:Int)<ys.length))=false):MC Tryz.prog 1073741824 3 [.c (.d (bys xs)),.c (.d (bys ys))] [] (Plain (eB true)):=by
 have h1:4096≤1073741824:=by decide
 have h2:1073741824≤1073741824:=bP _
 have h3:1048576<1073741824:=by decide
 obtain⟨k1,k2,k3⟩:=sE (s:=⟨xs,0,0⟩) ⟨hx⟩
 have hB1:=vJ h1 h2 hx
 generalize bM ⟨xs,0,0⟩=q at k1 hB1
 generalize jq ⟨xs,0,0⟩=p at k1 k2 k3 hB1
 obtain⟨d,hd,hd1,hd2⟩:=t5 k2
 have hT:=vG h1 h2 k2 h3
 have hlen:=ov k2
 have hR:=vP h1 h2 (t:=sK p) h3 (by omega)
 rw[sd k2]at hR
 have hD:=vE h1 h2 k2 hd
 have hC:=wg h1 h2 (s:=q) (p:=p)
 rw[k1]at hC
 have hV:=sY h1 h2 (q:=q)
 have hsm:=m8 (s:=⟨ys,0,0⟩) ⟨hy⟩
 have hX:=vC h1 h2 hy
 generalize (er ⟨ys,0,0⟩).1=x at hsm hX
 have hA8:=vB h1 h2 hy
 have hc:0≤ta ys∧ta ys≤4:=by
  unfold ta
  split
  rename_i hl
  have hb:=hy (ys.getD 0 default) (by rw[am (by omega)];exact List.getElem_mem _)
  have:=dk (n:=5) hb.1 (by omega)
  omega
  omega
 generalize ta ys=c at hA8 hc
 obtain⟨t1,t2⟩:=qG hsm (by omega) (by omega) hc.1 hc.2
 have hok:(⟨c,[]⟩:Tm).ok=true:=(Sm0.const (n:=c) (B:=4) (by omega) (by omega)).ok
 have hA:=vT h1 h2 (u:=x) (t:=⟨c,[]⟩) hsm.ok hok
 rw[show nU x ⟨c,[]⟩=((nU x ⟨c,[]⟩).1,true)from by rw[←t1]]at hA
 generalize (nU x ⟨c,[]⟩).1=g at hA t2
 have hV2:=sY h1 h2 (q:=⟨[x],g⟩)
 have hK2:=(oc t2).2
 rw[t2]at hV2
 have hC3:=wg h1 h2 (s:=⟨[x],g⟩) (p:=(gc ⟨[x],g⟩).1)
 rw[hK2]at hC3
 cases hb:(gc q).2 with
 | true=>
  obtain⟨u1,u2⟩:=oc hb
  have hC2:=wg h1 h2 (s:=q) (p:=(gc q).1)
  rw[u2]at hC2
  rw[hb]at hV
  exact t9 h1 h2 h0 hB1 hT hR hD hd1 hd2 (by omega) hC hV u1 hC2 hX hA8 hA hV2 hC3
 | false=>
  rw[hb]at hV
  exact ua h1 h2 h0 hB1 hT hR hD hd1 hd2 (by omega) hC hV hX hA8 hA hV2 hC3
end Go.Al
/- What the rows of the texts share: what the package-level variables hold in every world that a row ranges over. -/
namespace Go.Proofs.YtjjheilajcepfaaGreatDoor
open Go.ChangeShapes Go.WideShapes Go.ChangeAt Go.RowKit Go.Al
theorem wrapLaid{H:Type}{enc:TypeId×Value→H}{a:Assume}{C:Checked}{os:Os}{f:FuncId}{fn:Func}{s:ChangeSpec}{conds:List PathCond}{apart fresh handsOn again:Bool}{X:World→Array Value→Prop}
    (hX: ∀(w w':World) (args:Array Value),w.heap=w'.heap→X w args→X w' args)
    (own:ownKnob C.prog.godebug=none) (started:os.Started) (noInit:C.prog.inits.idxOf? f=none) (hfn:C.prog.funcs[f]? = some fn)
    (witness: ∃(w:World) (tape:Tape) (i:Input),w.os=os∧(w.forCall tape i).Shaped C.prog∧i.vars=[]∧Input.okWide C.prog (w.forCall tape i) .any w.heap.size f i∧
      ((s.pre enc C.prog fn conds apart (w.forCall tape i).memory i.args∧X (w.forCall tape i).memory i.args)∧sizedMet enc C.prog fn (OpenSpec.ofChange s) apart (w.forCall tape i).memory i.args)∧a.holds C.prog (lone (Frame.enter C.prog f i.args .normal) [] (w.forCall tape i)))
    (contract: ∀(W:World) (base:Nat) (args:Array Value) (ds gs:List (DataW H)) (before:List MemPlace),
      (∀(j:Nat) t v,fn.params[j]? = some t→args[j]? = some v→Value.okWide C.prog W .any base t v)→
      DataW.Whole enc C.prog fn.params.toList s.vars apart W args.toList ds gs before→X W args→W.ShapedOpen C.prog→
      Calls C.prog f args W fun e W'=> ∃v,e= .returned v∧s.post enc C.prog fn apart fresh handsOn again W args v W') :
    ReturnsInHanded a C os f .any (fun w args=>(s.pre enc C.prog fn conds apart w args∧X w args)∧sizedMet enc C.prog fn (OpenSpec.ofChange s) apart w args) (s.post enc C.prog fn apart fresh handsOn again):=by
 refine returnsInHanded_of_calls own started noInit witness ?_
 intro w tape i _ hsh _ hok hpre hholds
 obtain⟨_,_,_,fn',hfn',_,_,_,_,hval⟩:=hok
 have e:fn'=fn:=Option.some.inj (hfn'.symm.trans hfn)
 subst e
 obtain⟨⟨⟨ds,gs,before,hw,hc⟩,hx⟩,hz⟩:=hpre
 have hw':=DataW.Whole.of_heap (w':=w.forCall tape i) (by rfl) hw
 refine(contract (w.forCall tape i) w.heap.size i.args ds gs before hval hw' (hX _ _ _ (by rfl) hx) hsh).mono fun e W' ⟨v,he,hp⟩=>?_
 subst he
 exact ChangeSpec.post_blind hp
theorem iT{P:Program}{w:World}: ∀{l:List (String×DataW Unit)} {ps:List MemPlace},DataW.LaidVars P w l ps→∀{x:String×DataW Unit},x∈l→
    ∃g t cs fuel p,P.globalNamed x.1=some g∧(P.globals[g]?).map (·.type)=some t∧w.var? P x.1=some cs∧DataW.trod (fun _=>()) P w 0 (fun _=>true) false fuel t cs.toList=some (x.2,p)
 | [],_,_,_,h=>by cases h
 | (n,d)::l,_,h,x,hx=>by
  obtain⟨g,t,cs,fuel,p,q,hg,ht,hv,hd,hr,_⟩:=h
  rcases List.mem_cons.1 hx with rfl|hx
  exact⟨g,t,cs,fuel,p,hg,ht,hv,hd⟩
  exact iT hr hx
theorem rW{P:Program}{w:World}{n:Nat}{t e:TypeId}{fuel:Nat}{cs:Array Value}{zs:List Int}{p:List MemPlace}(ht:P.underlying t=some (.array n e))(he:P.underlying e=some (.int .u64))(hc:P.cellsOf t=n)(hce:P.cellsOf e=1)(hn:zs.length=n)
    (hd:DataW.trod (fun _:TypeId×Value=>()) P w 0 (fun _=>true) false fuel t cs.toList=some (.agg (zs.map fun z=>.lit (.int .u64 z)),p)):cs=(zs.map fun z=>Value.int .u64 z).toArray:=by
 obtain⟨xs,m,_,ex,hl,hxs,hel⟩:=DataW.trod_array ht hd
 have e3:(xs.map (·.1))=zs.map fun z=>.lit (.int .u64 z):=(DataW.agg.inj (Prod.mk.inj ex).1).symm
 have key:cs.toList=zs.map fun z=>Value.int .u64 z:=by
  refine List.ext_getElem (by simp[hl,hc,hn]) fun i h1 h2=>?_
  have hi:i<n:=by simpa[hn]using h2
  have hE:=hel i hi
  rw[hce,Nat.mul_one,List.getElem?_eq_getElem (by omega)]at hE
  obtain⟨z,e1,e2,_⟩:=DataW.trod_int he hE
  have e4:(xs.map (·.1))[i]? = (zs.map fun z=>(DataW.lit (.int .u64 z):DataW Unit))[i]? := by rw[e3]
  rw[List.getElem?_map,List.getElem?_map,List.getElem?_eq_getElem (by omega:i<xs.length),List.getElem?_eq_getElem (by omega:i<zs.length),e2]at e4
  simp only[Option.map_some,du,DataW.lit.injEq,Lit.int.injEq,true_and]at e4
  have h0:((cs.toList.drop i).take 1)[0]? = some (.int .u64 z):=by rw[e1];rfl
  have h3:cs.toList[i]? = some (.int .u64 z):=by simpa using h0
  rw[List.getElem?_eq_getElem h1]at h3
  rw[Option.some.inj h3,e4,List.getElem_map]
 rw[←key]
theorem pg:(Rows.laid_internal_strconv_uint64pow10:DataW Unit)= .agg (Lib.pow10Tab.map fun z=>.lit (.int .u64 z)):=by kernel_rfl
end Go.Proofs.YtjjheilajcepfaaGreatDoor
/- The package-level variables of the rows that list four of them. -/
namespace Go.Proofs.YtjjheilajcepfaaGreatDoor
open Go.ChangeShapes Go.WideShapes Go.ChangeAt Go.RowKit Go.Al
theorem qn: "*" ++ "errors.errorString" = "*errors.errorString" := by decide
theorem sP(u:TypeId)(h:Tryz.prog.typeName? 3 u=some "*errors.errorString"):u=249:=
  typeName_ptr_named (nm:= "errors.errorString") (by rw[qn];kernel_rfl) (by kernel_rfl) (by decide) u (by rw[qn];exact h)
theorem pq{W:World}{r:List (String×DataW Unit)}(h:laidMet Tryz.prog (("strconv.ErrRange",Rows.laid_strconv_ErrRange)::r) W): ∃cs,W.var? Tryz.prog "strconv.ErrRange" = some cs∧∃te pe,cs[0]? = some (Value.iface te pe):=by
 obtain⟨a,s,hv,_⟩:=laid_sentinel h (show Tryz.prog.globalNamed "strconv.ErrRange" = some 5 by kernel_rfl) (show(Tryz.prog.globals[5]?).map (·.type)=some 180 by kernel_rfl) Tryz.underlying180 sP Tryz.underlying249 Tryz.underlying251 rfl rfl Tryz.underlying9 (by kernel_rfl) (by kernel_rfl)
 exact⟨_,hv,_,_,Z⟩
theorem ny{W:World}{r:List (String×DataW Unit)}(h:laidMet Tryz.prog (("strconv.ErrSyntax",Rows.laid_strconv_ErrSyntax)::r) W): ∃cs,W.var? Tryz.prog "strconv.ErrSyntax" = some cs∧∃te pe,cs[0]? = some (Value.iface te pe):=by
 obtain⟨a,s,hv,_⟩:=laid_sentinel h (show Tryz.prog.globalNamed "strconv.ErrSyntax" = some 4 by kernel_rfl) (show(Tryz.prog.globals[4]?).map (·.type)=some 180 by kernel_rfl) Tryz.underlying180 sP Tryz.underlying249 Tryz.underlying251 rfl rfl Tryz.underlying9 (by kernel_rfl) (by kernel_rfl)
 exact⟨_,hv,_,_,Z⟩
theorem gok4{W:World}{laid r1 r2:List (String×DataW Unit)}(hl:laidMet Tryz.prog laid W)(hm:("internal/strconv.uint64pow10",Rows.laid_internal_strconv_uint64pow10)∈laid)(hR:laidMet Tryz.prog (("strconv.ErrRange",Rows.laid_strconv_ErrRange)::r1) W)(hS:laidMet Tryz.prog (("strconv.ErrSyntax",Rows.laid_strconv_ErrSyntax)::r2) W)(hs:W.ShapedOpen Tryz.prog):GOk Tryz.prog W okAll:=by
 intro n g hn hg
 refine⟨trivial,?_⟩
 simp only[GN,List.mem_cons,List.mem_nil_iff,or_false]at hn
 rcases hn with rfl|rfl|rfl|rfl
 obtain⟨ps,hv,_,_⟩:=hl
 obtain⟨g',t,cs,fuel,p,hg',ht,hv,hd⟩:=iT hv (x:=("internal/strconv.uint64pow10",Rows.laid_internal_strconv_uint64pow10)) hm
 obtain rfl:=Option.some.inj ((show Tryz.prog.globalNamed "internal/strconv.uint64pow10" = some 1 by kernel_rfl).symm.trans hg')
 obtain rfl:=Option.some.inj ((show(Tryz.prog.globals[1]?).map (·.type)=some 233 by kernel_rfl).symm.trans ht)
 refine⟨cs,hv,fun _=>?_,fun h=>absurd h (by simp),fun h=>absurd h (by simp)⟩
 refine rW (n:=20) (e:=122) Tryz.underlying233 Tryz.underlying122 (by kernel_rfl) (by kernel_rfl) Lib.pow10Tab_length (p:=p) (fuel:=fuel) (P:=Tryz.prog) (w:=W) ?_
 rw[←pg]
 exact hd
 obtain rfl:=Option.some.inj ((show Tryz.prog.globalNamed "internal/bytealg.MaxLen" = some 0 by kernel_rfl).symm.trans hg)
 obtain⟨m,hm⟩:=cell_of_shapedOpen_int (k:=.i64) (g:=0) (t:=3) (zero:= #[.int .i64 0]) hs (cN (by kernel_rfl)) (by kernel_rfl) rfl (by kernel_rfl) (by kernel_rfl) Tryz.underlying3
 have hm':=hm
 unfold World.cell? at hm'
 unfold World.var?
 rw[hg,Option.bind_some]
 cases hb:W.heap[0]? with
 | none=>simp[hb]at hm'
 | some o=>
  cases o with
  | cells cs c d=>exact⟨cs,Z,fun h=>absurd h (by simp),fun _=>⟨m,by simpa[hb]using hm'⟩,fun h=>absurd h (by simp)⟩
  | _=>simp[hb]at hm'
 obtain⟨cs,hv,te,pe,hc⟩:=ny hS
 exact⟨cs,hv,fun h=>absurd h (by simp),fun h=>absurd h (by simp),fun _=>⟨_,hc,.inr ⟨te,pe,Z⟩⟩⟩
 obtain⟨cs,hv,te,pe,hc⟩:=pq hR
 exact⟨cs,hv,fun h=>absurd h (by simp),fun h=>absurd h (by simp),fun _=>⟨_,hc,.inr ⟨te,pe,Z⟩⟩⟩
end Go.Proofs.YtjjheilajcepfaaGreatDoor
