/- The law, walked; what the package-level variables hold. -/
import Derived.Test.YtdjlfclghdofoaaGreatDoorG
import Derived.Test.YtdjlfclghdofoaaGreatDoorE
import Derived.Test.YtdjlfclghdofoaaGreatDoorD
import Derived.Test.YtdjlfclghdofoaaGreatDoorTie
import Derived.Test.YtdjlfclghdofoaaGreatDoorCards
import Derived.ProofKit
import Derived.OpenShut
import Derived.LaidMore
import Derived.LaidLaws
import Derived.Lay
import Derived.SevenTiedAt
import Derived.Shelf.Vars
import Derived.Stop.Joined
import Derived.Stop.LaidErr
set_option linter.unusedVariables false
set_option linter.unusedSimpArgs false
set_option maxRecDepth 10000
open Go.Proofs
namespace Go.Al
variable{L:Nat}(h1:4096≤L)(h2:L≤1073741824)
set_option maxHeartbeats 8000000
theorem uK{a:Prop}{n:Int}[Decidable a](h:(bif decide a then decide (0<n)else false)=false)(ha:a):n≤0:=by
 rw[decide_eq_true ha]at h
 have:=bo h
 omega
theorem ro{L:Nat}(h1:4096≤L)(h2:L≤9223372036854775807){xs ys:List Int}:MC Tryz.prog L 5 [.c (.d (bys xs)),.c (.d (bys ys))] [] (Plain (eB (bif decide ((48:Int)<xs.length)then true else decide ((48:Int)<ys.length)))):=by
 refine aF ?_ Z
 have O:=px (nt:=13) h1 h2
 refine MC.body O Tryz.func5 (by kernel_rfl) Z Z (Nat.le_of_ble_eq_true Z) (fun hF=>?_)
 refine ac (js Z (bc (js Z ?_)))
 first|refine cW Z ?_|refine js Z ?_|refine bP Z Z ?_
 refine aa Z (jf [8,4,1] Z (bz 3 Z Z Z (fun hx=>ba hx Z (dz hx (bF O Z Z Z Z Z Z Z Z) Z (ba hx Z (AN.nil)))) Z Z ?_))
 first|refine ae (bq O Z Z Z Z Z) Z ?_|refine ae (Val.pickB O Z Z Z Z Z) Z ?_|refine ae (aU O Z Z Z Z Z) Z ?_
 refine js Z (jf [4] Z (jr ?_))
 refine aO Z ?_
 rfl
theorem c1521l{L:Nat}(h1:4096≤L)(h2:L≤9223372036854775807){xs ys:List Int}(h0:(bif decide ((48:Int)<xs.length)then true else decide ((48:Int)<ys.length))=true):MC Tryz.prog L 3 [.c (.d (bys xs)),.c (.d (bys ys))] [] (Plain (eB true)):=by
 refine MC.data ?_
 have O:=px (nt:=228) h1 h2
 refine MC.body O Tryz.func3 (by kernel_rfl) Z Z (Nat.le_of_ble_eq_true Z) (fun hF=>?_)
 refine ac (js Z (jn (aj (ac (aa Z (aS Z (ro (xs:=xs) (ys:=ys) h1 h2) 41000 Z (jf [40,4,0,1] Z (jn (ab Z (fun z40=>?_) (fun z40=>?_))))))))))
 refine ac (js Z (jr ?_))
 refine aO Z ?_
 exact .v (.c .d)
 exact absurd z40 (by rw[h0];decide)
variable{xs ys hs:List Int}{x y w:List In}{s:Sx}
theorem rj{t:bQ}(h0:(bif decide ((48:Int)<xs.length)then true else decide ((48:Int)<ys.length))=false)(hx80:x.length≤80)(hy80:y.length≤80)(hC:MQ h1 h2 6 [.c (.d (bys xs))] [] (Plain (aJ x)))(hC2:MQ h1 h2 6 [.c (.d (bys ys))] [] (Plain (aJ y)))(hSt:MQ h1 h2 7 [.c (.d (bys ys))] [] (Plain (em s)))(hT:MQ h1 h2 8 [aJ x] [] (Plain (.tup [fz t,eB true])))(hR:MQ h1 h2 9 [fz t] [] (Plain (.tup [aJ x,eB true])))(hJ:MQ h1 h2 11 [aJ x,aJ y] [] (Plain (.tup [aJ w,eB true])))(hH:MQ h1 h2 12 [aJ x] [] (Plain (.tup [bt hs,eB false]))):MQ h1 h2 3 [.c (.d (bys xs)),.c (.d (bys ys))] [] (Plain (eB true)):=by
 refine MC.data (jB 228 h1 h2 Tryz.func3 Z fun O hF=>?_)
 refine ac (js Z (jn (aj (ac (aa Z (aS Z (kC (xs:=xs) (ys:=ys) h1 h2) 41000 Z (jf [40,4,0,1] Z (jn (ab Z (fun z40=>?_) (fun z40=>?_))))))))))
 exact absurd z40 (by rw[h0];decide)
 refine al (ac (js Z (jf [41,4,0,1] Z (af O Z Z Z Z (hC) (ak Z) Z Z Z Z (B0:=43000) Z Z (js Z (jf [5,4,0,1] Z (bc (js Z (af O Z Z Z Z (hC2) (ak Z) Z Z Z Z (B0:=45000) Z Z (js Z (jf [6,5,4,0,1] Z (bc (js Z (af O Z Z Z Z (hSt) (ak Z) Z Z Z Z (B0:=47000) Z Z (jf [46,6,5,4,0,1] Z (jl Z (ax ?_)))))))))))))))))
 refine jo Z (ax ?_)
 refine az (Ent.freeze 7 (e':=[(7,_),(5,_),(6,_)]) Z (.cons Z (.c (.box (cs:=Sx.data s) Z (aQ Z))) (fe [5,6] Z)) (.skip .nil)) ?_
 refine ax ?_
 refine bc (js Z (af O Z Z Z Z (hT) (ak Z) Z Z Z Z (B0:=50000) Z Z (aE Z (js Z (jf [9,8,7,5,6] Z (bc (js Z (jf [53,9,7,5,6] Z (af O Z Z Z Z (hR) (ak Z) Z Z Z Z (B0:=55000) Z Z (aE Z (js Z (jf [11,10,9,7,5,6] Z (jn (aj (ac (bi Z (jf [59,11,10,7,5,6] Z (br Z (js Z (jf [60,59,10,7,5,6] Z (br Z (js Z (ae (aM O Z Z Z Z Z) Z (js Z (jf [63,10,7,5,6] Z (br Z (js Z (jf [64,63,7,5,6] Z (br Z ?_)))))))))))))))))))))))))))))
 refine js Z (br Z (aS Z (kB (c:=x) h1 h2) 67000 Z (jf [66,63,7,5,6] Z (br Z (js Z (ae (aM O Z Z Z Z Z) Z (jf [68,7,5,6] Z (jn (ab Z (fun z68=>?_) (fun z68=>?_))))))))))
 exact fN z68
 refine al (ac (aa Z (jf [71,70,7,5,6] Z (af O Z Z Z Z (hJ) (ak Z) Z Z Z Z (B0:=73000) Z Z (aE Z (js Z (jf [13,12,7,5,6] Z (bc (js Z (af O Z Z Z Z (hH) (ak Z) Z Z Z Z (B0:=78000) Z Z (aE Z (js Z (jf [15,13,12,7,5,6] Z (jn (aj (ac (bi Z (jf [82,15,13,12,7,5,6] Z (br Z (js Z (jf [83,82,13,12,7,5,6] Z (br Z (js Z (ae (aM O Z Z Z Z Z) Z (jf [85,13,12,7,5,6] Z (jn (ab Z (fun z85=>?_) (fun z85=>?_))))))))))))))))))))))))))))
 refine ac (aa Z (jf [87,13,12,7,5,6] Z (cT Z (cT Z (jf [89,87,13,12,7,5,6] Z (cT Z (cT Z (jf [91,89,87,13,12,7,5,6] Z (cT Z (jf [92,87,13,12,7,5,6] Z (cT Z (ae (bp O Z Z Z Z Z) Z (js Z (jf [95,13,12,7,5,6] Z (cT Z (cT Z (cT Z (jf [98,96,95,13,12,7,5,6] Z (cT Z (jf [99,96,95,13,12,7,5,6] Z (cT Z (jf [100,95,13,12,7,5,6] Z (cT Z (ae (bp O Z Z Z Z Z) Z (js Z (jf [4,13,12,7,5,6] Z (jr ?_)))))))))))))))))))))))))))
 refine aO Z ?_
 exact .v (.c .d)
 exact rM z85
theorem oo{t:bQ}(h0:(bif decide ((48:Int)<xs.length)then true else decide ((48:Int)<ys.length))=false)(hx80:x.length≤80)(hy80:y.length≤80)(hC:MQ h1 h2 6 [.c (.d (bys xs))] [] (Plain (aJ x)))(hC2:MQ h1 h2 6 [.c (.d (bys ys))] [] (Plain (aJ y)))(hSt:MQ h1 h2 7 [.c (.d (bys ys))] [] (Plain (em s)))(hT:MQ h1 h2 8 [aJ x] [] (Plain (.tup [fz t,eB true])))(hR:MQ h1 h2 9 [fz t] [] (Plain (.tup [aJ x,eB true]))){b:Bool}(hJ:MQ h1 h2 11 [aJ x,aJ y] [] (Plain (.tup [aJ w,eB false])))(hH:MQ h1 h2 12 [aJ x] [] (Plain (.tup [bt hs,eB b])))(hA:(bif decide ((80:Int)<(x.length:Int)+(y.length:Int))then true else !eC y (80-(x.length:Int)))=true):MQ h1 h2 3 [.c (.d (bys xs)),.c (.d (bys ys))] [] (Plain (eB true)):=by
 refine MC.data (jB 228 h1 h2 Tryz.func3 Z fun O hF=>?_)
 refine ac (js Z (jn (aj (ac (aa Z (aS Z (kC (xs:=xs) (ys:=ys) h1 h2) 41000 Z (jf [40,4,0,1] Z (jn (ab Z (fun z40=>?_) (fun z40=>?_))))))))))
 exact absurd z40 (by rw[h0];decide)
 refine al (ac (js Z (jf [41,4,0,1] Z (af O Z Z Z Z (hC) (ak Z) Z Z Z Z (B0:=43000) Z Z (js Z (jf [5,4,0,1] Z (bc (js Z (af O Z Z Z Z (hC2) (ak Z) Z Z Z Z (B0:=45000) Z Z (js Z (jf [6,5,4,0,1] Z (bc (js Z (af O Z Z Z Z (hSt) (ak Z) Z Z Z Z (B0:=47000) Z Z (jf [46,6,5,4,0,1] Z (jl Z (ax ?_)))))))))))))))))
 refine jo Z (ax ?_)
 refine az (Ent.freeze 7 (e':=[(7,_),(5,_),(6,_)]) Z (.cons Z (.c (.box (cs:=Sx.data s) Z (aQ Z))) (fe [5,6] Z)) (.skip .nil)) ?_
 refine ax ?_
 refine bc (js Z (af O Z Z Z Z (hT) (ak Z) Z Z Z Z (B0:=50000) Z Z (aE Z (js Z (jf [9,8,7,5,6] Z (bc (js Z (jf [53,9,7,5,6] Z (af O Z Z Z Z (hR) (ak Z) Z Z Z Z (B0:=55000) Z Z (aE Z (js Z (jf [11,10,9,7,5,6] Z (jn (aj (ac (bi Z (jf [59,11,10,7,5,6] Z (br Z (js Z (jf [60,59,10,7,5,6] Z (br Z (js Z (ae (aM O Z Z Z Z Z) Z (js Z (jf [63,10,7,5,6] Z (br Z (js Z (jf [64,63,7,5,6] Z (br Z ?_)))))))))))))))))))))))))))))
 refine js Z (br Z (aS Z (kB (c:=x) h1 h2) 67000 Z (jf [66,63,7,5,6] Z (br Z (js Z (ae (aM O Z Z Z Z Z) Z (jf [68,7,5,6] Z (jn (ab Z (fun z68=>?_) (fun z68=>?_))))))))))
 exact fN z68
 refine al (ac (aa Z (jf [71,70,7,5,6] Z (af O Z Z Z Z (hJ) (ak Z) Z Z Z Z (B0:=73000) Z Z (aE Z (js Z (jf [13,12,7,5,6] Z (bc (js Z (af O Z Z Z Z (hH) (ak Z) Z Z Z Z (B0:=78000) Z Z (aE Z (js Z (jf [15,13,12,7,5,6] Z (jn (aj (ac (bi Z (jf [82,15,13,12,7,5,6] Z (cT Z (jf [83,82,13,12,7,5,6] Z (cT Z (ae (bp O Z Z Z Z Z) Z (jf [85,13,12,7,5,6] Z (jn (ab Z (fun z85=>?_) (fun z85=>?_))))))))))))))))))))))))))
 refine ac (aa Z (jf [87,13,12,7,5,6] Z (br Z (js Z (br Z ?_)))))
 first|refine cW Z ?_|refine js Z ?_|refine bP Z Z ?_
 refine jf [89,87,13,12,7,5,6] Z (br Z (js Z (br Z ?_)))
 first|refine cW Z ?_|refine js Z ?_|refine bP Z Z ?_
 refine jf [91,89,87,13,12,7,5,6] Z (br Z ?_)
 first|refine ji Z ?_|refine bP Z Z ?_
 refine jf [92,87,13,12,7,5,6] Z (br Z (js Z (ae (aM O Z Z Z Z Z) Z (js Z (jf [95,13,12,7,5,6] Z (bz 6 Z Z Z (fun hx=>ba hx Z (ba hx Z (dz hx (bF O Z Z Z Z Z Z Z Z) Z (dz hx (vF Z) Z (fY O hx Z Z Z Z (s8 (c:=y) (n:=80-(x.length:Int)) h1 h2) (ak Z) Z Z Z Z Z Z Z (B0:=101000) Z (ba hx Z (AN.nil))))))) Z Z (ae ((bq O Z Z Z Z Z).cast (v':=eB true) (congrArg eB (hA))) Z (js Z (jf [4,13,12,7,5,6] Z (jr ?_))))))))))
 refine aO Z ?_
 exact .v (.c .d)
 exact rM z85
variable{u:Sx}{e:List Int}{o:Int}
theorem ri{t:bQ}(h0:(bif decide ((48:Int)<xs.length)then true else decide ((48:Int)<ys.length))=false)(hx80:x.length≤80)(hy80:y.length≤80)(hC:MQ h1 h2 6 [.c (.d (bys xs))] [] (Plain (aJ x)))(hC2:MQ h1 h2 6 [.c (.d (bys ys))] [] (Plain (aJ y)))(hSt:MQ h1 h2 7 [.c (.d (bys ys))] [] (Plain (em s)))(hT:MQ h1 h2 8 [aJ x] [] (Plain (.tup [fz t,eB true])))(hR:MQ h1 h2 9 [fz t] [] (Plain (.tup [aJ x,eB true])))(hJ:MQ h1 h2 11 [aJ x,aJ y] [] (Plain (.tup [aJ w,eB true])))(hH:MQ h1 h2 12 [aJ x] [] (Plain (.tup [bt hs,eB true])))(hRn:MQ h1 h2 14 [aJ x,em s,eI 200] [] (Plain (.tup [em u,bt e,eI o,eB true])))(ho:o=1):MQ h1 h2 3 [.c (.d (bys xs)),.c (.d (bys ys))] [] (Plain (eB true)):=by
 refine MC.data (jB 228 h1 h2 Tryz.func3 Z fun O hF=>?_)
 refine ac (js Z (jn (aj (ac (aa Z (aS Z (kC (xs:=xs) (ys:=ys) h1 h2) 41000 Z (jf [40,4,0,1] Z (jn (ab Z (fun z40=>?_) (fun z40=>?_))))))))))
 exact absurd z40 (by rw[h0];decide)
 refine al (ac (js Z (jf [41,4,0,1] Z (af O Z Z Z Z (hC) (ak Z) Z Z Z Z (B0:=43000) Z Z (js Z (jf [5,4,0,1] Z (bc (js Z (af O Z Z Z Z (hC2) (ak Z) Z Z Z Z (B0:=45000) Z Z (js Z (jf [6,5,4,0,1] Z (bc (js Z (af O Z Z Z Z (hSt) (ak Z) Z Z Z Z (B0:=47000) Z Z (jf [46,6,5,4,0,1] Z (jl Z (ax ?_)))))))))))))))))
 refine jo Z (ax ?_)
 refine az (Ent.freeze 7 (e':=[(7,_),(5,_),(6,_)]) Z (.cons Z (.c (.box (cs:=Sx.data s) Z (aQ Z))) (fe [5,6] Z)) (.skip .nil)) ?_
 refine ax ?_
 refine bc (js Z (af O Z Z Z Z (hT) (ak Z) Z Z Z Z (B0:=50000) Z Z (aE Z (js Z (jf [9,8,7,5,6] Z (bc (js Z (jf [53,9,7,5,6] Z (af O Z Z Z Z (hR) (ak Z) Z Z Z Z (B0:=55000) Z Z (aE Z (js Z (jf [11,10,9,7,5,6] Z (jn (aj (ac (bi Z (jf [59,11,10,7,5,6] Z (br Z (js Z (jf [60,59,10,7,5,6] Z (br Z (js Z (ae (aM O Z Z Z Z Z) Z (js Z (jf [63,10,7,5,6] Z (br Z (js Z (jf [64,63,7,5,6] Z (br Z ?_)))))))))))))))))))))))))))))
 refine js Z (br Z (aS Z (kB (c:=x) h1 h2) 67000 Z (jf [66,63,7,5,6] Z (br Z (js Z (ae (aM O Z Z Z Z Z) Z (jf [68,7,5,6] Z (jn (ab Z (fun z68=>?_) (fun z68=>?_))))))))))
 exact fN z68
 refine al (ac (aa Z (jf [71,70,7,5,6] Z (af O Z Z Z Z (hJ) (ak Z) Z Z Z Z (B0:=73000) Z Z (aE Z (js Z (jf [13,12,7,5,6] Z (bc (js Z (af O Z Z Z Z (hH) (ak Z) Z Z Z Z (B0:=78000) Z Z (aE Z (js Z (jf [15,13,12,7,5,6] Z (jn (aj (ac (bi Z (jf [82,15,13,12,7,5,6] Z (br Z (js Z (jf [83,82,13,12,7,5,6] Z (br Z (js Z (ae (aM O Z Z Z Z Z) Z (jf [85,13,12,7,5,6] Z (jn (ab Z (fun z85=>?_) (fun z85=>?_))))))))))))))))))))))))))))
 exact fN z85
 refine al (ac (aa Z (jf [105,104,13,12,7,5,6] Z (af O Z Z Z Z (hRn) (ak Z) Z Z Z Z (B0:=107000) Z Z (aE Z (js Z (jf [110,109,108,107,13,12,7,5,6] Z (jl Z (ax ?_)))))))))
 refine jo Z (ax ?_)
 refine az (Ent.freeze 16 (e':=[(16,_),(5,_),(6,_),(7,_),(12,_),(108,_),(109,_),(110,_)]) Z (.cons Z (.c (.box (cs:=Sx.data u) Z (aQ Z))) (fe [5,6,7,12,108,109,110] Z)) (.skip .nil)) ?_
 refine ax ?_
 refine bi Z (jf [19,18,17,16,5,6,7,12] Z (jn (aj (ac (aa Z (jf [112,18,17,16,5,6,7,12] Z (jn (ab Z (fun z112=>?_) (fun z112=>?_)))))))))
 exact fN z112
 refine al (aj (ac (aa Z (jf [114,18,17,16,5,6,7,12] Z (jn (ab Z (fun z114=>?_) (fun z114=>?_)))))))
 refine ac (js Z (jr ?_))
 refine aO Z ?_
 exact .v (.c .d)
 exact absurd (decide_eq_true ho) (by rw[z114];decide)
theorem rf{t:bQ}(h0:(bif decide ((48:Int)<xs.length)then true else decide ((48:Int)<ys.length))=false)(hx80:x.length≤80)(hy80:y.length≤80)(hC:MQ h1 h2 6 [.c (.d (bys xs))] [] (Plain (aJ x)))(hC2:MQ h1 h2 6 [.c (.d (bys ys))] [] (Plain (aJ y)))(hSt:MQ h1 h2 7 [.c (.d (bys ys))] [] (Plain (em s)))(hT:MQ h1 h2 8 [aJ x] [] (Plain (.tup [fz t,eB true])))(hR:MQ h1 h2 9 [fz t] [] (Plain (.tup [aJ x,eB true])))(hJ:MQ h1 h2 11 [aJ x,aJ y] [] (Plain (.tup [aJ w,eB true])))(hH:MQ h1 h2 12 [aJ x] [] (Plain (.tup [bt hs,eB true])))(hRn:MQ h1 h2 14 [aJ x,em s,eI 200] [] (Plain (.tup [em u,bt e,eI o,eB true])))(ho: ¬o=1)(ho2: ¬o=0)(hW:MQ h1 h2 14 [aJ w,em s,eI 200] [] (Plain (.tup [em u,bt e,eI o,eB true]))):MQ h1 h2 3 [.c (.d (bys xs)),.c (.d (bys ys))] [] (Plain (eB true)):=by
 refine MC.data (jB 228 h1 h2 Tryz.func3 Z fun O hF=>?_)
 refine ac (js Z (jn (aj (ac (aa Z (aS Z (kC (xs:=xs) (ys:=ys) h1 h2) 41000 Z (jf [40,4,0,1] Z (jn (ab Z (fun z40=>?_) (fun z40=>?_))))))))))
 exact absurd z40 (by rw[h0];decide)
 refine al (ac (js Z (jf [41,4,0,1] Z (af O Z Z Z Z (hC) (ak Z) Z Z Z Z (B0:=43000) Z Z (js Z (jf [5,4,0,1] Z (bc (js Z (af O Z Z Z Z (hC2) (ak Z) Z Z Z Z (B0:=45000) Z Z (js Z (jf [6,5,4,0,1] Z (bc (js Z (af O Z Z Z Z (hSt) (ak Z) Z Z Z Z (B0:=47000) Z Z (jf [46,6,5,4,0,1] Z (jl Z (ax ?_)))))))))))))))))
 refine jo Z (ax ?_)
 refine az (Ent.freeze 7 (e':=[(7,_),(5,_),(6,_)]) Z (.cons Z (.c (.box (cs:=Sx.data s) Z (aQ Z))) (fe [5,6] Z)) (.skip .nil)) ?_
 refine ax ?_
 refine bc (js Z (af O Z Z Z Z (hT) (ak Z) Z Z Z Z (B0:=50000) Z Z (aE Z (js Z (jf [9,8,7,5,6] Z (bc (js Z (jf [53,9,7,5,6] Z (af O Z Z Z Z (hR) (ak Z) Z Z Z Z (B0:=55000) Z Z (aE Z (js Z (jf [11,10,9,7,5,6] Z (jn (aj (ac (bi Z (jf [59,11,10,7,5,6] Z (br Z (js Z (jf [60,59,10,7,5,6] Z (br Z (js Z (ae (aM O Z Z Z Z Z) Z (js Z (jf [63,10,7,5,6] Z (br Z (js Z (jf [64,63,7,5,6] Z (br Z ?_)))))))))))))))))))))))))))))
 refine js Z (br Z (aS Z (kB (c:=x) h1 h2) 67000 Z (jf [66,63,7,5,6] Z (br Z (js Z (ae (aM O Z Z Z Z Z) Z (jf [68,7,5,6] Z (jn (ab Z (fun z68=>?_) (fun z68=>?_))))))))))
 exact fN z68
 refine al (ac (aa Z (jf [71,70,7,5,6] Z (af O Z Z Z Z (hJ) (ak Z) Z Z Z Z (B0:=73000) Z Z (aE Z (js Z (jf [13,12,7,5,6] Z (bc (js Z (af O Z Z Z Z (hH) (ak Z) Z Z Z Z (B0:=78000) Z Z (aE Z (js Z (jf [15,13,12,7,5,6] Z (jn (aj (ac (bi Z (jf [82,15,13,12,7,5,6] Z (br Z (js Z (jf [83,82,13,12,7,5,6] Z (br Z (js Z (ae (aM O Z Z Z Z Z) Z (jf [85,13,12,7,5,6] Z (jn (ab Z (fun z85=>?_) (fun z85=>?_))))))))))))))))))))))))))))
 exact fN z85
 refine al (ac (aa Z (jf [105,104,13,12,7,5,6] Z (af O Z Z Z Z (hRn) (ak Z) Z Z Z Z (B0:=107000) Z Z (aE Z (js Z (jf [110,109,108,107,13,12,7,5,6] Z (jl Z (ax ?_)))))))))
 refine jo Z (ax ?_)
 refine az (Ent.freeze 16 (e':=[(16,_),(5,_),(6,_),(7,_),(12,_),(108,_),(109,_),(110,_)]) Z (.cons Z (.c (.box (cs:=Sx.data u) Z (aQ Z))) (fe [5,6,7,12,108,109,110] Z)) (.skip .nil)) ?_
 refine ax ?_
 refine bi Z (jf [19,18,17,16,5,6,7,12] Z (jn (aj (ac (aa Z (jf [112,18,17,16,5,6,7,12] Z (jn (ab Z (fun z112=>?_) (fun z112=>?_)))))))))
 exact fN z112
 refine al (aj (ac (aa Z (jf [114,18,17,16,5,6,7,12] Z (jn (ab Z (fun z114=>?_) (fun z114=>?_)))))))
 exact absurd (aB z114) ho
 refine al (aj (ac (aa Z (jf [116,18,17,16,5,6,7,12] Z (jn (ab Z (fun z116=>?_) (fun z116=>?_)))))))
 refine ac (aa Z (jf [119,118,18,17,16,5,6,7,12] Z (af O Z Z Z Z (hW) (ak Z) Z Z Z Z (B0:=121000) Z Z (aE Z (js Z (jf [124,123,122,121,18,17,16,5,6,7,12] Z (jl Z (ax ?_))))))))
 refine jo Z (ax ?_)
 refine az (Ent.freeze 20 (e':=[(20,_),(16,_),(17,_),(18,_),(122,_),(123,_),(124,_)]) Z (.cons Z (.c (.box (cs:=Sx.data u) Z (aQ Z))) (fe [16,17,18,122,123,124] Z)) (.skip .nil)) ?_
 refine ax ?_
 refine bi Z (jf [23,22,21,20,16,17,18] Z (bc (aa Z (jf [126,22,21,20,16,17,18] Z (br Z (js Z (jf [127,126,21,20,16,17,18] Z (br Z (js Z (br Z (ae ((V Z).cast (v':=eB true) (congrArg eB (decide_eq_true Z))) Z (ae (bp O Z Z Z Z Z) Z (js Z (jf [131,21,20,16,17,18] Z (br Z (js Z (jf [132,131,20,16,17,18] Z (br Z (js Z (br Z (aS Z ((mn (xs:=e) (ys:=e) h1 h2).plain (u:=eB true) (congrArg eB (decide_eq_true Z))) 135000 Z (ae (bp O Z Z Z Z Z) Z (js Z (jf [136,20,16,17,18] Z (br Z (js Z (br Z (js Z (br Z ?_)))))))))))))))))))))))))))))
 refine aS Z (qv (s:=u) h1 h2) 140000 Z (ae (bp O Z Z Z Z Z) Z (js Z (jf [4,20,16,17,18] Z (jr ?_))))
 refine aO Z ?_
 exact .v (.c .d)
 exact absurd (by simpa using z116) ho2
theorem rh{t:bQ}(h0:(bif decide ((48:Int)<xs.length)then true else decide ((48:Int)<ys.length))=false)(hx80:x.length≤80)(hy80:y.length≤80)(hC:MQ h1 h2 6 [.c (.d (bys xs))] [] (Plain (aJ x)))(hC2:MQ h1 h2 6 [.c (.d (bys ys))] [] (Plain (aJ y)))(hSt:MQ h1 h2 7 [.c (.d (bys ys))] [] (Plain (em s)))(hT:MQ h1 h2 8 [aJ x] [] (Plain (.tup [fz t,eB true])))(hR:MQ h1 h2 9 [fz t] [] (Plain (.tup [aJ x,eB true])))(hJ:MQ h1 h2 11 [aJ x,aJ y] [] (Plain (.tup [aJ w,eB true])))(hH:MQ h1 h2 12 [aJ x] [] (Plain (.tup [bt hs,eB true])))(hRn:MQ h1 h2 14 [aJ x,em s,eI 200] [] (Plain (.tup [em u,bt e,eI o,eB true]))){u2:Sx}{e2 cn:List Int}{o2:Int}(ho:o=0)(hhl:hs.length=x.length)(hCn:MQ h1 h2 17 [aJ x,em s,eI 200] [] (Plain (.tup [bt cn,eB true])))(hcs: ∀i,i≤cn.length→0≤(cn.take i).sum∧(cn.take i).sum≤100000)(hel:e.length≤2000)(hel2:e2.length≤2000)(hY:MQ h1 h2 14 [aJ y,em u,eI 200] [] (Plain (.tup [em u2,bt e2,eI o2,eB true])))(hW:(∀i,i<x.length→(x.getD i default).op=11→hs.getD i default≤0)→MQ h1 h2 14 [aJ w,em s,eI (cn.sum+1+200)] [] (Plain (.tup [em u2,bt (e++e2),eI o2,eB true]))):MQ h1 h2 3 [.c (.d (bys xs)),.c (.d (bys ys))] [] (Plain (eB true)):=by
 refine MC.data (jB 228 h1 h2 Tryz.func3 Z fun O hF=>?_)
 have hcn:=hcs cn.length (cJ _)
 rw[List.take_length]at hcn
 refine ac (js Z (jn (aj (ac (aa Z (aS Z (kC (xs:=xs) (ys:=ys) h1 h2) 41000 Z (jf [40,4,0,1] Z (jn (ab Z (fun z40=>?_) (fun z40=>?_))))))))))
 exact absurd z40 (by rw[h0];decide)
 refine al (ac (js Z (jf [41,4,0,1] Z (af O Z Z Z Z (hC) (ak Z) Z Z Z Z (B0:=43000) Z Z (js Z (jf [5,4,0,1] Z (bc (js Z (af O Z Z Z Z (hC2) (ak Z) Z Z Z Z (B0:=45000) Z Z (js Z (jf [6,5,4,0,1] Z (bc (js Z (af O Z Z Z Z (hSt) (ak Z) Z Z Z Z (B0:=47000) Z Z (jf [46,6,5,4,0,1] Z (jl Z (ax ?_)))))))))))))))))
 refine jo Z (ax ?_)
 refine az (Ent.freeze 7 (e':=[(7,_),(5,_),(6,_)]) Z (.cons Z (.c (.box (cs:=Sx.data s) Z (aQ Z))) (fe [5,6] Z)) (.skip .nil)) ?_
 refine ax ?_
 refine bc (js Z (af O Z Z Z Z (hT) (ak Z) Z Z Z Z (B0:=50000) Z Z (aE Z (js Z (jf [9,8,7,5,6] Z (bc (js Z (jf [53,9,7,5,6] Z (af O Z Z Z Z (hR) (ak Z) Z Z Z Z (B0:=55000) Z Z (aE Z (js Z (jf [11,10,9,7,5,6] Z (jn (aj (ac (bi Z (jf [59,11,10,7,5,6] Z (br Z (js Z (jf [60,59,10,7,5,6] Z (br Z (js Z (ae (aM O Z Z Z Z Z) Z (js Z (jf [63,10,7,5,6] Z (br Z (js Z (jf [64,63,7,5,6] Z (br Z ?_)))))))))))))))))))))))))))))
 refine js Z (br Z (aS Z (kB (c:=x) h1 h2) 67000 Z (jf [66,63,7,5,6] Z (br Z (js Z (ae (aM O Z Z Z Z Z) Z (jf [68,7,5,6] Z (jn (ab Z (fun z68=>?_) (fun z68=>?_))))))))))
 exact fN z68
 refine al (ac (aa Z (jf [71,70,7,5,6] Z (af O Z Z Z Z (hJ) (ak Z) Z Z Z Z (B0:=73000) Z Z (aE Z (js Z (jf [13,12,7,5,6] Z (bc (js Z (af O Z Z Z Z (hH) (ak Z) Z Z Z Z (B0:=78000) Z Z (aE Z (js Z (jf [15,13,12,7,5,6] Z (jn (aj (ac (bi Z (jf [82,15,13,12,7,5,6] Z (br Z (js Z (jf [83,82,13,12,7,5,6] Z (br Z (js Z (ae (aM O Z Z Z Z Z) Z (jf [85,13,12,7,5,6] Z (jn (ab Z (fun z85=>?_) (fun z85=>?_))))))))))))))))))))))))))))
 exact fN z85
 refine al (ac (aa Z (jf [105,104,13,12,7,5,6] Z (af O Z Z Z Z (hRn) (ak Z) Z Z Z Z (B0:=107000) Z Z (aE Z (js Z (jf [110,109,108,107,13,12,7,5,6] Z (jl Z (ax ?_)))))))))
 refine jo Z (ax ?_)
 refine az (Ent.freeze 16 (e':=[(16,_),(5,_),(6,_),(7,_),(12,_),(108,_),(109,_),(110,_)]) Z (.cons Z (.c (.box (cs:=Sx.data u) Z (aQ Z))) (fe [5,6,7,12,108,109,110] Z)) (.skip .nil)) ?_
 refine ax ?_
 refine bi Z (jf [19,18,17,16,5,6,7,12] Z (jn (aj (ac (aa Z (jf [112,18,17,16,5,6,7,12] Z (jn (ab Z (fun z112=>?_) (fun z112=>?_)))))))))
 exact fN z112
 refine al (aj (ac (aa Z (jf [114,18,17,16,5,6,7,12] Z (jn (ab Z (fun z114=>?_) (fun z114=>?_)))))))
 exact absurd ((aB z114).symm.trans ho) (by decide)
 refine al (aj (ac (aa Z (jf [116,18,17,16,5,6,7,12] Z (jn (ab Z (fun z116=>?_) (fun z116=>?_)))))))
 exact absurd ho (by simpa using z116)
 refine al (ac (aa Z (jf [143,142,18,17,16,5,6,7,12] Z (af O Z Z Z Z (hCn) (ak Z) Z Z Z Z (B0:=145000) Z Z (aE Z (js Z (jf [25,24,18,17,16,5,6,7,12] Z (bc (js Z (af O Z Z Z Z (hH) (ak Z) Z Z Z Z (B0:=150000) Z Z (aE Z (js Z (jf [27,26,25,24,18,17,16,5,6,7,12] Z (jn (aj (ac (bi Z (jf [154,27,26,24,18,17,16,5,6,7,12] Z (br Z (js Z (jf [155,154,26,24,18,17,16,5,6,7,12] Z (br Z (js Z (ae (aM O Z Z Z Z Z) Z (js Z (jf [158,26,24,18,17,16,5,6,7,12] Z (br Z (js Z (br Z ?_)))))))))))))))))))))))))))))
 first|refine cW Z ?_|refine js Z ?_|refine bP Z Z ?_
 refine jf [160,158,26,24,18,17,16,5,6,7,12] Z (br Z (js Z (br Z ?_)))
 first|refine cW Z ?_|refine js Z ?_|refine bP Z Z ?_
 refine jf [162,160,158,26,24,18,17,16,5,6,7,12] Z (br Z (ae ((V Z).cast (v':=eB false) (congrArg eB (by rw[hhl];simp))) Z (ae (aM O Z Z Z Z Z) Z (jf [164,26,24,18,17,16,5,6,7,12] Z (jn (ab Z (fun z164=>?_) (fun z164=>?_)))))))
 exact fN z164
 refine al (aj (ac (js Z (jn (au (aK (X:=Nat) (fun k=>⟨[(5,aJ x),(6,aJ y),(7,ptr (Sx.data s)),(12,aJ w),(16,ptr (Sx.data u)),(17,bt e),(24,bt cn),(26,bt hs),(28,eI k)],[]⟩) (fun k=>k≤x.length∧∀i,i<k→(x.getD i default).op=11→hs.getD i default≤0) (fun k=>x.length-k) 0 (Ent.to ⟨Z,Z,Z,Z,Z,Z,Z,Z,Z,aD⟩ Z) ?_ (fun k hi=>?_)))))))
 exact⟨fK _,fun i hi=>absurd hi (Nat.not_lt_zero i)⟩
 refine aj (ac (aa Z ?_))
 first|refine cW Z ?_|refine js Z ?_|refine bP Z Z ?_
 refine js Z (jf [168,5,6,7,12,16,17,24,26,28] Z (jn (ab Z (fun z168=>?_) (fun z168=>?_))))
 refine al (aj (au (ac ?_)))
 have hkn:k<x.length:=by have:=aB z168;omega
 have hkh:k<hs.length:=by omega
 refine aa Z ?_
 first|refine tW Z Z ?_|refine rI Z Z ?_|refine bP Z Z ?_
 refine aE Z (jf [177,168,5,6,7,12,16,17,24,26,28] Z (bz 5 Z Z Z (fun hx=>ba hx Z (ba hx Z (dz hx (vN Z) Z (ba hx Z (ba hx Z (AN.nil)))))) Z Z ?_))
 first|refine ae (aU O Z Z Z Z Z) Z ?_|refine ae (bq O Z Z Z Z Z) Z ?_|refine ae (Val.pickB O Z Z Z Z Z) Z ?_
 refine jf [183,168,5,6,7,12,16,17,24,26,28] Z (jn (ab Z (fun z183=>?_) (fun z183=>?_)))
 refine ac (js Z (jr ?_))
 refine aO Z ?_
 exact .v (.c .d)
 refine al (ag (js Z ?_))
 first|refine ji Z ?_|refine bP Z Z ?_
 refine js Z (jf [28,183,168,5,6,7,12,16,17,24,26] Z (jn ?_))
 refine⟨k+1,Ent.to ⟨Z,Z,Z,Z,Z,Z,Z,Z,Z,aD⟩ Z,⟨by omega,fun i hi9 h11=>?_⟩,by omega⟩
 rcases Nat.lt_or_ge i k with h9|h9
 exact hi.2 i h9 h11
 obtain rfl:i=k:=by omega
 exact uK z183 h11
 refine bL (ac ?_)
 obtain rfl:k=x.length:=by have:=bo z168;omega
 have hz:=hi.2
 refine js Z (aS Z (s7 (xs:=cn) h1 h2 hcs) 186000 Z (ae (ah O Z Z (by omega) (by omega)) Z (js Z (jf [29,168,5,6,7,12,16,17,24,26,28] Z (bc (aa Z (af O Z Z Z Z (hY) (ak Z) Z Z Z Z (B0:=191000) Z Z (aE Z (js Z (jf [194,193,192,191,29,168,5,6,7,12,16,17,24,26,28] Z (jl Z (ax ?_))))))))))))
 refine jo Z (ax ?_)
 refine az (Ent.freeze 30 (e':=[(30,_),(7,_),(12,_),(17,_),(29,_),(192,_),(193,_),(194,_)]) Z (.cons Z (.c (.box (cs:=Sx.data u2) Z (aQ Z))) (fe [7,12,17,29,192,193,194] Z)) (.skip .nil)) ?_
 refine ax ?_
 refine bi Z (jf [33,32,31,30,7,12,17,29] Z (bc (bi Z (ae (ah O Z Z (by omega) (by omega)) Z (jf [199,197,196,33,32,31,30,7,12,17] Z (af O Z Z Z Z (hW hz) (ak Z) Z Z Z Z (B0:=201000) Z Z (aE Z (js Z (jf [204,203,202,201,33,32,31,30,7,12,17] Z (jl Z (ax ?_)))))))))))
 refine jo Z (ax ?_)
 refine az (Ent.freeze 34 (e':=[(34,_),(30,_),(31,_),(32,_),(33,_),(17,_),(202,_),(203,_),(204,_)]) Z (.cons Z (.c (.box (cs:=Sx.data u2) Z (aQ Z))) (fe [30,31,32,33,17,202,203,204] Z)) (.skip .nil)) ?_
 refine ax ?_
 refine bi Z (jf [37,36,35,34,30,31,32,33,17] Z (bc (aa Z (jf [206,37,36,35,34,30,31,32,17] Z (br Z (js Z (ae (bp O Z Z Z Z Z) Z (js Z (jf [209,36,35,34,30,31,32,17] Z (br Z (js Z (jf [210,209,35,34,30,31,32,17] Z (br Z (js Z (jf [211,210,209,35,34,30,31,17] Z (br Z (ae ((V Z).cast (v':=eB true) (congrArg eB (decide_eq_true Z))) Z (ae (bp O Z Z Z Z Z) Z (js Z (jf [214,35,34,30,31,17] Z (br Z (js Z (br Z (js Z (br Z (aS Z (qv (s:=u2) h1 h2) 218000 Z (ae (bp O Z Z Z Z Z) Z (js Z (jf [219,35,34,30,31,17] Z ?_)))))))))))))))))))))))))))))
 refine br Z (js Z (jf [220,219,34,30,31,17] Z (br Z (bg (HS.lit O Z Z Z) Z (ax ?_)))))
 refine br Z (js Z (br Z (bg (ik (own:=true) (xs:=[]) (ys:=e.map (fun n:Int=>[D.int .i64 n])) (zs:=e.map (fun n:Int=>[D.int .i64 n])) (n:=e.length) O Z (.row Z Z) (.slc (.inr (Scal.map fun _=>rfl))) (by simp) Z (by simp;omega) (by simp;omega) Z (by simp)) Z (ax ?_))))
 refine ax ?_
 refine jf [223,220,219,34,30,31,17] Z (br Z (js Z (jf [224,223,220,219,34,30,17] Z (br Z (bg (ik (own:=true) (xs:=e.map (fun n:Int=>[D.int .i64 n])) (ys:=e2.map (fun n:Int=>[D.int .i64 n])) (zs:=(e++e2).map (fun n:Int=>[D.int .i64 n])) (n:=(e++e2).length) O Z (.row Z (cV _).symm) (.slc (.inr (Scal.map fun _=>rfl))) (by simp) Z (by simp;omega) (by simp;omega) (by rw[List.map_append]) (by simp)) Z (ax ?_))))))
 refine az (aI [225] (e':=[(219,_),(220,_),(225,_)]) Z Z ⟨Z,Z,Z,aD⟩ Z) (az (Ent.freeze 225 (e':=[(219,_),(220,_),(225,_)]) Z (.cons Z (.keep Z) (.cons Z (.keep Z) (.cons Z (.c (.row Z (cV _).symm)) .nil))) (.skip .nil)) ?_)
 refine ax ?_
 refine br Z (aS Z ((mn (xs:=e++e2) (ys:=e++e2) h1 h2).plain (u:=eB true) (congrArg eB (decide_eq_true Z))) 227000 Z (ae (bp O Z Z Z Z Z) Z (js Z (jf [4] Z (jr ?_)))))
 refine aO Z ?_
 exact .v (.c .d)
end Go.Al
/- The law about joined code holds for all bytes. -/
namespace Go.Al
variable{L:Nat}(h1:4096≤L)(h2:L≤1073741824)
theorem RnOk.run{code:List In}{F:Nat}(hc:bm code=true): ∀{k:Nat} {r:Rn},RnOk code F k r→COk (aN code k r).c∧(aN code k r).cnt.length=code.length∧(∀n∈(aN code k r).cnt,0≤n∧n≤F)∧(aN code k r).ev.length≤F
  | 0,r,h=>by rw[fC];exact⟨h.ok,h.cl,fun n hn=>by have:=h.cb n hn;omega,by have:=h.el;show r.ev.length≤F;omega⟩
  | k + 1,r,h=>by
    have base:COk r.c∧r.cnt.length=code.length∧(∀n∈r.cnt,0≤n∧n≤F)∧r.ev.length≤F:=⟨h.ok,h.cl,fun n hn=>by have:=h.cb n hn;omega,by have:=h.el;omega⟩
    by_cases hi:ln code r.c∧b9 (xM code r.c) r.c.stack.length=false
    · by_cases h6:bb (xM code r.c) r.c=6
      · rw[fB hi.1 hi.2 h6];exact base
      · by_cases h0:bb (xM code r.c) r.c=0
        · rw[cD hi.1 hi.2 h0];exact RnOk.run hc (h.next hc hi.1 hi.2 h0)
        · rw[eD hi.1 hi.2 h6 h0];exact base
    · rw[dW hi];exact base
theorem qQ{c:Cf}(h:COk c):lr ⟨c.vars,c.cells⟩=true:=by
 unfold lr cN
 simp only[bj,decide_eq_true_eq,List.all_eq_true]
 have h1:=h.vl
 have h2:=h.cl
 exact⟨⟨h.vb,by omega⟩,⟨h.cb,by omega⟩⟩
theorem n0{B:Int}(hB:0≤B): ∀{xs:List Int},(∀n∈xs,0≤n∧n≤B)→0≤xs.sum∧xs.sum≤B*xs.length
 | [],_=>by simp
 | x::xs,h=>by
  have ih:=n0 hB (xs:=xs) fun n hn=>h n (List.mem_cons_of_mem _ hn)
  have:=h x List.mem_cons_self
  rw[List.sum_cons,jN,Int.natCast_add,Int.mul_add]
  show 0≤x+xs.sum∧x+xs.sum≤B*xs.length+B*1
  omega
theorem pY{c:List In}{h:List Int}(e:pi c qT=some h):HOk c qT h:=by
 unfold pi at e
 split at e
 rename_i a;cases e;exact Classical.choose_spec a
 cases e
theorem law1521a{xs ys:List Int}(hx: ∀n∈xs,0≤n∧n≤255)(hy: ∀n∈ys,0≤n∧n≤255)(h0:(bif decide ((48:Int)<xs.length)then true else decide ((48:Int)<ys.length))=false):MC Tryz.prog 1073741824 3 [.c (.d (bys xs)),.c (.d (bys ys))] [] (Plain (eB true)):=by
 have h1:4096≤1073741824:=by decide
 have h2:1073741824≤1073741824:=cJ _
 have h3:1048576<1073741824:=by decide
 have hcx:=ol (s:=⟨xs,0,0⟩) ⟨hx⟩
 have hcy:=ol (s:=⟨ys,0,0⟩) ⟨hy⟩
 have hst:lr (kt ⟨ys,0,0⟩).1=true:=by
  obtain⟨a,b,_⟩:=q9 (s:=⟨ys,0,0⟩) ⟨hy⟩
  unfold lr;rw[a,b];rfl
 have hC:=qC h1 h2 hx
 have hC2:=qC h1 h2 hy
 have hS:=tC h1 h2 hy
 generalize (mb ⟨xs,0,0⟩).1=x at hcx hC
 generalize (mb ⟨ys,0,0⟩).1=y at hcy hC2
 generalize (kt ⟨ys,0,0⟩).1=s at hst hS
 obtain⟨hx1,hx2,hx3⟩:=bO hcx
 obtain⟨hy1,hy2,hy3⟩:=bO hcy
 have hT:=tb h1 h2 hcx
 have hR:=ta h1 h2 hcx h3
 have hJ:=s9 h1 h2 hcx hcy (by omega) (by omega)
 have hH:=tE h1 h2 hcx hx3 (by omega)
 have hjn:=qW hcx hcy
 have hA:bm (bA x y)=false→(bif decide ((80:Int)<(x.length:Int)+(y.length:Int))then true else !eC y (80-(x.length:Int)))=true:=fun h=>by
  by_cases h9:(80:Int)<(x.length:Int)+(y.length:Int)
  · rw[decide_eq_true h9];rfl
  · rw[decide_eq_false h9]
    cases hn:eC y (80-(x.length:Int))with
    | false=>rfl
    | true=>rw[hjn.2 ⟨by omega,hn⟩]at h;cases h
 cases hq:pi x qT with
 | none=>
  rw[hq]at hH
  have hH2:MC Tryz.prog 1073741824 12 [aJ x] [] (Plain (.tup [bt [],eB false])):=MC.frozen hH (.tup (.cons (.c .nils) (.cons (.c .d) .nil)))
  cases hj:bm (bA x y)with
  | true=>rw[hj,if_pos Z]at hJ;exact rj h1 h2 h0 hx3 hy3 hC hC2 hS hT hR hJ hH2
  | false=>rw[hj]at hJ;exact oo h1 h2 h0 hx3 hy3 hC hC2 hS hT hR hJ hH2 (hA hj)
 | some h=>
  rw[hq]at hH
  have hh:=pY hq
  have hH2:MC Tryz.prog 1073741824 12 [aJ x] [] (Plain (.tup [bt h,eB true])):=MC.frozen hH (.tup (.cons (.c (.whole Z (cV _).symm)) (.cons (.c .d) .nil)))
  cases hj:bm (bA x y)with
  | false=>rw[hj]at hJ;exact oo h1 h2 h0 hx3 hy3 hC hC2 hS hT hR hJ hH2 (hA hj)
  | true=>
   rw[hj,if_pos Z]at hJ
   have hRn:=jV (F:=200) h1 h2 hcx hst (by decide)
   have hCn:=rn (F:=200) h1 h2 hcx hst (by decide)
   obtain⟨r1,r2,r3,r4⟩:=RnOk.run hcx (RnOk.zero (code:=x) (s:=s) (F:=200) hst)
   have js:=mX (y:=y) hh (by omega) (s:=s) (n:=200)
   have jg:=pV (y:=y) hh (by omega) (fun i hi h9=>(nW (hy1 i hi) h9).1) (s:=s) (n:=200) (k:=200)
   generalize aN x 200 (ch x s)=R at hRn hCn r1 r2 r3 r4 js jg
   have hRn2:MC Tryz.prog 1073741824 14 [aJ x,em s,eI 200] [] (Plain (.tup [em (kv R),bt R.ev,eI R.out,eB true])):=hRn
   by_cases o1:R.out=1
   exact ri h1 h2 h0 hx3 hy3 hC hC2 hS hT hR hJ hH2 hRn2 o1
   by_cases o0:R.out=0
   have hu:lr (kv R)=true:=qQ r1
   have hY:=jV (F:=200) h1 h2 hcy hu (by decide)
   obtain⟨_,_,_,q4⟩:=RnOk.run hcy (RnOk.zero (code:=y) (s:=kv R) (F:=200) hu)
   have jg:=jg o0
   generalize aN y 200 (ch y (kv R))=R2 at hY q4 jg
   have hY2:MC Tryz.prog 1073741824 14 [aJ y,em (kv R),eI 200] [] (Plain (.tup [em (kv R2),bt R2.ev,eI R2.out,eB true])):=hY
   refine rh h1 h2 h0 hx3 hy3 hC hC2 hS hT hR hJ hH2 hRn2 o0 hh.len hCn (fun i hi=>?_) (by omega) (by omega) hY2 fun hz=>?_
   have:=n0 (B:=200) (by decide) (xs:=R.cnt.take i) fun n hn=>r3 n (List.mem_of_mem_take hn)
   rw[List.length_take]at this
   omega
   obtain⟨m,m1,m2,e1,e2,e3⟩:=jg hz
   have hW:=jV (code:=bA x y) (s:=s) (F:=m+1+200) h1 h2 hj hst (by omega)
   generalize aN (bA x y) (m+1+200) (ch (bA x y) s)=W at hW e1 e2 e3
   have hW2:MC Tryz.prog 1073741824 14 [aJ (bA x y),em s,eI ((m+1+200:Nat):Int)] [] (Plain (.tup [em (kv W),bt W.ev,eI W.out,eB true])):=hW
   rw[e1,e2,e3,show((m+1+200:Nat):Int)=R.cnt.sum+1+200 by omega]at hW2
   exact hW2
   obtain⟨e1,e2,e3⟩:=js o0
   have hW:=jV (code:=bA x y) (s:=s) (F:=200) h1 h2 hj hst (by decide)
   generalize aN (bA x y) 200 (ch (bA x y) s)=W at hW e1 e2 e3
   have hW2:MC Tryz.prog 1073741824 14 [aJ (bA x y),em s,eI 200] [] (Plain (.tup [em (kv W),bt W.ev,eI W.out,eB true])):=hW
   rw[e1,e2,e3]at hW2
   exact rf h1 h2 h0 hx3 hy3 hC hC2 hS hT hR hJ hH2 hRn2 o1 o0 hW2
end Go.Al
/- What the rows of the texts share: what the package-level variables hold in every world that a row ranges over. -/
namespace Go.Proofs.YtdjlfclghdofoaaGreatDoor
open Go.ChangeShapes Go.WideShapes Go.ChangeAt Go.RowKit Go.Al
theorem wrapLaid{H:Type}{enc:TypeId×Value→H}{a:Assume}{C:Checked}{os:Os}{f:FuncId}{fn:Func}{s:ChangeSpec}{conds:List PathCond}{apart fresh handsOn again:Bool}{X:World→Array Value→Prop}
    (hX: ∀(w w':World) (args:Array Value),w.heap=w'.heap→X w args→X w' args)
    (own:ownKnob C.prog.godebug=none) (started:os.Started) (noInit:C.prog.inits.idxOf? f=none) (hfn:C.prog.funcs[f]? = some fn)
    (witness: ∃(w:World) (tape:Tape) (i:Input),w.os=os∧(w.forCall tape i).Shaped C.prog∧i.vars=[]∧Input.okWide C.prog (w.forCall tape i) .any w.heap.size f i∧
      ((s.pre enc C.prog fn conds apart (w.forCall tape i).memory i.args∧X (w.forCall tape i).memory i.args)∧sizedMet enc C.prog fn (OpenSpec.ofChange s) apart (w.forCall tape i).memory i.args)∧a.holds C.prog (lone (Frame.enter C.prog f i.args .normal) [] (w.forCall tape i)))
    (contract: ∀(W:World) (base:Nat) (args:Array Value) (ds gs:List (DataW H)) (before:List MemPlace),
      (∀(j:Nat) t v,fn.params[j]? = some t→args[j]? = some v→Value.okWide C.prog W .any base t v)→
      DataW.Whole enc C.prog fn.params.toList s.vars apart W args.toList ds gs before→X W args→W.ShapedOpen C.prog→
      Calls C.prog f args W fun e W'=> ∃v,e= .returned v∧s.post enc C.prog fn apart fresh handsOn again W args v W') :
    ReturnsInHanded a C os f .any (fun w args=>(s.pre enc C.prog fn conds apart w args∧X w args)∧sizedMet enc C.prog fn (OpenSpec.ofChange s) apart w args) (s.post enc C.prog fn apart fresh handsOn again):=by
 refine returnsInHanded_of_calls own started noInit witness ?_
 intro w tape i _ hsh _ hok hpre hholds
 obtain⟨_,_,_,fn',hfn',_,_,_,_,hval⟩:=hok
 have e:fn'=fn:=Option.some.inj (hfn'.symm.trans hfn)
 subst e
 obtain⟨⟨⟨ds,gs,before,hw,hc⟩,hx⟩,hz⟩:=hpre
 have hw':=DataW.Whole.of_heap (w':=w.forCall tape i) (by rfl) hw
 refine(contract (w.forCall tape i) w.heap.size i.args ds gs before hval hw' (hX _ _ _ (by rfl) hx) hsh).mono fun e W' ⟨v,he,hp⟩=>?_
 subst he
 exact ChangeSpec.post_blind hp
theorem gI{P:Program}{w:World}: ∀{l:List (String×DataW Unit)} {ps:List MemPlace},DataW.LaidVars P w l ps→∀{x:String×DataW Unit},x∈l→
    ∃g t cs fuel p,P.globalNamed x.1=some g∧(P.globals[g]?).map (·.type)=some t∧w.var? P x.1=some cs∧DataW.trod (fun _=>()) P w 0 (fun _=>true) false fuel t cs.toList=some (x.2,p)
 | [],_,_,_,h=>by cases h
 | (n,d)::l,_,h,x,hx=>by
  obtain⟨g,t,cs,fuel,p,q,hg,ht,hv,hd,hr,_⟩:=h
  rcases List.mem_cons.1 hx with rfl|hx
  exact⟨g,t,cs,fuel,p,hg,ht,hv,hd⟩
  exact gI hr hx
theorem pB{P:Program}{w:World}{n:Nat}{t e:TypeId}{fuel:Nat}{cs:Array Value}{zs:List Int}{p:List MemPlace}(ht:P.underlying t=some (.array n e))(he:P.underlying e=some (.int .u64))(hc:P.cellsOf t=n)(hce:P.cellsOf e=1)(hn:zs.length=n)
    (hd:DataW.trod (fun _:TypeId×Value=>()) P w 0 (fun _=>true) false fuel t cs.toList=some (.agg (zs.map fun z=>.lit (.int .u64 z)),p)):cs=(zs.map fun z=>Value.int .u64 z).toArray:=by
 obtain⟨xs,m,_,ex,hl,hxs,hel⟩:=DataW.trod_array ht hd
 have e3:(xs.map (·.1))=zs.map fun z=>.lit (.int .u64 z):=(DataW.agg.inj (Prod.mk.inj ex).1).symm
 have key:cs.toList=zs.map fun z=>Value.int .u64 z:=by
  refine List.ext_getElem (by simp[hl,hc,hn]) fun i h1 h2=>?_
  have hi:i<n:=by simpa[hn]using h2
  have hE:=hel i hi
  rw[hce,Nat.mul_one,List.getElem?_eq_getElem (by omega)]at hE
  obtain⟨z,e1,e2,_⟩:=DataW.trod_int he hE
  have e4:(xs.map (·.1))[i]? = (zs.map fun z=>(DataW.lit (.int .u64 z):DataW Unit))[i]? := by rw[e3]
  rw[List.getElem?_map,List.getElem?_map,List.getElem?_eq_getElem (by omega:i<xs.length),List.getElem?_eq_getElem (by omega:i<zs.length),e2]at e4
  simp only[Option.map_some,de,DataW.lit.injEq,Lit.int.injEq,true_and]at e4
  have h0:((cs.toList.drop i).take 1)[0]? = some (.int .u64 z):=by rw[e1];rfl
  have h3:cs.toList[i]? = some (.int .u64 z):=by simpa using h0
  rw[List.getElem?_eq_getElem h1]at h3
  rw[Option.some.inj h3,e4,List.getElem_map]
 rw[←key]
theorem mU:(Rows.laid_internal_strconv_uint64pow10:DataW Unit)= .agg (Lib.pow10Tab.map fun z=>.lit (.int .u64 z)):=by kernel_rfl
end Go.Proofs.YtdjlfclghdofoaaGreatDoor
/- The package-level variables of the rows that list four of them. -/
namespace Go.Proofs.YtdjlfclghdofoaaGreatDoor
open Go.ChangeShapes Go.WideShapes Go.ChangeAt Go.RowKit Go.Al
theorem n4: "*" ++ "errors.errorString" = "*errors.errorString" := by decide
theorem qm(u:TypeId)(h:Tryz.prog.typeName? 3 u=some "*errors.errorString"):u=249:=
  typeName_ptr_named (nm:= "errors.errorString") (by rw[n4];kernel_rfl) (by kernel_rfl) (by decide) u (by rw[n4];exact h)
theorem m9{W:World}{r:List (String×DataW Unit)}(h:laidMet Tryz.prog (("strconv.ErrRange",Rows.laid_strconv_ErrRange)::r) W): ∃cs,W.var? Tryz.prog "strconv.ErrRange" = some cs∧∃te pe,cs[0]? = some (Value.iface te pe):=by
 obtain⟨a,s,hv,_⟩:=laid_sentinel h (show Tryz.prog.globalNamed "strconv.ErrRange" = some 3 by kernel_rfl) (show(Tryz.prog.globals[3]?).map (·.type)=some 126 by kernel_rfl) Tryz.underlying126 qm Tryz.underlying249 Tryz.underlying251 rfl rfl Tryz.underlying9 (by kernel_rfl) (by kernel_rfl)
 exact⟨_,hv,_,_,Z⟩
theorem lR{W:World}{r:List (String×DataW Unit)}(h:laidMet Tryz.prog (("strconv.ErrSyntax",Rows.laid_strconv_ErrSyntax)::r) W): ∃cs,W.var? Tryz.prog "strconv.ErrSyntax" = some cs∧∃te pe,cs[0]? = some (Value.iface te pe):=by
 obtain⟨a,s,hv,_⟩:=laid_sentinel h (show Tryz.prog.globalNamed "strconv.ErrSyntax" = some 2 by kernel_rfl) (show(Tryz.prog.globals[2]?).map (·.type)=some 126 by kernel_rfl) Tryz.underlying126 qm Tryz.underlying249 Tryz.underlying251 rfl rfl Tryz.underlying9 (by kernel_rfl) (by kernel_rfl)
 exact⟨_,hv,_,_,Z⟩
theorem gok4{W:World}{laid r1 r2:List (String×DataW Unit)}(hl:laidMet Tryz.prog laid W)(hm:("internal/strconv.uint64pow10",Rows.laid_internal_strconv_uint64pow10)∈laid)(hR:laidMet Tryz.prog (("strconv.ErrRange",Rows.laid_strconv_ErrRange)::r1) W)(hS:laidMet Tryz.prog (("strconv.ErrSyntax",Rows.laid_strconv_ErrSyntax)::r2) W)(hs:W.ShapedOpen Tryz.prog):GOk Tryz.prog W okAll:=by
 intro n g hn hg
 refine⟨trivial,?_⟩
 simp only[GN,List.mem_cons,List.mem_nil_iff,or_false]at hn
 rcases hn with rfl|rfl|rfl|rfl
 obtain⟨ps,hv,_,_⟩:=hl
 obtain⟨g',t,cs,fuel,p,hg',ht,hv,hd⟩:=gI hv (x:=("internal/strconv.uint64pow10",Rows.laid_internal_strconv_uint64pow10)) hm
 obtain rfl:=Option.some.inj ((show Tryz.prog.globalNamed "internal/strconv.uint64pow10" = some 1 by kernel_rfl).symm.trans hg')
 obtain rfl:=Option.some.inj ((show(Tryz.prog.globals[1]?).map (·.type)=some 234 by kernel_rfl).symm.trans ht)
 refine⟨cs,hv,fun _=>?_,fun h=>absurd h (by simp),fun h=>absurd h (by simp)⟩
 refine pB (n:=20) (e:=112) Tryz.underlying234 Tryz.underlying112 (by kernel_rfl) (by kernel_rfl) Lib.pow10Tab_length (p:=p) (fuel:=fuel) (P:=Tryz.prog) (w:=W) ?_
 rw[←mU]
 exact hd
 obtain rfl:=Option.some.inj ((show Tryz.prog.globalNamed "internal/bytealg.MaxLen" = some 0 by kernel_rfl).symm.trans hg)
 obtain⟨m,hm⟩:=cell_of_shapedOpen_int (k:=.i64) (g:=0) (t:=3) (zero:= #[.int .i64 0]) hs (aB (by kernel_rfl)) (by kernel_rfl) rfl (by kernel_rfl) (by kernel_rfl) Tryz.underlying3
 have hm':=hm
 unfold World.cell? at hm'
 unfold World.var?
 rw[hg,Option.bind_some]
 cases hb:W.heap[0]? with
 | none=>simp[hb]at hm'
 | some o=>
  cases o with
  | cells cs c d=>exact⟨cs,Z,fun h=>absurd h (by simp),fun _=>⟨m,by simpa[hb]using hm'⟩,fun h=>absurd h (by simp)⟩
  | _=>simp[hb]at hm'
 obtain⟨cs,hv,te,pe,hc⟩:=lR hS
 exact⟨cs,hv,fun h=>absurd h (by simp),fun h=>absurd h (by simp),fun _=>⟨_,hc,.inr ⟨te,pe,Z⟩⟩⟩
 obtain⟨cs,hv,te,pe,hc⟩:=m9 hR
 exact⟨cs,hv,fun h=>absurd h (by simp),fun h=>absurd h (by simp),fun _=>⟨_,hc,.inr ⟨te,pe,Z⟩⟩⟩
end Go.Proofs.YtdjlfclghdofoaaGreatDoor
