/- The law, walked; what the package-level variables hold. -/
import Derived.Test.YtdlhjplhmmfnnaaGreatDoorH
import Derived.Test.YtdlhjplhmmfnnaaGreatDoorI
import Derived.Test.YtdlhjplhmmfnnaaGreatDoorE
import Derived.Test.YtdlhjplhmmfnnaaGreatDoorTie
import Derived.Test.YtdlhjplhmmfnnaaGreatDoorCards
import Derived.ProofKit
import Derived.OpenShut
import Derived.LaidMore
import Derived.LaidLaws
import Derived.Lay
import Derived.SevenTiedAt
import Derived.Shelf.Vars
import Derived.Stop.Joined
import Derived.Stop.LaidErr
set_option linter.unusedVariables false
set_option linter.unusedSimpArgs false
set_option maxRecDepth 10000
set_option maxHeartbeats 4000000
open Go.Proofs
namespace Go.Al
variable{L:Nat}(h1:4096≤L)(h2:L≤1073741824)
abbrev oR(k:Int)(p:List Nd):List Nd:=aR mN nN k p
abbrev nNl(p:List Nd):Nat:=cnt nN p

variable{ts:List (List Nd)}{k:Int}
theorem Ap(hk0:0≤k)(hk1:k+cnt nNl ts≤1073741824):MQ h1 h2 20 [.c (.rs 0 0 ts.length),eI k] [(0,dG ts)] (fW (eI (k+cnt nNl ts)) [(0,dG (aR oR nNl k ts))]):=by
 refine jH 19 [0] h1 h2 Tryz.func20 Z fun O hF=>?_
 refine eo 0 Z (fun hB=>?_)
 have hl:ts.length≤L:=by simpa[B.fact]using hB.1
 refine ae (js Z (jn (ag (ae (js Z (jn (am (av (X:=Nat) (fun i=>⟨[(0,.c (.rs 0 0 ts.length)),(1,eI (k+cnt nNl (ts.take i))),(5,eI i)],[(0,dG (mk oR nNl k i ts))]⟩) (fun i=>i≤ts.length) (fun i=>ts.length-i) 0 (Ent.to ⟨Z,by simp[bD,az,cnt],Z,ao⟩ (by simp[gh])) ?_ (fun i hi=>?_)))))))))
 exact ca _
 refine ag (ae (ac Z (aU Z Z (js Z (jf [9,0,1,5] Z (jn (ak Z (fun z9=>?_) (fun z9=>?_))))))))
 try simp only[aQ]at z9
 refine af (ag (am (ab ?_)))
 obtain⟨K,hK⟩: ∃K,K=k+(cnt nNl (ts.take i):Int):=⟨_,rfl⟩
 rw[←hK]
 have hcs:=c6 (sz:=nNl) (show i<ts.length by omega)
 have hcl:=fd (sz:=nNl) (l:=ts) (i:=i+1)
 have hg:=gO (f:=oR) (sz:=nNl) (k:=k) (show i<ts.length by omega)
 have hs:=fG (f:=oR) (sz:=nNl) (k:=k) (show i<ts.length by omega)
 rw[←getD_lt (show i<ts.length by omega)]at hcs hg hs
 obtain⟨t,ht⟩: ∃t,t=ts.getD i default:=⟨_,rfl⟩
 rw[←ht]at hcs hg hs
 rw[←hK]at hs
 simp only[nNl]at hcs
 have hb:K+(cnt nN t:Nat)≤1073741824:=by omega
 obtain⟨R,hR⟩: ∃R,R=(mk oR nNl k i ts).map nr:=⟨_,rfl⟩
 have hRl:i<R.length:=by rw[hR,bd,el];omega
 have hRi:R[i]? = some (nr t):=by rw[hR,List.getElem?_map,hg];rfl
 have hRn:R.set i (nr (oR K t))=(mk oR nNl k (i+1) ts).map nr:=by rw[hR,←hs,List.map_set]
 have e0:dG (mk oR nNl k i ts)= .row true 1 (R.set i (nr t)):=by rw[eh hRi,hR]
 rw[e0]
 refine ac Z (aU Z Z (aa (bv O (ex:=nr t) Z Z Z Z (by simp[hRl]) Z) Z (js Z (jf [16,15,9,0,1,5] Z (eG O (l:=0) (j:=0) (z:=5) (ex:=nr t) (ys:=(t).map Nd.cells) (ys':=(aR mN nN K t).map Nd.cells) (xs':=R.set i (nr (oR K t))) Z Z Z Z (.rp (.d Z .nil)) (.rp (.d Z .nil)) Z (by simp[hRl]) Z (Ce (ts:=t) (k:=K) h1 h2 (by omega) (by omega)).1 (fun _=>by rw[bd];exact Ce (ts:=t) h1 h2 (by omega) (by omega)) (fun hys=>?_) Z (by simp[aD]) Z Z Z Z (by simp) ?_)))))
 have hy:t=[]:=by simpa using hys
 rw[hy]
 exact(Bu h1 h2 (k:=K)).plain (by simp[cnt,hy])
 refine aB ?_
 refine js Z (jf [1,9,0,5] Z (jn (ab (js Z (ji Z (js Z (jf [5,1,9,0] Z (jn ?_))))))))
 refine⟨i+1,Ent.to ⟨Z,?_,Z,ao⟩ (by rw[dG,←hRn]),by omega,by omega⟩
 rw[hcs]
 exact congrArg (fun z=>some (eI z)) (by omega)
 try simp only[aQ]at z9
 refine aJ (ae (ac Z (jr ?_)))
 refine ay Z ?_
 obtain rfl:i=ts.length:=by omega
 rw[jd (bQ _),List.take_length]
 exact⟨Z,Z⟩
theorem Ao(hk0:0≤k)(hk1:k+cnt nNl ts≤1073741824):MQ h1 h2 22 [lP (aR oR nNl k ts),eI k] [] (Plain (eI (k+cnt nNl ts))):=by
 refine au ?_ Z
 refine jB 21 h1 h2 Tryz.func22 Z fun O hF=>?_
 have hlm:=aD (f:=oR) (sz:=nNl) (k:=k) (l:=ts)
 have hl:(aR oR nNl k ts).length≤L:=by simpa[As.fact,A.fact,M.fact,D.fact,Ds.fact]using hF.1.1
 refine ae (js Z (jn (ag (ae (js Z (jn (am (av (X:=Nat) (fun i=>⟨[(0,lP (aR oR nNl k ts)),(1,eI (k+cnt nNl (ts.take i))),(5,eI i)],[]⟩) (fun i=>i≤ts.length) (fun i=>ts.length-i) 0 (Ent.env ⟨Z,by simp[bD,az,cnt],Z,ao⟩) ?_ (fun i hi=>?_)))))))))
 exact ca _
 refine ag (ae (ac Z (cm Z (js Z (jf [9,0,1,5] Z (jn (ak Z (fun z9=>?_) (fun z9=>?_))))))))
 refine af (ag (am (ae ?_)))
 have hil:i<ts.length:=by have h9:=bc z9;omega
 have hg:=dM (f:=oR) (sz:=nNl) (k:=k) hil
 have hcs:=c6 (sz:=nNl) hil
 have hcl:=fd (sz:=nNl) (l:=ts) (i:=i+1)
 rw[←getD_lt hil]at hcs
 obtain⟨t,ht⟩: ∃t,t=ts.getD i default:=⟨_,rfl⟩
 rw[←ht]at hg hcs
 simp only[nNl]at hcs
 obtain⟨K,hK⟩: ∃K,K=k+(cnt nNl (ts.take i):Int):=⟨_,rfl⟩
 rw[←hK]at hg ⊢
 refine ac Z (aa ((aE O Z Z Z Z Z Z Z Z (cb (by omega))).cast (v':=ptr (nr (oR K t))) (by rw[hg])) Z (ac Z (jf [16,15,9,0,1,5] Z (aO Z (Aq (ts:=t) (k:=K) h1 h2 (by omega) (by omega)) 18000 Z (js Z (jf [1,9,0,5] Z (be (ac Z (jn (ak Z (fun z19=>?_) (fun z19=>?_)))))))))))
 exact absurd (bc z19) (by omega)
 refine af (ab (js Z (ji Z (js Z (jf [5,19,18,1,9,0] Z (jn ?_))))))
 refine⟨i+1,Ent.env ⟨Z,?_,Z,ao⟩,by omega,by omega⟩
 rw[hcs]
 exact congrArg (fun z=>some (eI z)) (by omega)
 refine aJ (ae (ac Z (jr ?_)))
 refine ay Z ?_
 have h9:=bw z9
 obtain rfl:i=ts.length:=by omega
 rw[List.take_length]
abbrev wy(p:Pk):List (Nat×B):=[(0,cV p.an.pre),(1,cV p.an.post),(2,fj p.an.code),(3,gA p.an.pts),(4,dG p.pf)]
def B2(k:Int)(p:Pk):Pk:=⟨p.nm,AI k p.an,aR oR nNl (k+cnt nT p.an.pre+cnt nT p.an.post+cnt nIn p.an.code+cnt nP p.an.pts) p.pf⟩
theorem wN{p:Pk}(hk0:0≤k)(hk1:k+cnt nT p.an.pre+cnt nT p.an.post+cnt nIn p.an.code+cnt nP p.an.pts+cnt nNl p.pf≤1073741824):MQ h1 h2 7 [yI p,eI k] (wy p) (fW (eI (k+cnt nT p.an.pre+cnt nT p.an.post+cnt nIn p.an.code+cnt nP p.an.pts+cnt nNl p.pf)) (wy (B2 k p))):=by
 refine k9 500 Z (jH 14 [500,501,502,503,504] h1 h2 Tryz.func7 Z fun O hF=>?_)
 refine ae (jx Z (aB ?_))
 refine js Z (be (aF Z (jf [7,6,4,2,0,1] Z (cu O [500,501,502,503] (bin:=[cV p.an.pre,cV p.an.post,fj p.an.code,gA p.an.pts]) Z Z Z Z (c27 (a:=p.an) (k:=k) h1 h2 hk0 (by omega)) Z Z Z Z Z Z (B0:=9000) Z Z (aB ?_)))))
 refine js Z (jf [1,4,2,0] Z (be (aF Z (jf [11,10,1,4,2,0] Z (cu O [504] (bin:=[dG p.pf]) Z Z Z Z (Ap (ts:=p.pf) (k:=k+cnt nT p.an.pre+cnt nT p.an.post+cnt nIn p.an.code+cnt nP p.an.pts) h1 h2 (by omega) (by omega)) Z Z Z Z Z Z (B0:=13000) Z Z (aB ?_))))))
 refine js Z (jf [1,4,2,0] Z (be (ac Z (jr ?_))))
 refine⟨.inl Z,_,aC [500,501,502,503,504] Z Z (e':=[(4,eI (k+cnt nT p.an.pre+cnt nT p.an.post+cnt nIn p.an.code+cnt nP p.an.pts+cnt nNl p.pf))]) ⟨Z,ao⟩ Z,_,Z,Z,Z⟩
theorem qD{p:Pk}(hk0:0≤k)(hk1:k+cnt nT p.an.pre+cnt nT p.an.post+cnt nIn p.an.code+cnt nP p.an.pts+cnt nNl p.pf≤1073741824):MQ h1 h2 8 [so (B2 k p),eI k] [] (Plain (eI (k+cnt nT p.an.pre+cnt nT p.an.post+cnt nIn p.an.code+cnt nP p.an.pts+cnt nNl p.pf))):=by
 refine au ?_ Z
 refine jB 18 h1 h2 Tryz.func8 Z fun O hF=>?_
 refine ae (jx Z (aB ?_))
 refine js Z (be (aF Z (jf [7,6,4,2,0,1] Z (aO Z (c28 (a:=p.an) (k:=k) h1 h2 hk0 (by omega)) 9000 Z (js Z (jf [1,4,2,0] Z (jn (ag (ae (ac Z (jn (ak Z (fun z10=>?_) (fun z10=>?_)))))))))))))
 exact absurd (bc z10) (by omega)
 refine af (ae (aF Z (jf [13,12,9,1,4,2,0] Z (aO Z (Ao (ts:=p.pf) (k:=k+cnt nT p.an.pre+cnt nT p.an.post+cnt nIn p.an.code+cnt nP p.an.pts) h1 h2 (by omega) (by omega)) 15000 Z (js Z (jf [1,9,4,2,0] Z (jn (ag (ae (ac Z (jn (ak Z (fun z16=>?_) (fun z16=>?_)))))))))))))
 exact absurd (bc z16) (by omega)
 refine af (ae (ac Z (jf [4,15,1,9,2,0] Z (jr ?_))))
 refine ay Z ?_
 rfl
theorem qF{p:Pk}:MQ h1 h2 6 [so p,so p] [] (Plain (eB true)):=by
 refine au ?_ Z
 refine jB 22 h1 h2 Tryz.func6 Z fun O hF=>?_
 refine ae (jx Z (aB ?_))
 refine jf [2,1] Z (jx Z (aB ?_))
 refine js Z (jn (ag (ae (aM Z (aa ((b9 (p:=p.nm) (q:=p.nm) O Z Z Z Z Z Z).cast (v':=eB false) (congrArg eB (by simp))) Z (jf [9,4,3,2,1] Z (jn (ak Z (fun z9=>?_) (fun z9=>?_)))))))))
 exact absurd z9 (by decide)
 refine af (ag (ae (aM Z (jf [13,11,4,3,2,1] Z (aO Z ((c26 (s:=p.an) (t:=p.an) h1 h2).plain (u:=eB true) (by simp)) 15000 Z (js Z (jf [15,4,3,2,1] Z (jn (ak Z (fun z15=>?_) (fun z15=>?_))))))))))
 exact absurd z15 (by decide)
 refine af (ag (ae (aM Z (jf [19,17,4,3,2,1] Z (aO Z ((c49 (xs:=p.pf) (ys:=p.pf) h1 h2).plain (u:=eB true) (by simp)) 21000 Z (js Z (jf [21,4,3,2,1] Z (jn (ak Z (fun z21=>?_) (fun z21=>?_))))))))))
 exact absurd z21 (by decide)
 refine af (ae (js Z (jr ?_)))
 refine ay Z ?_
 rfl
theorem c1468{s:Str}(hL:1048576<L)(hs:s.length≤1048576):MQ h1 h2 4 [aS8 s] [] (Plain (.tup [so (my (rdK s)).1,eB (my (rdK s)).2])):=by
 refine MC.data (jB 8 h1 h2 Tryz.func4 Z fun O hF=>?_)
 obtain⟨a,ha⟩: ∃a,a=(my (rdK s)).1:=⟨_,rfl⟩
 obtain⟨b,hb⟩: ∃b,b=(my (rdK s)).2:=⟨_,rfl⟩
 rw[←ha,←hb]
 refine ae (jl Z (aB ?_))
 refine js Z (be (js Z (jf [4,3,2] Z (aw O Z Z Z Z ((zC (s:=s) h1 h2 hL hs).plain (v:=_) (u:=.tup [so a,eB b]) (by rw[ha,hb])) (ah Z) Z Z Z Z (B0:=6000) Z Z (ac Z (jf [7,6,3,2] Z (jo Z (aB ?_))))))))
 refine js Z (jf [3,2] Z (jr ?_))
 refine ay Z ?_
 exact .tup (.cons (.agg (aW Z)) (.cons (.c .d) .nil))
theorem c1467v{s:Str}{r:Pk}(hcc:1+cnt nT r.an.pre+cnt nT r.an.post+cnt nIn r.an.code+cnt nP r.an.pts+cnt nNl r.pf≤(1073741824:Int))(hs:s.length≤1048576)(cs:MQ h1 h2 4 [aS8 s] [] (Plain (.tup [so r,eB true])))(ci:MQ h1 h2 5 [aS8 s] [] (Rows (.tup [.agg [.d (sD r.nm),.rs 0 0 r.an.pre.length,.rs 1 0 r.an.post.length,.rs 2 0 r.an.code.length,.rs 3 0 r.an.pts.length,.rs 4 0 r.pf.length],eB true]) [cV r.an.pre,cV r.an.post,fj r.an.code,gA r.an.pts,dG r.pf]))(hcp:1≤(1073741824:Int)):MQ h1 h2 3 [aS8 s] [] (Plain (eB true)):=by
 refine au ?_ Z
 refine jB 66 h1 h2 Tryz.func3 Z fun O hF=>?_
 have hbig:L≤9223372036854775807:=Nat.le_trans h2 (by decide)
 refine ae (js Z (jn (ag (ae (js Z (aa (aI (p:=s) O Z Z Z Z Z Z Z Z Z) Z (js Z (jf [13,2,0] Z (jn (ak Z (fun z13=>?_) (fun z13=>?_)))))))))))
 exact absurd (bc z13) (by omega)
 refine af (ae (js Z (jf [15,2,0] Z (aw O Z Z Z Z (cs) (ah Z) Z Z Z Z (B0:=17000) Z Z (aF Z (jf [18,17,2,0] Z (jl Z (aB ?_))))))))
 refine jo Z (aB ?_)
 refine js Z (jf [4,3,2,0] Z (be (js Z (bk O (B0:=22000) Z Z Z Z (ci) (.cons (.c .d) .nil) Z Z Z Z Z Z (aB ?_)))))
 refine aF Z (jf [23,22,4,3,2,0] Z (jl Z (aB ?_)))
 refine jo Z (aB ?_)
 refine js Z (jf [6,5,4,3,2,0] Z (jn (ag (ae (ac Z (aZ O Z Z Z Z ((qF (p:=r) h1 h2).plain (u:=eB true) (by simp)) (.cons (.agg (.cons .d (.cons (.whole Z (bd _).symm) (.cons (.whole Z (bd _).symm) (.cons (.whole Z (bd _).symm) (.cons (.whole Z (bd _).symm) (.cons (.whole Z (bd _).symm) .nil))))))) (.cons (.agg (aW Z)) .nil)) Z Z Z Z Z (B0:=27000) Z (ac Z (jf [28,6,5,4,3,2,0] Z (jG Z (js Z (jf [29,28,5,4,3,2,0] Z (jG Z (js Z (jG Z (js Z (aa (bm O Z Z Z Z Z) Z (jf [32,5,4,3,2,0] Z (jn (ak Z (fun z32=>?_) (fun z32=>?_))))))))))))))))))))
 exact oY z32
 refine af (ae (js Z (be (ac Z (jf [34,33,7,5,4,3,2,0] Z (cu O [22000,22001,22002,22003,22004] (bin:=[cV r.an.pre,cV r.an.post,fj r.an.code,gA r.an.pts,dG r.pf]) Z Z Z Z (wN (p:=r) (k:=1) h1 h2 (by decide) (by omega)) Z Z Z Z Z Z (B0:=36000) Z Z (aB ?_)))))))
 refine js Z (jf [7,5,4,3,2,0] Z (be (js Z (be (ac Z (aZ O Z Z Z Z (qD (p:=r) (k:=1) h1 h2 (by decide) (by omega)) (.cons (.agg (.cons .d (.cons (.whole Z ((bd _).trans aD).symm) (.cons (.whole Z ((bd _).trans aD).symm) (.cons (.whole Z ((bd _).trans aD).symm) (.cons (.whole Z ((bd _).trans aD).symm) (.cons (.whole Z ((bd _).trans aD).symm) .nil))))))) (.cons (.c .d) .nil)) Z Z Z Z Z (B0:=39000) Z (js Z (jf [8,7,5,4,3,2,0] Z (jn (ag (ae (ac Z (jn (ak Z (fun z40=>?_) (fun z40=>?_)))))))))))))))
 exact absurd (bc z40) (by omega)
 refine af (ag (ae (aF Z (jf [43,39,8,7,5,4,3,2,0] Z (jn (ak Z (fun z43=>?_) (fun z43=>?_)))))))
 exact absurd z43 (by simp)
 refine af (ae (js Z (jf [45,39,8,7,5,4,3,2,0] Z (bk O (B0:=47000) Z Z Z Z (ci) (ah Z) Z Z Z Z Z Z (aB ?_)))))
 refine aF Z (jf [48,47,39,8,7,5,4,3,2,0] Z (jl Z (aB ?_)))
 refine jo Z (aB ?_)
 refine js Z (jf [10,9,39,8,7,5,4,3,2,0] Z (jn (ag (ae (ac Z (aZ O Z Z Z Z ((qF (p:=r) h1 h2).plain (u:=eB true) (by simp)) (.cons (.agg (.cons .d (.cons (.whole Z (bd _).symm) (.cons (.whole Z (bd _).symm) (.cons (.whole Z (bd _).symm) (.cons (.whole Z (bd _).symm) (.cons (.whole Z (bd _).symm) .nil))))))) (.cons (.agg (aW Z)) .nil)) Z Z Z Z Z (B0:=52000) Z (ac Z (jf [53,10,9,39,8,7,5,4,3,2,0] Z (jG Z (js Z (jf [54,53,9,39,8,7,5,4,3,2,0] Z (jG Z (js Z (jG Z (js Z (aa (bm O Z Z Z Z Z) Z (jf [57,9,39,8,7,5,4,3,2,0] Z (jn (ak Z (fun z57=>?_) (fun z57=>?_))))))))))))))))))))
 exact oY z57
 refine af (ae (js Z (be (ac Z (jf [59,58,8,9,39,7,5,4,3,2,0] Z (aZ O Z Z Z Z (qD (p:=r) (k:=1) h1 h2 (by decide) (by omega)) (.cons (.agg (.cons .d (.cons (.whole Z ((bd _).trans aD).symm) (.cons (.whole Z ((bd _).trans aD).symm) (.cons (.whole Z ((bd _).trans aD).symm) (.cons (.whole Z ((bd _).trans aD).symm) (.cons (.whole Z ((bd _).trans aD).symm) .nil))))))) (.cons (.c .d) .nil)) Z Z Z Z Z (B0:=61000) Z (js Z (jf [8,9,39,7,5,4,3,2,0] Z (jn (ag (ae (ac Z (jn (ak Z (fun z62=>?_) (fun z62=>?_)))))))))))))))
 exact absurd (bc z62) (by omega)
 refine af (ag (ae (aF Z (jf [65,61,8,9,39,7,5,4,3,2,0] Z (jn (ak Z (fun z65=>?_) (fun z65=>?_)))))))
 exact absurd z65 (by simp)
 refine af (ae (js Z (jr ?_)))
 refine ay Z ?_
 rfl
theorem c1467w{s:Str}{r:Pk}(hcc:1+cnt nT r.an.pre+cnt nT r.an.post+cnt nIn r.an.code+cnt nP r.an.pts+cnt nNl r.pf≤(1073741824:Int))(hs:s.length≤1048576)(cs:MQ h1 h2 4 [aS8 s] [] (Plain (.tup [so r,eB false])))(ci:MQ h1 h2 5 [aS8 s] [] (Rows (.tup [.agg [.d (sD r.nm),.rs 0 0 r.an.pre.length,.rs 1 0 r.an.post.length,.rs 2 0 r.an.code.length,.rs 3 0 r.an.pts.length,.rs 4 0 r.pf.length],eB false]) [cV r.an.pre,cV r.an.post,fj r.an.code,gA r.an.pts,dG r.pf]))(hcp:1≤(1073741824:Int)):MQ h1 h2 3 [aS8 s] [] (Plain (eB true)):=by
 refine au ?_ Z
 refine jB 66 h1 h2 Tryz.func3 Z fun O hF=>?_
 have hbig:L≤9223372036854775807:=Nat.le_trans h2 (by decide)
 refine ae (js Z (jn (ag (ae (js Z (aa (aI (p:=s) O Z Z Z Z Z Z Z Z Z) Z (js Z (jf [13,2,0] Z (jn (ak Z (fun z13=>?_) (fun z13=>?_)))))))))))
 exact absurd (bc z13) (by omega)
 refine af (ae (js Z (jf [15,2,0] Z (aw O Z Z Z Z (cs) (ah Z) Z Z Z Z (B0:=17000) Z Z (aF Z (jf [18,17,2,0] Z (jl Z (aB ?_))))))))
 refine jo Z (aB ?_)
 refine js Z (jf [4,3,2,0] Z (be (js Z (bk O (B0:=22000) Z Z Z Z (ci) (.cons (.c .d) .nil) Z Z Z Z Z Z (aB ?_)))))
 refine aF Z (jf [23,22,4,3,2,0] Z (jl Z (aB ?_)))
 refine jo Z (aB ?_)
 refine js Z (jf [6,5,4,3,2,0] Z (jn (ag (ae (ac Z (aZ O Z Z Z Z ((qF (p:=r) h1 h2).plain (u:=eB true) (by simp)) (.cons (.agg (.cons .d (.cons (.whole Z (bd _).symm) (.cons (.whole Z (bd _).symm) (.cons (.whole Z (bd _).symm) (.cons (.whole Z (bd _).symm) (.cons (.whole Z (bd _).symm) .nil))))))) (.cons (.agg (aW Z)) .nil)) Z Z Z Z Z (B0:=27000) Z (ac Z (jf [28,6,5,4,3,2,0] Z (jG Z (js Z (jf [29,28,5,4,3,2,0] Z (jG Z (js Z (jG Z (js Z (aa (bm O Z Z Z Z Z) Z (jf [32,5,4,3,2,0] Z (jn (ak Z (fun z32=>?_) (fun z32=>?_))))))))))))))))))))
 exact oY z32
 refine af (ae (js Z (be (ac Z (jf [34,33,7,5,4,3,2,0] Z (cu O [22000,22001,22002,22003,22004] (bin:=[cV r.an.pre,cV r.an.post,fj r.an.code,gA r.an.pts,dG r.pf]) Z Z Z Z (wN (p:=r) (k:=1) h1 h2 (by decide) (by omega)) Z Z Z Z Z Z (B0:=36000) Z Z (aB ?_)))))))
 refine js Z (jf [7,5,4,3,2,0] Z (be (js Z (be (ac Z (aZ O Z Z Z Z (qD (p:=r) (k:=1) h1 h2 (by decide) (by omega)) (.cons (.agg (.cons .d (.cons (.whole Z ((bd _).trans aD).symm) (.cons (.whole Z ((bd _).trans aD).symm) (.cons (.whole Z ((bd _).trans aD).symm) (.cons (.whole Z ((bd _).trans aD).symm) (.cons (.whole Z ((bd _).trans aD).symm) .nil))))))) (.cons (.c .d) .nil)) Z Z Z Z Z (B0:=39000) Z (js Z (jf [8,7,5,4,3,2,0] Z (jn (ag (ae (ac Z (jn (ak Z (fun z40=>?_) (fun z40=>?_)))))))))))))))
 exact absurd (bc z40) (by omega)
 refine af (ag (ae (aF Z (jf [43,39,8,7,5,4,3,2,0] Z (jn (ak Z (fun z43=>?_) (fun z43=>?_)))))))
 exact absurd z43 (by simp)
 refine af (ae (js Z (jf [45,39,8,7,5,4,3,2,0] Z (bk O (B0:=47000) Z Z Z Z (ci) (ah Z) Z Z Z Z Z Z (aB ?_)))))
 refine aF Z (jf [48,47,39,8,7,5,4,3,2,0] Z (jl Z (aB ?_)))
 refine jo Z (aB ?_)
 refine js Z (jf [10,9,39,8,7,5,4,3,2,0] Z (jn (ag (ae (ac Z (aZ O Z Z Z Z ((qF (p:=r) h1 h2).plain (u:=eB true) (by simp)) (.cons (.agg (.cons .d (.cons (.whole Z (bd _).symm) (.cons (.whole Z (bd _).symm) (.cons (.whole Z (bd _).symm) (.cons (.whole Z (bd _).symm) (.cons (.whole Z (bd _).symm) .nil))))))) (.cons (.agg (aW Z)) .nil)) Z Z Z Z Z (B0:=52000) Z (ac Z (jf [53,10,9,39,8,7,5,4,3,2,0] Z (jG Z (js Z (jf [54,53,9,39,8,7,5,4,3,2,0] Z (jG Z (js Z (jG Z (js Z (aa (bm O Z Z Z Z Z) Z (jf [57,9,39,8,7,5,4,3,2,0] Z (jn (ak Z (fun z57=>?_) (fun z57=>?_))))))))))))))))))))
 exact oY z57
 refine af (ae (js Z (be (ac Z (jf [59,58,8,9,39,7,5,4,3,2,0] Z (aZ O Z Z Z Z (qD (p:=r) (k:=1) h1 h2 (by decide) (by omega)) (.cons (.agg (.cons .d (.cons (.whole Z ((bd _).trans aD).symm) (.cons (.whole Z ((bd _).trans aD).symm) (.cons (.whole Z ((bd _).trans aD).symm) (.cons (.whole Z ((bd _).trans aD).symm) (.cons (.whole Z ((bd _).trans aD).symm) .nil))))))) (.cons (.c .d) .nil)) Z Z Z Z Z (B0:=61000) Z (js Z (jf [8,9,39,7,5,4,3,2,0] Z (jn (ag (ae (ac Z (jn (ak Z (fun z62=>?_) (fun z62=>?_)))))))))))))))
 exact absurd (bc z62) (by omega)
 refine af (ag (ae (aF Z (jf [65,61,8,9,39,7,5,4,3,2,0] Z (jn (ak Z (fun z65=>?_) (fun z65=>?_)))))))
 exact absurd z65 (by simp)
 refine af (ae (js Z (jr ?_)))
 refine ay Z ?_
 rfl
theorem c1467l{L:Nat}(h1:4096≤L)(h2:L≤9223372036854775807){s:Str}(hs:1048576<s.length):MC Tryz.prog L 3 [aS8 s] [] (Plain (eB true)):=by
 refine au ?_ Z
 have O:=xp (nt:=66) h1 h2
 refine MC.body O Tryz.func3 (by kernel_rfl) Z Z (Nat.le_of_ble_eq_true Z) (fun hF=>?_)
 refine ae (js Z (jn (ag (ae (js Z (aa (aI (p:=s) O Z Z Z Z Z Z Z Z Z) Z (js Z (jf [13,2,0] Z (jn (ak Z (fun z13=>?_) (fun z13=>?_)))))))))))
 refine ae (js Z (jr ?_))
 refine ay Z ?_
 rfl
 exact absurd z13 (by simp;omega)
end Go.Al
/- What the rows of the texts share: what the package-level variables hold in every world that a row ranges over. -/
namespace Go.Proofs.YtdlhjplhmmfnnaaGreatDoor
open Go.ChangeShapes Go.WideShapes Go.ChangeAt Go.RowKit Go.Al
theorem wrapLaid{H:Type}{enc:TypeId×Value→H}{a:Assume}{C:Checked}{os:Os}{f:FuncId}{fn:Func}{s:ChangeSpec}{conds:List PathCond}{apart fresh handsOn again:Bool}{X:World→Array Value→Prop}
    (hX: ∀(w w':World) (args:Array Value),w.heap=w'.heap→X w args→X w' args)
    (own:ownKnob C.prog.godebug=none) (started:os.Started) (noInit:C.prog.inits.idxOf? f=none) (hfn:C.prog.funcs[f]? = some fn)
    (witness: ∃(w:World) (tape:Tape) (i:Input),w.os=os∧(w.forCall tape i).Shaped C.prog∧i.vars=[]∧Input.okWide C.prog (w.forCall tape i) .any w.heap.size f i∧
      ((s.pre enc C.prog fn conds apart (w.forCall tape i).memory i.args∧X (w.forCall tape i).memory i.args)∧sizedMet enc C.prog fn (OpenSpec.ofChange s) apart (w.forCall tape i).memory i.args)∧a.holds C.prog (lone (Frame.enter C.prog f i.args .normal) [] (w.forCall tape i)))
    (contract: ∀(W:World) (base:Nat) (args:Array Value) (ds gs:List (DataW H)) (before:List MemPlace),
      (∀(j:Nat) t v,fn.params[j]? = some t→args[j]? = some v→Value.okWide C.prog W .any base t v)→
      DataW.Whole enc C.prog fn.params.toList s.vars apart W args.toList ds gs before→X W args→W.ShapedOpen C.prog→
      Calls C.prog f args W fun e W'=> ∃v,e= .returned v∧s.post enc C.prog fn apart fresh handsOn again W args v W') :
    ReturnsInHanded a C os f .any (fun w args=>(s.pre enc C.prog fn conds apart w args∧X w args)∧sizedMet enc C.prog fn (OpenSpec.ofChange s) apart w args) (s.post enc C.prog fn apart fresh handsOn again):=by
 refine returnsInHanded_of_calls own started noInit witness ?_
 intro w tape i _ hsh _ hok hpre hholds
 obtain⟨_,_,_,fn',hfn',_,_,_,_,hval⟩:=hok
 have e:fn'=fn:=Option.some.inj (hfn'.symm.trans hfn)
 subst e
 obtain⟨⟨⟨ds,gs,before,hw,hc⟩,hx⟩,hz⟩:=hpre
 have hw':=DataW.Whole.of_heap (w':=w.forCall tape i) (by rfl) hw
 refine(contract (w.forCall tape i) w.heap.size i.args ds gs before hval hw' (hX _ _ _ (by rfl) hx) hsh).mono fun e W' ⟨v,he,hp⟩=>?_
 subst he
 exact ChangeSpec.post_blind hp
theorem jV{P:Program}{w:World}: ∀{l:List (String×DataW Unit)} {ps:List MemPlace},DataW.LaidVars P w l ps→∀{x:String×DataW Unit},x∈l→
    ∃g t cs fuel p,P.globalNamed x.1=some g∧(P.globals[g]?).map (·.type)=some t∧w.var? P x.1=some cs∧DataW.trod (fun _=>()) P w 0 (fun _=>true) false fuel t cs.toList=some (x.2,p)
 | [],_,_,_,h=>by cases h
 | (n,d)::l,_,h,x,hx=>by
  obtain⟨g,t,cs,fuel,p,q,hg,ht,hv,hd,hr,_⟩:=h
  rcases List.mem_cons.1 hx with rfl|hx
  exact⟨g,t,cs,fuel,p,hg,ht,hv,hd⟩
  exact jV hr hx
theorem u6{P:Program}{w:World}{n:Nat}{t e:TypeId}{fuel:Nat}{cs:Array Value}{zs:List Int}{p:List MemPlace}(ht:P.underlying t=some (.array n e))(he:P.underlying e=some (.int .u64))(hc:P.cellsOf t=n)(hce:P.cellsOf e=1)(hn:zs.length=n)
    (hd:DataW.trod (fun _:TypeId×Value=>()) P w 0 (fun _=>true) false fuel t cs.toList=some (.agg (zs.map fun z=>.lit (.int .u64 z)),p)):cs=(zs.map fun z=>Value.int .u64 z).toArray:=by
 obtain⟨xs,m,_,ex,hl,hxs,hel⟩:=DataW.trod_array ht hd
 have e3:(xs.map (·.1))=zs.map fun z=>.lit (.int .u64 z):=(DataW.agg.inj (Prod.mk.inj ex).1).symm
 have key:cs.toList=zs.map fun z=>Value.int .u64 z:=by
  refine List.ext_getElem (by simp[hl,hc,hn]) fun i h1 h2=>?_
  have hi:i<n:=by simpa[hn]using h2
  have hE:=hel i hi
  rw[hce,Nat.mul_one,List.getElem?_eq_getElem (by omega)]at hE
  obtain⟨z,e1,e2,_⟩:=DataW.trod_int he hE
  have e4:(xs.map (·.1))[i]? = (zs.map fun z=>(DataW.lit (.int .u64 z):DataW Unit))[i]? := by rw[e3]
  rw[List.getElem?_map,List.getElem?_map,List.getElem?_eq_getElem (by omega:i<xs.length),List.getElem?_eq_getElem (by omega:i<zs.length),e2]at e4
  simp only[Option.map_some,ef,DataW.lit.injEq,Lit.int.injEq,true_and]at e4
  have h0:((cs.toList.drop i).take 1)[0]? = some (.int .u64 z):=by rw[e1];rfl
  have h3:cs.toList[i]? = some (.int .u64 z):=by simpa using h0
  rw[List.getElem?_eq_getElem h1]at h3
  rw[Option.some.inj h3,e4,List.getElem_map]
 rw[←key]
theorem rJ:(Rows.laid_internal_strconv_uint64pow10:DataW Unit)= .agg (Lib.pow10Tab.map fun z=>.lit (.int .u64 z)):=by kernel_rfl
end Go.Proofs.YtdlhjplhmmfnnaaGreatDoor
/- The package-level variables of the rows that list four of them. -/
namespace Go.Proofs.YtdlhjplhmmfnnaaGreatDoor
open Go.ChangeShapes Go.WideShapes Go.ChangeAt Go.RowKit Go.Al
theorem s6: "*" ++ "errors.errorString" = "*errors.errorString" := by decide
theorem wh(u:TypeId)(h:Tryz.prog.typeName? 3 u=some "*errors.errorString"):u=209:=
  typeName_ptr_named (nm:= "errors.errorString") (by rw[s6];kernel_rfl) (by kernel_rfl) (by decide) u (by rw[s6];exact h)
theorem rO{W:World}{r:List (String×DataW Unit)}(h:laidMet Tryz.prog (("strconv.ErrRange",Rows.laid_strconv_ErrRange)::r) W): ∃cs,W.var? Tryz.prog "strconv.ErrRange" = some cs∧∃te pe,cs[0]? = some (Value.iface te pe):=by
 obtain⟨a,s,hv,_⟩:=laid_sentinel h (show Tryz.prog.globalNamed "strconv.ErrRange" = some 2 by kernel_rfl) (show(Tryz.prog.globals[2]?).map (·.type)=some 90 by kernel_rfl) Tryz.underlying90 wh Tryz.underlying209 Tryz.underlying211 rfl rfl Tryz.underlying9 (by kernel_rfl) (by kernel_rfl)
 exact⟨_,hv,_,_,Z⟩
theorem p9{W:World}{r:List (String×DataW Unit)}(h:laidMet Tryz.prog (("strconv.ErrSyntax",Rows.laid_strconv_ErrSyntax)::r) W): ∃cs,W.var? Tryz.prog "strconv.ErrSyntax" = some cs∧∃te pe,cs[0]? = some (Value.iface te pe):=by
 obtain⟨a,s,hv,_⟩:=laid_sentinel h (show Tryz.prog.globalNamed "strconv.ErrSyntax" = some 1 by kernel_rfl) (show(Tryz.prog.globals[1]?).map (·.type)=some 90 by kernel_rfl) Tryz.underlying90 wh Tryz.underlying209 Tryz.underlying211 rfl rfl Tryz.underlying9 (by kernel_rfl) (by kernel_rfl)
 exact⟨_,hv,_,_,Z⟩
theorem gok4{W:World}{laid r1 r2:List (String×DataW Unit)}(hl:laidMet Tryz.prog laid W)(hm:("internal/strconv.uint64pow10",Rows.laid_internal_strconv_uint64pow10)∈laid)(hR:laidMet Tryz.prog (("strconv.ErrRange",Rows.laid_strconv_ErrRange)::r1) W)(hS:laidMet Tryz.prog (("strconv.ErrSyntax",Rows.laid_strconv_ErrSyntax)::r2) W)(hs:W.ShapedOpen Tryz.prog):GOk Tryz.prog W okAll:=by
 intro n g hn hg
 refine⟨trivial,?_⟩
 simp only[GN,List.mem_cons,List.mem_nil_iff,or_false]at hn
 rcases hn with rfl|rfl|rfl|rfl
 obtain⟨ps,hv,_,_⟩:=hl
 obtain⟨g',t,cs,fuel,p,hg',ht,hv,hd⟩:=jV hv (x:=("internal/strconv.uint64pow10",Rows.laid_internal_strconv_uint64pow10)) hm
 obtain rfl:=Option.some.inj ((show Tryz.prog.globalNamed "internal/strconv.uint64pow10" = some 5 by kernel_rfl).symm.trans hg')
 obtain rfl:=Option.some.inj ((show(Tryz.prog.globals[5]?).map (·.type)=some 205 by kernel_rfl).symm.trans ht)
 refine⟨cs,hv,fun _=>?_,fun h=>absurd h (by simp),fun h=>absurd h (by simp)⟩
 refine u6 (n:=20) (e:=183) Tryz.underlying205 Tryz.underlying183 (by kernel_rfl) (by kernel_rfl) Lib.pow10Tab_length (p:=p) (fuel:=fuel) (P:=Tryz.prog) (w:=W) ?_
 rw[←rJ]
 exact hd
 obtain rfl:=Option.some.inj ((show Tryz.prog.globalNamed "internal/bytealg.MaxLen" = some 0 by kernel_rfl).symm.trans hg)
 obtain⟨m,hm⟩:=cell_of_shapedOpen_int (k:=.i64) (g:=0) (t:=3) (zero:= #[.int .i64 0]) hs (bc (by kernel_rfl)) (by kernel_rfl) rfl (by kernel_rfl) (by kernel_rfl) Tryz.underlying3
 have hm':=hm
 unfold World.cell? at hm'
 unfold World.var?
 rw[hg,Option.bind_some]
 cases hb:W.heap[0]? with
 | none=>simp[hb]at hm'
 | some o=>
  cases o with
  | cells cs c d=>exact⟨cs,Z,fun h=>absurd h (by simp),fun _=>⟨m,by simpa[hb]using hm'⟩,fun h=>absurd h (by simp)⟩
  | _=>simp[hb]at hm'
 obtain⟨cs,hv,te,pe,hc⟩:=p9 hS
 exact⟨cs,hv,fun h=>absurd h (by simp),fun h=>absurd h (by simp),fun _=>⟨_,hc,.inr ⟨te,pe,Z⟩⟩⟩
 obtain⟨cs,hv,te,pe,hc⟩:=rO hR
 exact⟨cs,hv,fun h=>absurd h (by simp),fun h=>absurd h (by simp),fun _=>⟨_,hc,.inr ⟨te,pe,Z⟩⟩⟩
end Go.Proofs.YtdlhjplhmmfnnaaGreatDoor
