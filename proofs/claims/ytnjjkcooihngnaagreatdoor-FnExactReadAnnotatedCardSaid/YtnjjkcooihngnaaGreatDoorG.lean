/- The readers of annotated code of both sides, walked; the law; what the package-level variables hold. -/
import Derived.Test.YtnjjkcooihngnaaGreatDoorC
import Derived.Test.YtnjjkcooihngnaaGreatDoorF
import Derived.Test.YtnjjkcooihngnaaGreatDoorH
import Derived.Test.YtnjjkcooihngnaaGreatDoorE
import Derived.Test.YtnjjkcooihngnaaGreatDoorTie
import Derived.Test.YtnjjkcooihngnaaGreatDoorCards
import Derived.ProofKit
import Derived.OpenShut
import Derived.LaidMore
import Derived.LaidLaws
import Derived.Lay
import Derived.SevenTiedAt
import Derived.Shelf.Vars
import Derived.Stop.Joined
import Derived.Stop.LaidErr
set_option linter.unusedVariables false
set_option linter.unusedSimpArgs false
set_option maxRecDepth 10000
set_option maxHeartbeats 4000000
open Go.Proofs
namespace Go.Al
variable{L:Nat}(h1:4096≤L)(h2:L≤1073741824)
set_option maxHeartbeats 8000000
theorem c1462{t:Str}(hL:1048576<L)(hs:t.length≤1048576):MQ h1 h2 5 [aS8 t] [] (Rows (.tup [rC (gU (rdA t)).1,eB (gU (rdA t)).2]) (s5 (gU (rdA t)).1)):=by
 refine dh (jB 133 h1 h2 Tryz.func5 Z fun O hF=>?_)
 obtain⟨Q,hQ⟩: ∃Q,Q=(lw t).1:=⟨_,rfl⟩
 obtain⟨b0,hb0⟩: ∃b,b=(lw t).2:=⟨_,rfl⟩
 have hQl:Q.length≤t.length:=by rw[hQ];exact qB
 have hl:t.length≤L:=by omega
 refine af (jl Z (aI ?_))
 refine js Z (bq (js Z (aY O Z Z Z Z ((t3 (s:=t) h1 h2 hL hs).plain (v:=_) (u:=.tup [.c (.d (strs Q)),eB b0]) (by rw[t7,←hQ,←hb0])) (al Z) Z Z Z Z (B0:=20000) Z Z (bn Z (js Z (jf [5,4,3,2,0] Z (jn (ag (af (ac Z (jf [23,4,3,2,0] Z (jn (ak Z (fun z23=>?_) (fun z23=>?_))))))))))))))
 refine af (js Z (jf [24,4,3,2,0] Z (jo Z (aI ?_))))
 refine js Z (jr ?_)
 have hno:rdA t=none:=qu (r8 (by rw[←hb0];simpa using z23))
 rw[hno]
 refine⟨.inl Z,_,(ar 2 911 2 true 0 Z Z Z).trans ((ar 2 912 2 true 1 Z Z Z).trans ((ar 2 913 2 true 2 Z Z Z).trans (ar 2 914 2 true 3 Z Z Z))),_,Z,[911,912,913,914],by decide,Z,Z,Z⟩
 refine ae (af (jl Z (aI ?_)))
 refine jn (ag (af (js Z ?_)))
 first|refine db Z ?_|refine js Z ?_|refine be Z Z ?_
 refine js Z (jf [27,26,25,6,3,2,0] Z (jn (ap (av (X:=Nat×An) (fun z=>⟨[(0,aS8 t),(2,.c (.pt 2 0 0)),(6,.c (.pt 6 0 0)),(25,.c (.d (strs Q))),(26,eI Q.length),(27,eI (z.1:Nat))],[(2,.box [.d .nils,.d .nils,.d .nils,.d .nils]),(6,.box [.rs 901 0 z.2.pre.length,.rs 902 0 z.2.post.length,.rs 903 0 z.2.code.length,.rs 904 0 z.2.pts.length]),(901,dc z.2.pre),(902,dc z.2.post),(903,fd z.2.code),(904,mu z.2.pts)]⟩) (fun z=>z.1≤Q.length∧bI (Q.take z.1) an0=some z.2) (fun z=>Q.length-z.1) (0,an0) (((ar 6 901 2 true 0 Z Z Z).trans ((ar 6 902 2 true 1 Z Z Z).trans ((ar 6 903 2 true 2 Z Z Z).trans (ar 6 904 2 true 3 Z Z Z)))).trans (Ent.to ⟨Z,Z,Z,Z,Z,Z,ao⟩ Z)) ?_ (fun z hi=>?_)))))
 exact⟨cN _,Z⟩
 refine af (js Z (jn (ag (ak Z (fun z28=>?_) (fun z28=>?_)))))
 refine ae (ag (ap (af ?_)))
 have hi0:z.1<Q.length:=by have:=bJ z28;omega
 have hb:=pd hi.2
 obtain⟨q1,q2,q3,q4,q5⟩:=hb
 have hlt:(Q.getD z.1 default).length≤t.length:=by rw[hQ]at hi0 ⊢;exact r9 hi0
 obtain⟨l,hl⟩: ∃l,l=(Q.getD z.1 default):=⟨_,rfl⟩
 refine ab (aH O Z Z Z Z Z Z Z Z (dg hi0)) Z (ac Z (jf [8,28,0,2,6,25,26,27] Z (bq ?_)))
 rw[←hl]
 rw[←hl]at hlt
 refine js Z (aY O Z Z Z Z (rh (s:=l) (sep:=[32]) h1 h2) (al Z) Z Z Z Z (B0:=34000) Z Z (js Z ?_))
 obtain⟨F,hF0⟩: ∃F,F=fq l:=⟨_,rfl⟩
 obtain⟨G,hG0⟩: ∃G,G=lx l:=⟨_,rfl⟩
 have hcl:=ig l [32]
 rw[show(Lib.cut l [32]).1=F from hF0.symm,show(Lib.cut l [32]).2.1=G from hG0.symm]at hcl
 rw[show(Lib.cut l [32]).1=F from hF0.symm,show(Lib.cut l [32]).2.1=G from hG0.symm]
 refine bn Z (ac Z (jf [10,9,8,28,0,2,6,25,26,27] Z (bq (js Z (jf [38,9,8,28,0,2,6,25,26,27] Z ?_)))))
 obtain⟨r,hr⟩: ∃r,r=dd (e8 G):=⟨_,rfl⟩
 have hr2:r=dd (e8 (lx l)):=by rw[hr,hG0]
 have hT:MC Tryz.prog L 12 [aS8 G] [] (Rows (sC r) [dX r.1.xs]):=by rw[hr];exact sj (s:=G) h1 h2 (by omega)
 refine ch O (B0:=40000) Z Z Z Z hT (al Z) Z Z Z Z Z Z (aI ?_)
 refine aZ Z (jf [41,40,9,8,28,0,2,6,25,26,27] Z (jl Z (aI ?_)))
 refine jo Z (aI ?_)
 refine js Z (jf [13,12,9,8,28,0,2,6,25,26,27] Z (bq (ac Z ?_)))
 first|refine db Z ?_|refine js Z ?_|refine be Z Z ?_
 refine ab (aB O Z Z (by omega) (by omega)) Z (js Z (jf [14,13,12,9,8,28,0,2,6,25,26,27] Z (jn (ap (af (js Z (ab (Val.seq (p:=F) (q:=[112,114,101]) O Z Z Z Z Z Z) Z (js Z (jf [63,14,13,12,9,8,28,0,2,6,25,26,27] Z (ay 1 Z Z Z (fun hx=>au hx Z (AN.nil)) Z Z ?_))))))))))
 first|refine ab (aj O Z Z Z Z Z) Z ?_|refine ab (aq O Z Z Z Z Z) Z ?_|refine ab (Val.pickB O Z Z Z Z Z) Z ?_
 refine js Z (jf [60,14,13,12,9,8,28,0,2,6,25,26,27] Z (jn (ak Z (fun z60=>?_) (fun z60=>?_))))
 refine aa (aZ Z (jf [68,67,60,14,13,12,9,8,28,0,2,6,25,26,27] Z (aV (aD [2,6,901,902,903,904,40000] (e':=[(68,_),(67,_),(0,_),(2,_),(6,_),(25,_),(26,_),(27,_)]) Z Z ⟨Z,Z,Z,Z,Z,Z,Z,Z,ao⟩ Z) (bU (cg (ds:=Tm.cells r.1) O Z Z Z Z Z Z Z Z Z Z (.d Z (.rs Z (bl _).symm .nil)) Z Z Z) Z (aI ?_)))))
 refine aI ?_
 refine jf [69,67,0,2,6,25,26,27] Z (bU (bG (zs:=(z.2.pre++[r.1]).map Tm.cells) (n:=(z.2.pre++[r.1]).length) O Z Z Z Z Z Z Z Z Z Z Z Z Z Z Z Z (.row Z (bl _).symm) Z Z (by decide) Z (by simp;omega) (by simp;omega) (by simp) (by simp)) Z (aI ?_))
 refine aI ?_
 refine js Z (jf [71,70,0,2,6,25,26,27] Z (jo Z (aI ?_)))
 refine jf [0,2,6,25,26,27] Z (jn (aa ?_))
 first|refine ji Z ?_|refine be Z Z ?_
 refine js Z (jn ?_)
 refine⟨(z.1+1,⟨z.2.pre++[r.1],z.2.post,z.2.code,z.2.pts⟩),((aD [2,6,70,902,903,904] (e':=[(0,_),(2,_),(6,_),(25,_),(26,_),(27,_)]) Z Z ⟨Z,Z,Z,Z,Z,Z,ao⟩ Z).trans (bw 70 901 Z Z)).trans (Ent.to ⟨Z,Z,Z,Z,Z,Z,ao⟩ Z),⟨by show z.1+1≤_;omega,cR hi0 hi.2 (by rw[←hl];exact mG hr2 (by rw[←hF0];exact j1.1 z60))⟩,by show Q.length-(z.1+1)<Q.length-z.1;omega⟩
 refine af (js Z ?_)
 have n1: ¬(fq l=bK∧r.2=true):=by rw[←hF0];exact ft z60 j1
 refine ab (Val.seq (p:=F) (q:=[112,111,115,116]) O Z Z Z Z Z Z) Z (js Z (jf [75,60,14,13,12,9,8,28,0,2,6,25,26,27] Z (ay 1 Z Z Z (fun hx=>au hx Z (AN.nil)) Z Z ?_)))
 first|refine ab (aj O Z Z Z Z Z) Z ?_|refine ab (aq O Z Z Z Z Z) Z ?_|refine ab (Val.pickB O Z Z Z Z Z) Z ?_
 refine js Z (jf [72,60,14,13,12,9,8,28,0,2,6,25,26,27] Z (jn (ak Z (fun z72=>?_) (fun z72=>?_))))
 refine aa (aZ Z (jf [80,79,72,60,14,13,12,9,8,28,0,2,6,25,26,27] Z (aV (aD [2,6,901,902,903,904,40000] (e':=[(80,_),(79,_),(0,_),(2,_),(6,_),(25,_),(26,_),(27,_)]) Z Z ⟨Z,Z,Z,Z,Z,Z,Z,Z,ao⟩ Z) (bU (cg (ds:=Tm.cells r.1) O Z Z Z Z Z Z Z Z Z Z (.d Z (.rs Z (bl _).symm .nil)) Z Z Z) Z (aI ?_)))))
 refine aI ?_
 refine jf [81,79,0,2,6,25,26,27] Z (bU (bG (zs:=(z.2.post++[r.1]).map Tm.cells) (n:=(z.2.post++[r.1]).length) O Z Z Z Z Z Z Z Z Z Z Z Z Z Z Z Z (.row Z (bl _).symm) Z Z (by decide) Z (by simp;omega) (by simp;omega) (by simp) (by simp)) Z (aI ?_))
 refine aI ?_
 refine js Z (jf [83,82,0,2,6,25,26,27] Z (jo Z (aI ?_)))
 refine jf [0,2,6,25,26,27] Z (jn (aa ?_))
 first|refine ji Z ?_|refine be Z Z ?_
 refine js Z (jn ?_)
 refine⟨(z.1+1,⟨z.2.pre,z.2.post++[r.1],z.2.code,z.2.pts⟩),((aD [2,6,901,82,903,904] (e':=[(0,_),(2,_),(6,_),(25,_),(26,_),(27,_)]) Z Z ⟨Z,Z,Z,Z,Z,Z,ao⟩ Z).trans (bw 82 902 Z Z)).trans (Ent.to ⟨Z,Z,Z,Z,Z,Z,ao⟩ Z),⟨by show z.1+1≤_;omega,cR hi0 hi.2 (by rw[←hl];exact kI hr2 n1 (by rw[←hF0];exact j1.1 z72))⟩,by show Q.length-(z.1+1)<Q.length-z.1;omega⟩
 refine af (js Z ?_)
 have n2: ¬(fq l=bj∧r.2=true):=by rw[←hF0];exact ft z72 j1
 refine ab (Val.seq (p:=l) (q:=[112,111,105,110,116]) O Z Z Z Z Z Z) Z (js Z (jf [84,72,60,14,13,12,9,8,28,0,2,6,25,26,27] Z (jn (ak Z (fun z84=>?_) (fun z84=>?_)))))
 refine rn [_,_,_,_,_,_,_,_,_,_,_] [pn [] 0 2,pn [0] 0 2,bv,aU [2],aU [2,3],pe [2,3,4] 0,pn (rg 2 4) 1 1,pe (rg 2 5) 1,pe (rg 0 8) 2,pn (rg 0 9) 3 3,pe (rg 0 10) 3] [5,7,8,10] [_,_,_,_,_] [[],[],[904,94],[]] (ai (ka Z Z (ka Z Z (kw Z Z))) (ai (ka Z Z (ka Z Z (kw Z Z))) (ka Z Z (ka Z Z (ai (ai (vI Z Z) Z) (ai (ai (gB (aE O (B0:=93000) Z Z Z Z (rB (n:=(z.2.code.length:Int)) h1 h2) (al Z) Z Z Z Z Z)) Z) (ka Z Z (ai (ai (ll [] (ds:=[.int .i64 (z.2.code.length:Int),.nils]) O Z Z Z Z Z Z Z Z Z Z Z Z (fun e=>(.d Z (.d Z .nil))) Z Z) Z) (ai (ai (lm (xs:=z.2.pts.map ii) (ys:=[[.int .i64 (z.2.code.length:Int),.nils]]) (zs:=(z.2.pts++[(⟨(z.2.code.length:Int),[]⟩:Pt)]).map ii) (n:=(z.2.pts++[(⟨(z.2.code.length:Int),[]⟩:Pt)]).length) O Z Z Z Z Z Z Z Z Z Z Z Z Z Z Z Z (.row Z (bl _).symm) Z Z (by decide) Z (by simp;omega) (by simp;omega) (by rw[List.map_append,List.map_cons,List.map_nil,g9 Z]) (by simp) Z) Z) (ka Z Z (ai (ai (gB (eS Z Z Z)) Z) trivial))))))))))) ?_
 refine jw [84,72,60,14,13,12,9,8,28,0,2,6,25,26,27] Z (m9 ?_)
 refine aa ?_
 first|refine ji Z ?_|refine be Z Z ?_
 refine js Z (jn ?_)
 refine⟨(z.1+1,⟨z.2.pre,z.2.post,z.2.code,z.2.pts++[(⟨(z.2.code.length:Int),[]⟩:Pt)]⟩),((aD [2,6,901,902,903,95] (e':=[(0,_),(2,_),(6,_),(25,_),(26,_),(27,_)]) Z Z ⟨Z,Z,Z,Z,Z,Z,ao⟩ Z).trans (bw 95 904 Z Z)).trans (Ent.to ⟨Z,Z,Z,Z,Z,Z,ao⟩ Z),⟨by show z.1+1≤_;omega,cR hi0 hi.2 (by rw[←hl];exact jq hr2 (bJ z84))⟩,by show Q.length-(z.1+1)<Q.length-z.1;omega⟩
 refine af (js Z ?_)
 have n3: ¬l=bm:=ck z84
 obtain⟨k,hkl⟩: ∃k,z.2.pts.length-1=k:=⟨_,rfl⟩
 refine ab (Val.seq (p:=F) (q:=[97,116]) O Z Z Z Z Z Z) Z (js Z (jf [100,84,72,60,14,13,12,9,8,28,0,2,6,25,26,27] Z (ay 1 Z Z Z (fun hx=>au hx Z (AN.nil)) Z Z ?_)))
 first|refine ab (aj O Z Z Z Z Z) Z ?_|refine ab (aq O Z Z Z Z Z) Z ?_|refine ab (Val.pickB O Z Z Z Z Z) Z ?_
 refine js Z (jf [103,84,72,60,14,13,12,9,8,28,0,2,6,25,26,27] Z (ay 2 Z Z Z (fun hx=>au hx Z (au hx Z (AN.nil))) Z Z ?_))
 first|refine ab (aj O Z Z Z Z Z) Z ?_|refine ab (aq O Z Z Z Z Z) Z ?_|refine ab (Val.pickB O Z Z Z Z Z) Z ?_
 refine js Z (jf [97,84,72,60,14,13,12,9,8,28,0,2,6,25,26,27] Z (jn (ak Z (fun z97=>?_) (fun z97=>?_))))
 cases hb22:decide ((z.2.pts.getD k default).fs=[])with
 | true=>
  have h4:fq l=gt∧r.2=true∧0<z.2.pts.length:=by have h:=oY.1 z97;rw[←hF0];exact⟨h.1,h.2.1,by have:=bJ h.2.2;omega⟩
  have hkn:k<z.2.pts.length:=by have:=h4.2.2;omega
  have hkI:(z.2.pts.length:Int)-1=((k:Nat):Int):=by omega
  have hq5:=q5 (z.2.pts.getD k default) (by rw[getD_lt hkn];exact List.getElem_mem hkn)
  rw[hkI]
  have hfs:(z.2.pts.getD k default).fs=[]:=bJ hb22
  have hex:(z.2.pts.map ii)[k]? = some [D.int .i64 (z.2.pts.getD k default).k,.nils]:=by rw[hJ hkn,g9 hfs]
  refine rn [_,_,_,_,_,_,_,_,_,_,_,_,_,_,_] [pn [] 0 2,pn [0] 0 2,pn [] 0 2,pn [] 0 1,pn [3] 0 1,pn [] 0 1,pn [3,4,5] 0 1,pn (rg 3 4) 0 1,pn (rg 3 5) 0 1,bv,pe [9] 0,pe (rg 3 8) 1,pn (rg 0 12) 2 2,pn (rg 0 13) 2 2,pe (rg 0 14) 2] [10,11,14] [_,_,_,_] [[40000],[117],[118,904]] (ai (ka Z Z (ka Z Z (kw Z Z))) (ai (ka Z Z (ka Z Z (kw Z Z))) (ai (ka Z Z (ka Z Z (kw Z Z))) (ai (ka Z Z (kw Z Z)) (ai (ka Z Z (kw Z Z)) (ai (ka Z Z (kw Z Z)) (ai (ai (ai ((br (c:=0≤((k:Nat):Int)∧((k:Nat):Int)<((z.2.pts.length:Nat):Int)) (v:=.c (.pt 904 (0+((k:Nat):Int).toNat) 0)) O Z Z ⟨by omega,by omega⟩).cast (v':=.c (.pt 904 k 0)) (by rw[Int.toNat_natCast,Nat.zero_add])) Z) (ai ((br (c:=0≤((k:Nat):Int)∧((k:Nat):Int)<((z.2.pts.length:Nat):Int)) (v:=.c (.pt 904 (0+((k:Nat):Int).toNat) 0)) O Z Z ⟨by omega,by omega⟩).cast (v':=.c (.pt 904 k 0)) (by rw[Int.toNat_natCast,Nat.zero_add])) Z)) (ai (ka Z Z (kw Z Z)) (ai (ai (ai (bo O (ex:=[D.int .i64 (z.2.pts.getD k default).k,.nils]) Z Z Z Z hex Z) Z) (ai (bo O (ex:=[D.int .i64 (z.2.pts.getD k default).k,.nils]) Z Z Z Z hex Z) Z)) (ka Z Z (ai (ai (eg (l:=40000) (ds:=Tm.cells r.1) O Z Z Z Z Z Z Z Z Z Z Z Z (fun e=>(.d Z (.rs Z (bl _).symm .nil))) Z Z) Z) (ai (ai (f8 (ys:=[Tm.cells r.1]) (n:=1) O Z Z Z Z Z Z Z Z Z Z Z Z Z Z Z Z Z Z Z (by show 1≤L;omega) (by show 1*32≤140737488355328;decide) Z Z) Z) (ai (ai ((br (c:=0≤((k:Nat):Int)∧((k:Nat):Int)<((z.2.pts.length:Nat):Int)) (v:=.c (.pt 904 (0+((k:Nat):Int).toNat) 0)) O Z Z ⟨by omega,by omega⟩).cast (v':=.c (.pt 904 k 0)) (by rw[Int.toNat_natCast,Nat.zero_add])) Z) (ka Z Z (ai (ai (cX (l:=904) (l2:=118) (i:=k) (j:=1) (ys:=[r.1].map Tm.cells) (ex:=[D.int .i64 (z.2.pts.getD k default).k,.nils]) O Z Z Z Z Z Z Z Z Z Z Z Z Z Z Z hex (jy hfs) Z Z) Z) trivial))))))))))))))) ?_
  refine jw [97,84,72,60,14,13,12,9,8,28,0,2,6,25,26,27] Z (m9 ?_)
  refine aa ?_
  first|refine ji Z ?_|refine be Z Z ?_
  refine js Z (jn ?_)
  refine⟨(z.1+1,⟨z.2.pre,z.2.post,z.2.code,(gc z.2.pts k r.1)⟩),(aD [2,6,901,902,903,904] (e':=[(0,_),(2,_),(6,_),(25,_),(26,_),(27,_)]) Z Z ⟨Z,Z,Z,Z,Z,Z,ao⟩ Z).trans (Ent.to ⟨Z,Z,Z,Z,Z,Z,ao⟩ (by simp only[fX];rfl)),⟨by show z.1+1≤_;omega,cR hi0 hi.2 (by rw[←hl];exact(by rw[←hkl];exact jS hr2 h4))⟩,by show Q.length-(z.1+1)<Q.length-z.1;omega⟩
 | false=>
  have h4:fq l=gt∧r.2=true∧0<z.2.pts.length:=by have h:=oY.1 z97;rw[←hF0];exact⟨h.1,h.2.1,by have:=bJ h.2.2;omega⟩
  have hkn:k<z.2.pts.length:=by have:=h4.2.2;omega
  have hkI:(z.2.pts.length:Int)-1=((k:Nat):Int):=by omega
  have hq5:=q5 (z.2.pts.getD k default) (by rw[getD_lt hkn];exact List.getElem_mem hkn)
  rw[hkI]
  have hfs:(z.2.pts.getD k default).fs≠[]:=ck hb22
  have hex:(z.2.pts.map ii)[k]? = some ([D.int .i64 (z.2.pts.getD k default).k,.slc 2 ((z.2.pts.getD k default).fs.map Tm.cells)]:List D):=by rw[hJ hkn,lG hfs]
  refine rn [_,_,_,_,_,_,_,_,_,_,_,_,_,_,_] [pn [] 0 2,pn [0] 0 2,pn [] 0 2,pn [] 0 1,pn [3] 0 1,pn [] 0 1,pn [3,4,5] 0 1,pn (rg 3 4) 0 1,pn (rg 3 5) 0 1,bv,pe [9] 0,pe (rg 3 8) 1,pn (rg 0 12) 2 2,pn (rg 0 13) 2 2,pe (rg 0 14) 2] [10,11,14] [_,_,_,_] [[40000],[117],[118,904]] (ai (ka Z Z (ka Z Z (kw Z Z))) (ai (ka Z Z (ka Z Z (kw Z Z))) (ai (ka Z Z (ka Z Z (kw Z Z))) (ai (ka Z Z (kw Z Z)) (ai (ka Z Z (kw Z Z)) (ai (ka Z Z (kw Z Z)) (ai (ai (ai ((br (c:=0≤((k:Nat):Int)∧((k:Nat):Int)<((z.2.pts.length:Nat):Int)) (v:=.c (.pt 904 (0+((k:Nat):Int).toNat) 0)) O Z Z ⟨by omega,by omega⟩).cast (v':=.c (.pt 904 k 0)) (by rw[Int.toNat_natCast,Nat.zero_add])) Z) (ai ((br (c:=0≤((k:Nat):Int)∧((k:Nat):Int)<((z.2.pts.length:Nat):Int)) (v:=.c (.pt 904 (0+((k:Nat):Int).toNat) 0)) O Z Z ⟨by omega,by omega⟩).cast (v':=.c (.pt 904 k 0)) (by rw[Int.toNat_natCast,Nat.zero_add])) Z)) (ai (ka Z Z (kw Z Z)) (ai (ai (ai (bo O (ex:=[D.int .i64 (z.2.pts.getD k default).k,.slc 2 ((z.2.pts.getD k default).fs.map Tm.cells)]) Z Z Z Z hex Z) Z) (ai (bo O (ex:=[D.int .i64 (z.2.pts.getD k default).k,.slc 2 ((z.2.pts.getD k default).fs.map Tm.cells)]) Z Z Z Z hex Z) Z)) (ka Z Z (ai (ai (eg (l:=40000) (ds:=Tm.cells r.1) O Z Z Z Z Z Z Z Z Z Z Z Z (fun e=>(.d Z (.rs Z (bl _).symm .nil))) Z Z) Z) (ai (ai (jL (q:=990) (xs:=z.2.pts.map ii) (ys:=(z.2.pts.getD k default).fs.map Tm.cells) (ys2:=[Tm.cells r.1]) (zs:=((z.2.pts.getD k default).fs++[r.1]).map Tm.cells) (n:=((z.2.pts.getD k default).fs++[r.1]).length) (ex:=[D.int .i64 (z.2.pts.getD k default).k,.slc 2 ((z.2.pts.getD k default).fs.map Tm.cells)]) O Z Z Z Z Z Z Z Z Z Z Z Z Z Z Z hex Z (by simpa using hfs) Z Z Z Z (fun _=>rfl) Z (fun _=>rfl) (by simp only[bl,ep,List.length_nil];omega) (by simp only[bl,ep,List.length_nil];omega) (by simp) (by simp) (fun _=>rfl) (fun _=>rfl) Z) Z) (ai (ai ((br (c:=0≤((k:Nat):Int)∧((k:Nat):Int)<((z.2.pts.length:Nat):Int)) (v:=.c (.pt 904 (0+((k:Nat):Int).toNat) 0)) O Z Z ⟨by omega,by omega⟩).cast (v':=.c (.pt 904 k 0)) (by rw[Int.toNat_natCast,Nat.zero_add])) Z) (ka Z Z (ai (ai (cX (l:=904) (l2:=118) (i:=k) (j:=1) (ys:=((z.2.pts.getD k default).fs++[r.1]).map Tm.cells) (ex:=[D.int .i64 (z.2.pts.getD k default).k,.any none]) O Z Z Z Z Z Z Z (bl _).symm Z Z Z Z Z Z Z (mU hkn) kN Z Z) Z) trivial))))))))))))))) ?_
  refine jw [97,84,72,60,14,13,12,9,8,28,0,2,6,25,26,27] Z (m9 ?_)
  refine aa ?_
  first|refine ji Z ?_|refine be Z Z ?_
  refine js Z (jn ?_)
  refine⟨(z.1+1,⟨z.2.pre,z.2.post,z.2.code,(gc z.2.pts k r.1)⟩),(aD [2,6,901,902,903,904] (e':=[(0,_),(2,_),(6,_),(25,_),(26,_),(27,_)]) Z Z ⟨Z,Z,Z,Z,Z,Z,ao⟩ Z).trans (Ent.to ⟨Z,Z,Z,Z,Z,Z,ao⟩ (by simp only[fX];rfl)),⟨by show z.1+1≤_;omega,cR hi0 hi.2 (by rw[←hl];exact(by rw[←hkl];exact jS hr2 h4))⟩,by show Q.length-(z.1+1)<Q.length-z.1;omega⟩
 refine af ?_
 have n4: ¬(fq l=gt∧r.2=true∧0<z.2.pts.length):=fun h=>ft z97 oY ⟨by rw[hF0];exact h.1,h.2.1,decide_eq_true (by have:=h.2.2;omega)⟩
 obtain⟨x,hx⟩: ∃x,x=(jP (jO l)).1:=⟨_,rfl⟩
 obtain⟨bx,hbx⟩: ∃b,b=(jP (jO l)).2:=⟨_,rfl⟩
 refine js Z (aY O Z Z Z Z ((tM (s:=l) h1 h2 hL (by omega)).plain (v:=_) (u:=.tup [.agg (x.cells.map .d),eB bx]) (by rw[hx,hbx])) (al Z) Z Z Z Z (B0:=49000) Z Z (aZ Z (jf [50,49,97,84,72,60,14,13,12,9,8,28,0,2,6,25,26,27] Z (jl Z (aI ?_)))))
 refine jo Z (aI ?_)
 refine js Z (jf [16,15,97,84,72,60,14,13,12,9,8,28,0,2,6,25,26,27] Z (jn (ag (af (ac Z (jf [52,15,97,84,72,60,14,13,12,9,8,28,0,2,6,25,26,27] Z (jn (ak Z (fun z52=>?_) (fun z52=>?_)))))))))
 refine af (js Z (jo Z (aI ?_)))
 refine js Z (jr ?_)
 obtain⟨hnl,hQ2⟩:=mW (t:=t) (by rw[←hb0];simpa using z23)
 have hno:rdA t=none:=rY hnl (by rw[←hQ2,←hQ];exact pD hi0 hi.2 (by rw[←hl];exact oy hr2 n1 n2 n3 n4 (by rw[←hbx];simpa using z52)))
 rw[hno]
 refine⟨.inl Z,_,(ar 2 911 2 true 0 Z Z Z).trans ((ar 2 912 2 true 1 Z Z Z).trans ((ar 2 913 2 true 2 Z Z Z).trans (ar 2 914 2 true 3 Z Z Z))),_,Z,[911,912,913,914],by decide,Z,Z,Z⟩
 refine ae (aa (aZ Z (jf [56,55,52,15,97,84,72,60,14,13,12,9,8,28,0,2,6,25,26,27] Z (aV (aD [2,6,901,902,903,904] (e':=[(56,_),(55,_),(0,_),(2,_),(6,_),(25,_),(26,_),(27,_)]) Z Z ⟨Z,Z,Z,Z,Z,Z,Z,Z,ao⟩ Z) (bU (cg (ds:=In.cells x) O Z Z Z Z Z Z Z Z Z Z (.d Z (.d Z .nil)) Z Z Z) Z (aI ?_))))))
 refine aI ?_
 refine jf [57,55,0,2,6,25,26,27] Z (bU (bG (zs:=(z.2.code++[x]).map In.cells) (n:=(z.2.code++[x]).length) O Z Z Z Z Z Z Z Z Z Z Z Z Z Z Z Z (.row Z (bl _).symm) Z Z (by decide) Z (by simp;omega) (by simp;omega) (by simp) (by simp)) Z (aI ?_))
 refine aI ?_
 refine js Z (jf [59,58,0,2,6,25,26,27] Z (jo Z (aI ?_)))
 refine jf [0,2,6,25,26,27] Z (jn (aa ?_))
 first|refine ji Z ?_|refine be Z Z ?_
 refine js Z (jn ?_)
 refine⟨(z.1+1,⟨z.2.pre,z.2.post,z.2.code++[x],z.2.pts⟩),((aD [2,6,901,902,58,904] (e':=[(0,_),(2,_),(6,_),(25,_),(26,_),(27,_)]) Z Z ⟨Z,Z,Z,Z,Z,Z,ao⟩ Z).trans (bw 58 903 Z Z)).trans (Ent.to ⟨Z,Z,Z,Z,Z,Z,ao⟩ Z),⟨by show z.1+1≤_;omega,cR hi0 hi.2 (by rw[←hl];exact(by rw[hx];exact oz hr2 n1 n2 n3 n4 (by rw[←hbx];simpa using z52)))⟩,by show Q.length-(z.1+1)<Q.length-z.1;omega⟩
 refine aR (ag (af ?_))
 have hz1:z.1=Q.length:=by have:=ck z28;omega
 have hall:=hi.2
 rw[hz1,List.take_length]at hall
 obtain⟨hnl,hQ2⟩:=mW (t:=t) (by rw[←hb0];simpa using z23)
 rw[hQ,hQ2]at hall
 have hrd:=rX hnl hall
 refine aV (Ent.rowLe 904 (ys:=z.2.pts.map Pt.cells) Z (ke z.2.pts)) (aI ?_)
 refine js Z (bg O Z Z Z Z (c71 (a:=z.2) h1 h2) (.cons (.agg (.cons (.whole Z (bl _).symm) (.cons (.whole Z (bl _).symm) (.cons (.whole Z (bl _).symm) (.cons (.whole Z (bl _).symm) .nil))))) .nil) Z Z Z Z Z (B0:=124000) Z (ac Z (jf [125,28,0,2,6,25,26,27] Z (ay 4 Z Z Z (fun hx=>au hx Z (bD O hx Z Z Z Z (tT (a:=z.2) h1 h2 (by simpa using hx) hL) (.cons (.agg (.cons (.whole Z (bl _).symm) (.cons (.whole Z (bl _).symm) (.cons (.whole Z (bl _).symm) (.cons (.whole Z (bl _).symm) .nil))))) .nil) Z Z Z Z Z Z Z (B0:=128000) Z (au hx Z (bE hx (cH (p:=dO z.2) (q:=t) O Z Z Z Z Z Z) Z (AN.nil))))) Z Z ?_))))
 first|refine ab (aq O Z Z Z Z Z) Z ?_|refine ab (Val.pickB O Z Z Z Z Z) Z ?_|refine ab (aj O Z Z Z Z Z) Z ?_
 refine jf [130,28,0,2,6,25,26,27] Z (jn (ak Z (fun z130=>?_) (fun z130=>?_)))
 refine af (js Z (jo Z (aI ?_)))
 refine js Z (jr ?_)
 rw[hrd,if_neg (oh z130)]
 refine⟨.inl Z,_,(ar 2 911 2 true 0 Z Z Z).trans ((ar 2 912 2 true 1 Z Z Z).trans ((ar 2 913 2 true 2 Z Z Z).trans (ar 2 914 2 true 3 Z Z Z))),_,Z,[911,912,913,914],by decide,Z,Z,Z⟩
 refine ae (af (js Z (jo Z (aI ?_))))
 refine js Z (jr ?_)
 rw[hrd,if_pos (lE z130)]
 refine⟨.inl Z,_,el,_,Z,[901,902,903,904],by decide,Z,Z,Z⟩
set_option maxHeartbeats 8000000
theorem tv(n:Nat):nat? (eI ((n:Int)+1)) 0=some (n+1):=rfl
theorem rZ{p q:Prop}[Decidable p][Decidable q]{b:Bool}(h:(bif (bif !decide p then true else !b)then true else !decide q)=true): ¬(p∧b=true∧q):=by
 by_cases hp:p<;>by_cases hq:q<;>cases b<;>simp_all
theorem qv{p q:Prop}[Decidable p][Decidable q]{b:Bool}(h:(bif (bif !decide p then true else !b)then true else !decide q)=false):p∧b=true∧q:=by
 by_cases hp:p<;>by_cases hq:q<;>cases b<;>simp_all
theorem qw{p:Prop}[Decidable p]{b:Bool}(h:((bif !decide p then true else !b)==false)=true):b=true:=by
 by_cases hp:p<;>cases b<;>simp_all
theorem tN{t:Str}(hL:1048576<L)(hs:t.length≤1048576):MQ h1 h2 9 [aS8 t] [] (Rows (.tup [rC (gU (rdA t)).1,eB (gU (rdA t)).2]) (s5 (gU (rdA t)).1)):=by
 refine dh (jB 150 h1 h2 Tryz.func9 Z fun O hF=>?_)
 have hl0:t.length≤L:=by omega
 refine af (jl Z (aI ?_))
 refine js Z (bq (js Z (jl Z (aI ?_))))
 refine jo Z (aI ?_)
 refine bq (js Z (jn (ag (af (js Z (jn (ap (av (X:=Nat×Nat×An×List Str) (fun z=>⟨[(0,aS8 t),(2,.c (.pt 2 0 0)),(4,.c (.pt 4 0 0)),(5,eI (z.2.1:Nat)),(6,eI (z.1:Nat))],[(2,.box [.d .nils,.d .nils,.d .nils,.d .nils]),(4,.box [.rs 901 0 z.2.2.1.pre.length,.rs 902 0 z.2.2.1.post.length,.rs 903 0 z.2.2.1.code.length,.rs 904 0 z.2.2.1.pts.length]),(901,dc z.2.2.1.pre),(902,dc z.2.2.1.post),(903,fd z.2.2.1.code),(904,mu z.2.2.1.pts)]⟩) (fun z=>z.2.1≤z.1∧z.1≤t.length∧Rdg t z.2.1 z.2.2.1 z.2.2.2∧(10:UInt8) ∉ gT t z.2.1 z.1) (fun z=>t.length-z.1) (0,0,an0,[]) (((ar 4 901 2 true 0 Z Z Z).trans ((ar 4 902 2 true 1 Z Z Z).trans ((ar 4 903 2 true 2 Z Z Z).trans (ar 4 904 2 true 3 Z Z Z)))).trans (Ent.to ⟨Z,Z,Z,Z,Z,ao⟩ Z)) ?_ (fun z hi=>?_)))))))))
 exact⟨bH _,cN _,.zero,by show(10:UInt8) ∉ gT t 0 0;rw[du];simp⟩
 refine ag (af (ac Z (ab (bd (p:=t) O Z Z Z Z Z Z Z Z Z) Z (js Z (jf [20,0,2,4,5,6] Z (jn (ak Z (fun z20=>?_) (fun z20=>?_))))))))
 refine ae (ag (ap (ag (af (ac Z ?_)))))
 have hz0:z.1<t.length:=by have:=bJ z20;omega
 refine ab (aO (p:=t) (b:=t.getD z.1 0) O Z Z Z Z Z Z Z (by omega) (bW hz0)) Z (js Z (jf [26,20,0,2,4,5,6] Z (jn (ak Z (fun z26=>?_) (fun z26=>?_)))))
 refine aR (aa (js Z ?_))
 first|refine ji Z ?_|refine be Z Z ?_
 refine js Z (jf [6,26,20,0,2,4,5] Z (jn ?_))
 have hne:t.getD z.1 0≠10:=fun e=>ck (by simpa using z26) ((em (n:=10) (by decide)).2 e)
 refine⟨(z.1+1,z.2.1,z.2.2.1,z.2.2.2),Ent.to ⟨Z,Z,Z,Z,Z,ao⟩ Z,⟨by show z.2.1≤z.1+1;omega,by show z.1+1≤_;omega,hi.2.2.1,qy hi.1 hz0 hi.2.2.2 hne⟩,by show t.length-(z.1+1)<t.length-z.1;omega⟩
 refine ae (af (aZ Z ?_))
 have hi0:=hi
 have z10:t.getD z.1 0=10:=(em (n:=10) (by decide)).1 (bJ (by simpa using z26))
 obtain⟨q1,q2,q3,q4,q5⟩:=hi.2.2.1.anl
 obtain⟨l,hl⟩: ∃l,l=gT t z.2.1 z.1:=⟨_,rfl⟩
 have hlt:l.length≤t.length:=by rw[hl,List.length_take,List.length_drop];omega
 obtain⟨F,hF0⟩: ∃F,F=fq l:=⟨_,rfl⟩
 obtain⟨G,hG0⟩: ∃G,G=lx l:=⟨_,rfl⟩
 have hcl:=ig l [32]
 rw[show(Lib.cut l [32]).1=F from hF0.symm,show(Lib.cut l [32]).2.1=G from hG0.symm]at hcl
 refine ab ((dw (p:=t) (a:=z.2.1) (b:=z.1) O Z Z Z Z Z Z Z Z Z Z hi.1 hi.2.1).cast (v':=aS8 l) (by rw[hl])) Z (js Z (jf [7,26,20,0,2,4,5,6] Z (bq (js Z ?_))))
 first|refine ji Z ?_|refine be Z Z ?_
 refine js Z (jf [5,7,26,20,0,2,4,6] Z (bq (ac Z (bq (js Z (jn (ag (af (js Z (jn (bu ⟨[(0,aS8 t),(2,.c (.pt 2 0 0)),(4,.c (.pt 4 0 0)),(5,eI ((z.1+1:Nat):Int)),(6,eI (z.1:Nat)),(7,aS8 l),(8,aS8 F),(9,aS8 G)],[(2,.box [.d .nils,.d .nils,.d .nils,.d .nils]),(4,.box [.rs 901 0 z.2.2.1.pre.length,.rs 902 0 z.2.2.1.post.length,.rs 903 0 z.2.2.1.code.length,.rs 904 0 z.2.2.1.pts.length]),(901,dc z.2.2.1.pre),(902,dc z.2.2.1.post),(903,fd z.2.2.1.code),(904,mu z.2.2.1.pts)]⟩ ?_ ?_)))))))))))
 refine ap (av (X:=Nat) (fun y=>⟨[(0,aS8 t),(2,.c (.pt 2 0 0)),(4,.c (.pt 4 0 0)),(5,eI ((z.1+1:Nat):Int)),(6,eI (z.1:Nat)),(7,aS8 l),(8,aS8 l),(9,aS8 []),(10,eI (y:Nat))],[(2,.box [.d .nils,.d .nils,.d .nils,.d .nils]),(4,.box [.rs 901 0 z.2.2.1.pre.length,.rs 902 0 z.2.2.1.post.length,.rs 903 0 z.2.2.1.code.length,.rs 904 0 z.2.2.1.pts.length]),(901,dc z.2.2.1.pre),(902,dc z.2.2.1.post),(903,fd z.2.2.1.code),(904,mu z.2.2.1.pts)]⟩) (fun y=>y≤l.length∧(32:UInt8) ∉ l.take y) (fun y=>l.length-y) 0 (Ent.to ⟨Z,Z,Z,Z,Z,Z,Z,Z,Z,ao⟩ Z) ?_ (fun y hi=>?_))
 exact⟨cN _,by simp⟩
 refine ag (af (ac Z (ab (bd (p:=l) O Z Z Z Z Z Z Z Z Z) Z (js Z (jf [37,0,2,4,5,6,7,8,9,10] Z (jn (ak Z (fun z37=>?_) (fun z37=>?_))))))))
 refine ae (ag (ap (af (ac Z ?_))))
 have hy0:y<l.length:=by have:=bJ z37;omega
 refine ab (aO (p:=l) (b:=l.getD y 0) O Z Z Z Z Z Z Z (by omega) (bW hy0)) Z (js Z (jf [43,37,0,2,4,5,6,7,8,9,10] Z (jn (ak Z (fun z43=>?_) (fun z43=>?_)))))
 refine af (ac Z (ab ((dw (p:=l) (a:=0) (b:=y) O Z Z Z Z Z Z Z Z Z Z (cN _) hi.1).cast (v':=aS8 (l.take y)) (by rw[List.drop_zero,Nat.sub_zero])) Z (js Z (jf [8,43,37,0,2,4,5,6,7,9,10] Z (bq (ac Z ?_))))))
 first|refine ji Z ?_|refine be Z Z ?_
 refine ab ((dw (p:=l) (a:=y+1) (b:=l.length) O Z Z Z Z Z Z (tv y) Z Z Z (by omega) (bH _)).cast (v':=aS8 (l.drop (y+1))) (by rw[List.take_of_length_le (by rw[List.length_drop];omega)])) Z (js Z (jf [9,8,43,37,0,2,4,5,6,7,10] Z (jn (aR ?_))))
 have hcb:=qK hy0 hi.2 ((em (n:=32) (by decide)).1 (bJ z43))
 exact⟨Z,Ent.to ⟨Z,Z,Z,Z,Z,Z,congrArg (fun s=>some (aS8 s)) (show l.take y=F by rw[hF0];show _=(Lib.cut l [32]).1;rw[hcb]),congrArg (fun s=>some (aS8 s)) (show l.drop (y+1)=G by rw[hG0];show _=(Lib.cut l [32]).2.1;rw[hcb]),ao⟩ Z⟩
 refine ae (aa (js Z ?_))
 first|refine ji Z ?_|refine be Z Z ?_
 refine js Z (jf [10,43,37,0,2,4,5,6,7,8,9] Z (jn ?_))
 refine⟨y+1,Ent.to ⟨Z,Z,Z,Z,Z,Z,Z,Z,Z,ao⟩ Z,⟨by show y+1≤_;omega,qd hy0 hi.2 (fun e=>ck z43 ((em (n:=32) (by decide)).2 e))⟩,by show l.length-(y+1)<l.length-y;omega⟩
 refine aR ?_
 have hyl:y=l.length:=by have:=ck z37;omega
 have hno:(32:UInt8) ∉ l:=by have h:=hi.2;rwa[hyl,List.take_length]at h
 exact⟨Z,Ent.to ⟨Z,Z,Z,Z,Z,Z,congrArg (fun s=>some (aS8 s)) (show l=F by rw[hF0];show _=(Lib.cut l [32]).1;rw[lK hno]),congrArg (fun s=>some (aS8 s)) (show[]=G by rw[hG0];show _=(Lib.cut l [32]).2.1;rw[lK hno]),ao⟩ Z⟩
 refine af (js Z ?_)
 obtain⟨r,hr⟩: ∃r,r=dd (e8 G):=⟨_,rfl⟩
 have hr2:r=dd (e8 (lx l)):=by rw[hr,hG0]
 have hT:MC Tryz.prog L 26 [aS8 G] [] (Rows (sC r) [dX r.1.xs]):=by rw[hr,←tu];exact si (s:=G) h1 h2 (by omega)
 refine ch O (B0:=54000) Z Z Z Z hT (al Z) Z Z Z Z Z Z (aI ?_)
 refine aZ Z (jf [55,54,0,2,4,5,6,7,8,9] Z (jl Z (aI ?_)))
 refine jo Z (aI ?_)
 refine js Z (jf [12,11,0,2,4,5,6,7,8,9] Z (bq (ac Z ?_)))
 first|refine db Z ?_|refine js Z ?_|refine be Z Z ?_
 refine js Z (jf [13,12,11,0,2,4,5,6,7,8,9] Z (jn (ap (af (js Z (ab (Val.seq (p:=F) (q:=[112,114,101]) O Z Z Z Z Z Z) Z (js Z (jf [76,13,12,11,0,2,4,5,6,7,8,9] Z (ay 1 Z Z Z (fun hx=>au hx Z (AN.nil)) Z Z ?_)))))))))
 first|refine ab (aj O Z Z Z Z Z) Z ?_|refine ab (aq O Z Z Z Z Z) Z ?_|refine ab (Val.pickB O Z Z Z Z Z) Z ?_
 refine js Z (jf [73,13,12,11,0,2,4,5,6,7,8,9] Z (jn (ak Z (fun z73=>?_) (fun z73=>?_))))
 refine aa (aZ Z (jf [81,80,73,13,12,11,0,2,4,5,6,7,8,9] Z (aV (aD [2,4,901,902,903,904,54000] (e':=[(81,_),(80,_),(0,_),(2,_),(4,_),(5,_),(6,_)]) Z Z ⟨Z,Z,Z,Z,Z,Z,Z,ao⟩ Z) (bU (cg (ds:=Tm.cells r.1) O Z Z Z Z Z Z Z Z Z Z (.d Z (.rs Z (bl _).symm .nil)) Z Z Z) Z (aI ?_)))))
 refine aI ?_
 refine jf [82,80,0,2,4,5,6] Z (bU (bG (zs:=(z.2.2.1.pre++[r.1]).map Tm.cells) (n:=(z.2.2.1.pre++[r.1]).length) O Z Z Z Z Z Z Z Z Z Z Z Z Z Z Z Z (.row Z (bl _).symm) Z Z (by decide) Z (by simp;omega) (by simp;omega) (by simp) (by simp)) Z (aI ?_))
 refine aI ?_
 refine js Z (jf [84,83,0,2,4,5,6] Z (jo Z (aI ?_)))
 refine jf [0,2,4,5,6] Z (jn (aa (js Z ?_)))
 first|refine ji Z ?_|refine be Z Z ?_
 refine js Z (jf [6,0,2,4,5] Z (jn ?_))
 have hst:f9 z.2.2.1 l=some ⟨z.2.2.1.pre++[r.1],z.2.2.1.post,z.2.2.1.code,z.2.2.1.pts⟩:=mG hr2 (by rw[←hF0];exact j1.1 z73)
 refine⟨(z.1+1,z.1+1,⟨z.2.2.1.pre++[r.1],z.2.2.1.post,z.2.2.1.code,z.2.2.1.pts⟩,z.2.2.2++[l]),((aD [2,4,83,902,903,904] (e':=[(0,_),(2,_),(4,_),(5,_),(6,_)]) Z Z ⟨Z,Z,Z,Z,Z,ao⟩ Z).trans (bw 83 901 Z Z)).trans (Ent.to ⟨Z,Z,Z,Z,Z,ao⟩ Z),⟨bH _,by show z.1+1≤_;omega,?_,?_⟩,by show t.length-(z.1+1)<t.length-z.1;omega⟩
 rw[hl]at hst ⊢;exact hi0.2.2.1.step hi0.1 hz0 z10 hi0.2.2.2 hst
 show(10:UInt8) ∉ gT t (z.1+1) (z.1+1);rw[du];simp
 refine af (js Z ?_)
 have n1: ¬(fq l=bK∧r.2=true):=by rw[←hF0];exact ft z73 j1
 refine ab (Val.seq (p:=F) (q:=[112,111,115,116]) O Z Z Z Z Z Z) Z (js Z (jf [88,73,13,12,11,0,2,4,5,6,7,8,9] Z (ay 1 Z Z Z (fun hx=>au hx Z (AN.nil)) Z Z ?_)))
 first|refine ab (aj O Z Z Z Z Z) Z ?_|refine ab (aq O Z Z Z Z Z) Z ?_|refine ab (Val.pickB O Z Z Z Z Z) Z ?_
 refine js Z (jf [85,73,13,12,11,0,2,4,5,6,7,8,9] Z (jn (ak Z (fun z85=>?_) (fun z85=>?_))))
 refine aa (aZ Z (jf [93,92,85,73,13,12,11,0,2,4,5,6,7,8,9] Z (aV (aD [2,4,901,902,903,904,54000] (e':=[(93,_),(92,_),(0,_),(2,_),(4,_),(5,_),(6,_)]) Z Z ⟨Z,Z,Z,Z,Z,Z,Z,ao⟩ Z) (bU (cg (ds:=Tm.cells r.1) O Z Z Z Z Z Z Z Z Z Z (.d Z (.rs Z (bl _).symm .nil)) Z Z Z) Z (aI ?_)))))
 refine aI ?_
 refine jf [94,92,0,2,4,5,6] Z (bU (bG (zs:=(z.2.2.1.post++[r.1]).map Tm.cells) (n:=(z.2.2.1.post++[r.1]).length) O Z Z Z Z Z Z Z Z Z Z Z Z Z Z Z Z (.row Z (bl _).symm) Z Z (by decide) Z (by simp;omega) (by simp;omega) (by simp) (by simp)) Z (aI ?_))
 refine aI ?_
 refine js Z (jf [96,95,0,2,4,5,6] Z (jo Z (aI ?_)))
 refine jf [0,2,4,5,6] Z (jn (aa (js Z ?_)))
 first|refine ji Z ?_|refine be Z Z ?_
 refine js Z (jf [6,0,2,4,5] Z (jn ?_))
 have hst:f9 z.2.2.1 l=some ⟨z.2.2.1.pre,z.2.2.1.post++[r.1],z.2.2.1.code,z.2.2.1.pts⟩:=kI hr2 n1 (by rw[←hF0];exact j1.1 z85)
 refine⟨(z.1+1,z.1+1,⟨z.2.2.1.pre,z.2.2.1.post++[r.1],z.2.2.1.code,z.2.2.1.pts⟩,z.2.2.2++[l]),((aD [2,4,901,95,903,904] (e':=[(0,_),(2,_),(4,_),(5,_),(6,_)]) Z Z ⟨Z,Z,Z,Z,Z,ao⟩ Z).trans (bw 95 902 Z Z)).trans (Ent.to ⟨Z,Z,Z,Z,Z,ao⟩ Z),⟨bH _,by show z.1+1≤_;omega,?_,?_⟩,by show t.length-(z.1+1)<t.length-z.1;omega⟩
 rw[hl]at hst ⊢;exact hi0.2.2.1.step hi0.1 hz0 z10 hi0.2.2.2 hst
 show(10:UInt8) ∉ gT t (z.1+1) (z.1+1);rw[du];simp
 refine af (js Z ?_)
 have n2: ¬(fq l=bj∧r.2=true):=by rw[←hF0];exact ft z85 j1
 refine ab (Val.seq (p:=F) (q:=[97,116]) O Z Z Z Z Z Z) Z (js Z (jf [100,85,73,13,12,11,0,2,4,5,6,7,8,9] Z (ay 1 Z Z Z (fun hx=>au hx Z (AN.nil)) Z Z ?_)))
 first|refine ab (aj O Z Z Z Z Z) Z ?_|refine ab (aq O Z Z Z Z Z) Z ?_|refine ab (Val.pickB O Z Z Z Z Z) Z ?_
 refine js Z (jf [103,85,73,13,12,11,0,2,4,5,6,7,8,9] Z (ay 2 Z Z Z (fun hx=>au hx Z (au hx Z (AN.nil))) Z Z ?_))
 first|refine ab (aj O Z Z Z Z Z) Z ?_|refine ab (aq O Z Z Z Z Z) Z ?_|refine ab (Val.pickB O Z Z Z Z Z) Z ?_
 refine js Z (jf [97,85,73,13,12,11,0,2,4,5,6,7,8,9] Z (jn (ak Z (fun z97=>?_) (fun z97=>?_))))
 cases hb28:decide ((z.2.2.1.pts.getD (z.2.2.1.pts.length-1) default).fs=[])with
 | true=>
  have h4:fq l=gt∧r.2=true∧0<z.2.2.1.pts.length:=by have h:=oY.1 z97;rw[←hF0];exact⟨h.1,h.2.1,by have:=bJ h.2.2;omega⟩
  obtain⟨k,hkl⟩: ∃k,z.2.2.1.pts.length-1=k:=⟨_,rfl⟩
  rw[hkl]at hb28
  have hkn:k<z.2.2.1.pts.length:=by have:=h4.2.2;omega
  have hkI:(z.2.2.1.pts.length:Int)-1=((k:Nat):Int):=by omega
  have hq5:=q5 (z.2.2.1.pts.getD k default) (by rw[getD_lt hkn];exact List.getElem_mem hkn)
  have hfs:(z.2.2.1.pts.getD k default).fs=[]:=bJ hb28
  have hex:(z.2.2.1.pts.map ii)[k]? = some [D.int .i64 (z.2.2.1.pts.getD k default).k,.nils]:=by rw[hJ hkn,g9 hfs]
  refine rn [_,_,_,_,_,_,_,_,_,_,_,_,_,_,_,_,_] [pn [] 0 2,pn [0] 0 2,pn [] 0 2,pn [2] 0 2,pn [] 0 1,pn [4] 0 1,pn [] 0 1,pn [6] 0 1,pn (rg 4 4) 0 1,pn (rg 4 5) 0 1,pn (rg 4 6) 0 1,bv,pe [11] 0,pe (rg 4 9) 1,pn (rg 0 14) 2 2,pn (rg 0 15) 2 2,pe (rg 0 16) 2] [12,13,16] [_,_,_,_] [[54000],[119],[120,904]] (ai (ka Z Z (ka Z Z (kw Z Z))) (ai (ka Z Z (ka Z Z (kw Z Z))) (ai (ka Z Z (ka Z Z (kw Z Z))) (ai (ai (ai ((aB O Z Z (by omega) (by omega)).cast (v':=eI ((k:Nat):Int)) (congrArg eI hkI)) Z) (ai (ai ((aB O Z Z (by omega) (by omega)).cast (v':=eI ((k:Nat):Int)) (congrArg eI hkI)) Z) (ai ((aB O Z Z (by omega) (by omega)).cast (v':=eI ((k:Nat):Int)) (congrArg eI hkI)) Z))) (ai (ka Z Z (kw Z Z)) (ai (ka Z Z (kw Z Z)) (ai (ka Z Z (kw Z Z)) (ai (ai (ai ((aB O Z Z (by omega) (by omega)).cast (v':=eI ((k:Nat):Int)) (congrArg eI hkI)) Z) (ai ((aB O Z Z (by omega) (by omega)).cast (v':=eI ((k:Nat):Int)) (congrArg eI hkI)) Z)) (ai (ai (ai ((br (c:=0≤((k:Nat):Int)∧((k:Nat):Int)<((z.2.2.1.pts.length:Nat):Int)) (v:=.c (.pt 904 (0+((k:Nat):Int).toNat) 0)) O Z Z ⟨by omega,by omega⟩).cast (v':=.c (.pt 904 k 0)) (by rw[Int.toNat_natCast,Nat.zero_add])) Z) (ai ((br (c:=0≤((k:Nat):Int)∧((k:Nat):Int)<((z.2.2.1.pts.length:Nat):Int)) (v:=.c (.pt 904 (0+((k:Nat):Int).toNat) 0)) O Z Z ⟨by omega,by omega⟩).cast (v':=.c (.pt 904 k 0)) (by rw[Int.toNat_natCast,Nat.zero_add])) Z)) (ai (ka Z Z (kw Z Z)) (ai (ai (ai (bo O (ex:=[D.int .i64 (z.2.2.1.pts.getD k default).k,.nils]) Z Z Z Z hex Z) Z) (ai (bo O (ex:=[D.int .i64 (z.2.2.1.pts.getD k default).k,.nils]) Z Z Z Z hex Z) Z)) (ka Z Z (ai (ai (eg (l:=54000) (ds:=Tm.cells r.1) O Z Z Z Z Z Z Z Z Z Z Z Z (fun e=>(.d Z (.rs Z (bl _).symm .nil))) Z Z) Z) (ai (ai (f8 (ys:=[Tm.cells r.1]) (n:=1) O Z Z Z Z Z Z Z Z Z Z Z Z Z Z Z Z Z Z Z (by show 1≤L;omega) (by show 1*32≤140737488355328;decide) Z Z) Z) (ai (ai ((br (c:=0≤((k:Nat):Int)∧((k:Nat):Int)<((z.2.2.1.pts.length:Nat):Int)) (v:=.c (.pt 904 (0+((k:Nat):Int).toNat) 0)) O Z Z ⟨by omega,by omega⟩).cast (v':=.c (.pt 904 k 0)) (by rw[Int.toNat_natCast,Nat.zero_add])) Z) (ka Z Z (ai (ai (cX (l:=904) (l2:=120) (i:=k) (j:=1) (ys:=[r.1].map Tm.cells) (ex:=[D.int .i64 (z.2.2.1.pts.getD k default).k,.nils]) O Z Z Z Z Z Z Z Z Z Z Z Z Z Z Z hex (jy hfs) Z Z) Z) trivial))))))))))))))))) ?_
  refine jw [97,85,73,13,12,11,0,2,4,5,6,7,8,9] Z (m9 ?_)
  refine aa (js Z ?_)
  first|refine ji Z ?_|refine be Z Z ?_
  refine js Z (jf [6,97,85,73,13,12,11,0,2,4,5,7,8,9] Z (jn ?_))
  have hst:f9 z.2.2.1 l=some ⟨z.2.2.1.pre,z.2.2.1.post,z.2.2.1.code,(gc z.2.2.1.pts k r.1)⟩:=(by rw[←hkl];exact jS hr2 h4)
  refine⟨(z.1+1,z.1+1,⟨z.2.2.1.pre,z.2.2.1.post,z.2.2.1.code,(gc z.2.2.1.pts k r.1)⟩,z.2.2.2++[l]),(aD [2,4,901,902,903,904] (e':=[(0,_),(2,_),(4,_),(5,_),(6,_)]) Z Z ⟨Z,Z,Z,Z,Z,ao⟩ Z).trans (Ent.to ⟨Z,Z,Z,Z,Z,ao⟩ (by simp only[fX];rfl)),⟨bH _,by show z.1+1≤_;omega,?_,?_⟩,by show t.length-(z.1+1)<t.length-z.1;omega⟩
  rw[hl]at hst ⊢;exact hi0.2.2.1.step hi0.1 hz0 z10 hi0.2.2.2 hst
  show(10:UInt8) ∉ gT t (z.1+1) (z.1+1);rw[du];simp
 | false=>
  have h4:fq l=gt∧r.2=true∧0<z.2.2.1.pts.length:=by have h:=oY.1 z97;rw[←hF0];exact⟨h.1,h.2.1,by have:=bJ h.2.2;omega⟩
  obtain⟨k,hkl⟩: ∃k,z.2.2.1.pts.length-1=k:=⟨_,rfl⟩
  rw[hkl]at hb28
  have hkn:k<z.2.2.1.pts.length:=by have:=h4.2.2;omega
  have hkI:(z.2.2.1.pts.length:Int)-1=((k:Nat):Int):=by omega
  have hq5:=q5 (z.2.2.1.pts.getD k default) (by rw[getD_lt hkn];exact List.getElem_mem hkn)
  have hfs:(z.2.2.1.pts.getD k default).fs≠[]:=ck hb28
  have hex:(z.2.2.1.pts.map ii)[k]? = some ([D.int .i64 (z.2.2.1.pts.getD k default).k,.slc 2 ((z.2.2.1.pts.getD k default).fs.map Tm.cells)]:List D):=by rw[hJ hkn,lG hfs]
  refine rn [_,_,_,_,_,_,_,_,_,_,_,_,_,_,_,_,_] [pn [] 0 2,pn [0] 0 2,pn [] 0 2,pn [2] 0 2,pn [] 0 1,pn [4] 0 1,pn [] 0 1,pn [6] 0 1,pn (rg 4 4) 0 1,pn (rg 4 5) 0 1,pn (rg 4 6) 0 1,bv,pe [11] 0,pe (rg 4 9) 1,pn (rg 0 14) 2 2,pn (rg 0 15) 2 2,pe (rg 0 16) 2] [12,13,16] [_,_,_,_] [[54000],[119],[120,904]] (ai (ka Z Z (ka Z Z (kw Z Z))) (ai (ka Z Z (ka Z Z (kw Z Z))) (ai (ka Z Z (ka Z Z (kw Z Z))) (ai (ai (ai ((aB O Z Z (by omega) (by omega)).cast (v':=eI ((k:Nat):Int)) (congrArg eI hkI)) Z) (ai (ai ((aB O Z Z (by omega) (by omega)).cast (v':=eI ((k:Nat):Int)) (congrArg eI hkI)) Z) (ai ((aB O Z Z (by omega) (by omega)).cast (v':=eI ((k:Nat):Int)) (congrArg eI hkI)) Z))) (ai (ka Z Z (kw Z Z)) (ai (ka Z Z (kw Z Z)) (ai (ka Z Z (kw Z Z)) (ai (ai (ai ((aB O Z Z (by omega) (by omega)).cast (v':=eI ((k:Nat):Int)) (congrArg eI hkI)) Z) (ai ((aB O Z Z (by omega) (by omega)).cast (v':=eI ((k:Nat):Int)) (congrArg eI hkI)) Z)) (ai (ai (ai ((br (c:=0≤((k:Nat):Int)∧((k:Nat):Int)<((z.2.2.1.pts.length:Nat):Int)) (v:=.c (.pt 904 (0+((k:Nat):Int).toNat) 0)) O Z Z ⟨by omega,by omega⟩).cast (v':=.c (.pt 904 k 0)) (by rw[Int.toNat_natCast,Nat.zero_add])) Z) (ai ((br (c:=0≤((k:Nat):Int)∧((k:Nat):Int)<((z.2.2.1.pts.length:Nat):Int)) (v:=.c (.pt 904 (0+((k:Nat):Int).toNat) 0)) O Z Z ⟨by omega,by omega⟩).cast (v':=.c (.pt 904 k 0)) (by rw[Int.toNat_natCast,Nat.zero_add])) Z)) (ai (ka Z Z (kw Z Z)) (ai (ai (ai (bo O (ex:=[D.int .i64 (z.2.2.1.pts.getD k default).k,.slc 2 ((z.2.2.1.pts.getD k default).fs.map Tm.cells)]) Z Z Z Z hex Z) Z) (ai (bo O (ex:=[D.int .i64 (z.2.2.1.pts.getD k default).k,.slc 2 ((z.2.2.1.pts.getD k default).fs.map Tm.cells)]) Z Z Z Z hex Z) Z)) (ka Z Z (ai (ai (eg (l:=54000) (ds:=Tm.cells r.1) O Z Z Z Z Z Z Z Z Z Z Z Z (fun e=>(.d Z (.rs Z (bl _).symm .nil))) Z Z) Z) (ai (ai (jL (q:=990) (xs:=z.2.2.1.pts.map ii) (ys:=(z.2.2.1.pts.getD k default).fs.map Tm.cells) (ys2:=[Tm.cells r.1]) (zs:=((z.2.2.1.pts.getD k default).fs++[r.1]).map Tm.cells) (n:=((z.2.2.1.pts.getD k default).fs++[r.1]).length) (ex:=[D.int .i64 (z.2.2.1.pts.getD k default).k,.slc 2 ((z.2.2.1.pts.getD k default).fs.map Tm.cells)]) O Z Z Z Z Z Z Z Z Z Z Z Z Z Z Z hex Z (by simpa using hfs) Z Z Z Z (fun _=>rfl) Z (fun _=>rfl) (by simp only[bl,ep,List.length_nil];omega) (by simp only[bl,ep,List.length_nil];omega) (by simp) (by simp) (fun _=>rfl) (fun _=>rfl) Z) Z) (ai (ai ((br (c:=0≤((k:Nat):Int)∧((k:Nat):Int)<((z.2.2.1.pts.length:Nat):Int)) (v:=.c (.pt 904 (0+((k:Nat):Int).toNat) 0)) O Z Z ⟨by omega,by omega⟩).cast (v':=.c (.pt 904 k 0)) (by rw[Int.toNat_natCast,Nat.zero_add])) Z) (ka Z Z (ai (ai (cX (l:=904) (l2:=120) (i:=k) (j:=1) (ys:=((z.2.2.1.pts.getD k default).fs++[r.1]).map Tm.cells) (ex:=[D.int .i64 (z.2.2.1.pts.getD k default).k,.any none]) O Z Z Z Z Z Z Z (bl _).symm Z Z Z Z Z Z Z (mU hkn) kN Z Z) Z) trivial))))))))))))))))) ?_
  refine jw [97,85,73,13,12,11,0,2,4,5,6,7,8,9] Z (m9 ?_)
  refine aa (js Z ?_)
  first|refine ji Z ?_|refine be Z Z ?_
  refine js Z (jf [6,97,85,73,13,12,11,0,2,4,5,7,8,9] Z (jn ?_))
  have hst:f9 z.2.2.1 l=some ⟨z.2.2.1.pre,z.2.2.1.post,z.2.2.1.code,(gc z.2.2.1.pts k r.1)⟩:=(by rw[←hkl];exact jS hr2 h4)
  refine⟨(z.1+1,z.1+1,⟨z.2.2.1.pre,z.2.2.1.post,z.2.2.1.code,(gc z.2.2.1.pts k r.1)⟩,z.2.2.2++[l]),(aD [2,4,901,902,903,904] (e':=[(0,_),(2,_),(4,_),(5,_),(6,_)]) Z Z ⟨Z,Z,Z,Z,Z,ao⟩ Z).trans (Ent.to ⟨Z,Z,Z,Z,Z,ao⟩ (by simp only[fX];rfl)),⟨bH _,by show z.1+1≤_;omega,?_,?_⟩,by show t.length-(z.1+1)<t.length-z.1;omega⟩
  rw[hl]at hst ⊢;exact hi0.2.2.1.step hi0.1 hz0 z10 hi0.2.2.2 hst
  show(10:UInt8) ∉ gT t (z.1+1) (z.1+1);rw[du];simp
 refine af (js Z ?_)
 have n4: ¬(fq l=gt∧r.2=true∧0<z.2.2.1.pts.length):=fun h=>ft z97 oY ⟨by rw[hF0];exact h.1,h.2.1,decide_eq_true (by have:=h.2.2;omega)⟩
 refine ab (Val.seq (p:=l) (q:=[112,111,105,110,116]) O Z Z Z Z Z Z) Z (js Z (jf [123,97,85,73,13,12,11,0,2,4,5,6,7,8,9] Z (jn (ak Z (fun z123=>?_) (fun z123=>?_)))))
 refine aa (bn Z ?_)
 first|refine db Z ?_|refine js Z ?_|refine be Z Z ?_
 refine js Z (jf [131,127,123,97,85,73,13,12,11,0,2,4,5,6,7,8,9] Z (aV (aD [2,4,901,902,903,904] (e':=[(131,_),(127,_),(0,_),(2,_),(4,_),(5,_),(6,_)]) Z Z ⟨Z,Z,Z,Z,Z,Z,Z,ao⟩ Z) (bU (cg (ds:=[.int .i64 (z.2.2.1.code.length:Int),.nils]) O Z Z Z Z Z Z Z Z Z Z (.d Z (.d Z .nil)) Z Z Z) Z (aI ?_))))
 refine aI ?_
 refine jf [132,127,0,2,4,5,6] Z (bU (bG (zs:=(z.2.2.1.pts++[(⟨(z.2.2.1.code.length:Int),[]⟩:Pt)]).map ii) (n:=(z.2.2.1.pts++[(⟨(z.2.2.1.code.length:Int),[]⟩:Pt)]).length) O Z Z Z Z Z Z Z Z Z Z Z Z Z Z Z Z (.row Z (bl _).symm) Z Z (by decide) Z (by simp;omega) (by simp;omega) (by rw[List.map_append,List.map_cons,List.map_nil,g9 Z]) (by simp)) Z (aI ?_))
 refine aI ?_
 refine js Z (jf [134,133,0,2,4,5,6] Z (jo Z (aI ?_)))
 refine jf [0,2,4,5,6] Z (jn (aa (js Z ?_)))
 first|refine ji Z ?_|refine be Z Z ?_
 refine js Z (jf [6,0,2,4,5] Z (jn ?_))
 have hst:f9 z.2.2.1 l=some ⟨z.2.2.1.pre,z.2.2.1.post,z.2.2.1.code,z.2.2.1.pts++[(⟨(z.2.2.1.code.length:Int),[]⟩:Pt)]⟩:=jq hr2 (bJ z123)
 refine⟨(z.1+1,z.1+1,⟨z.2.2.1.pre,z.2.2.1.post,z.2.2.1.code,z.2.2.1.pts++[(⟨(z.2.2.1.code.length:Int),[]⟩:Pt)]⟩,z.2.2.2++[l]),((aD [2,4,901,902,903,133] (e':=[(0,_),(2,_),(4,_),(5,_),(6,_)]) Z Z ⟨Z,Z,Z,Z,Z,ao⟩ Z).trans (bw 133 904 Z Z)).trans (Ent.to ⟨Z,Z,Z,Z,Z,ao⟩ Z),⟨bH _,by show z.1+1≤_;omega,?_,?_⟩,by show t.length-(z.1+1)<t.length-z.1;omega⟩
 rw[hl]at hst ⊢;exact hi0.2.2.1.step hi0.1 hz0 z10 hi0.2.2.2 hst
 show(10:UInt8) ∉ gT t (z.1+1) (z.1+1);rw[du];simp
 refine af ?_
 have n3: ¬l=bm:=ck z123
 obtain⟨x,hx⟩: ∃x,x=(jP (jO l)).1:=⟨_,rfl⟩
 obtain⟨bx,hbx⟩: ∃b,b=(jP (jO l)).2:=⟨_,rfl⟩
 refine js Z (aY O Z Z Z Z ((tL (s:=l) h1 h2 hL (by omega)).plain (v:=_) (u:=.tup [.agg (x.cells.map .d),eB bx]) (by rw[←r3,hx,hbx])) (al Z) Z Z Z Z (B0:=62000) Z Z (aZ Z (jf [63,62,123,97,85,73,13,12,11,0,2,4,5,6,7,8,9] Z (jl Z (aI ?_)))))
 refine jo Z (aI ?_)
 refine js Z (jf [15,14,123,97,85,73,13,12,11,0,2,4,5,6,7,8,9] Z (jn (ag (af (ac Z (jf [65,14,123,97,85,73,13,12,11,0,2,4,5,6,7,8,9] Z (jn (ak Z (fun z65=>?_) (fun z65=>?_)))))))))
 refine af (js Z (jo Z (aI ?_)))
 refine js Z (jr ?_)
 have hst:f9 z.2.2.1 l=none:=oy hr2 n1 n2 n3 n4 (by rw[←hbx];simpa using z65)
 rw[hl]at hst
 have hno:rdA t=none:=hi0.2.2.1.bad hi0.1 hz0 z10 hi0.2.2.2 hst
 rw[hno]
 refine⟨.inl Z,_,(ar 2 911 2 true 0 Z Z Z).trans ((ar 2 912 2 true 1 Z Z Z).trans ((ar 2 913 2 true 2 Z Z Z).trans (ar 2 914 2 true 3 Z Z Z))),_,Z,[911,912,913,914],by decide,Z,Z,Z⟩
 refine ae (aa (aZ Z (jf [69,68,65,14,123,97,85,73,13,12,11,0,2,4,5,6,7,8,9] Z (aV (aD [2,4,901,902,903,904] (e':=[(69,_),(68,_),(0,_),(2,_),(4,_),(5,_),(6,_)]) Z Z ⟨Z,Z,Z,Z,Z,Z,Z,ao⟩ Z) (bU (cg (ds:=In.cells x) O Z Z Z Z Z Z Z Z Z Z (.d Z (.d Z .nil)) Z Z Z) Z (aI ?_))))))
 refine aI ?_
 refine jf [70,68,0,2,4,5,6] Z (bU (bG (zs:=(z.2.2.1.code++[x]).map In.cells) (n:=(z.2.2.1.code++[x]).length) O Z Z Z Z Z Z Z Z Z Z Z Z Z Z Z Z (.row Z (bl _).symm) Z Z (by decide) Z (by simp;omega) (by simp;omega) (by simp) (by simp)) Z (aI ?_))
 refine aI ?_
 refine js Z (jf [72,71,0,2,4,5,6] Z (jo Z (aI ?_)))
 refine jf [0,2,4,5,6] Z (jn (aa (js Z ?_)))
 first|refine ji Z ?_|refine be Z Z ?_
 refine js Z (jf [6,0,2,4,5] Z (jn ?_))
 have hst:f9 z.2.2.1 l=some ⟨z.2.2.1.pre,z.2.2.1.post,z.2.2.1.code++[x],z.2.2.1.pts⟩:=(by rw[hx];exact oz hr2 n1 n2 n3 n4 (by rw[←hbx];simpa using z65))
 refine⟨(z.1+1,z.1+1,⟨z.2.2.1.pre,z.2.2.1.post,z.2.2.1.code++[x],z.2.2.1.pts⟩,z.2.2.2++[l]),((aD [2,4,901,902,71,904] (e':=[(0,_),(2,_),(4,_),(5,_),(6,_)]) Z Z ⟨Z,Z,Z,Z,Z,ao⟩ Z).trans (bw 71 903 Z Z)).trans (Ent.to ⟨Z,Z,Z,Z,Z,ao⟩ Z),⟨bH _,by show z.1+1≤_;omega,?_,?_⟩,by show t.length-(z.1+1)<t.length-z.1;omega⟩
 rw[hl]at hst ⊢;exact hi0.2.2.1.step hi0.1 hz0 z10 hi0.2.2.2 hst
 show(10:UInt8) ∉ gT t (z.1+1) (z.1+1);rw[du];simp
 refine aR (ag (af ?_))
 have hz1:z.1=t.length:=by have:=ck z20;have:=hi.2.1;omega
 have hno:=hi.2.2.2
 rw[hz1]at hno
 have hrd:=hi.2.2.1.fin hno
 refine aV (Ent.rowLe 904 (ys:=z.2.2.1.pts.map Pt.cells) Z (ke z.2.2.1.pts)) (aI ?_)
 refine ac Z (ab (bd (p:=t) O Z Z Z Z Z Z Z Z Z) Z (ac Z (jf [139,20,0,2,4,5,6] Z (ay 2 Z Z Z (fun hx=>bD O hx Z Z Z Z (c67 (a:=z.2.2.1) h1 h2) (.cons (.c (.pb (cs:=z.2.2.1.data) Z (.cons (.whole Z (bl _).symm) (.cons (.whole Z (bl _).symm) (.cons (.whole Z (bl _).symm) (.cons (.whole Z (bl _).symm) .nil)))))) .nil) Z Z Z Z Z Z Z (B0:=141000) Z (au hx Z (AN.nil))) Z Z ?_))))
 first|refine ab (aq O Z Z Z Z Z) Z ?_|refine ab (Val.pickB O Z Z Z Z Z) Z ?_|refine ab (aj O Z Z Z Z Z) Z ?_
 refine js Z (jf [143,20,0,2,4,5,6] Z (ay 3 Z Z Z (fun hx=>bD O hx Z Z Z Z (tU (a:=z.2.2.1) h1 h2 (qw hx) hL) (.cons (.c (.pb (cs:=z.2.2.1.data) Z (.cons (.whole Z (bl _).symm) (.cons (.whole Z (bl _).symm) (.cons (.whole Z (bl _).symm) (.cons (.whole Z (bl _).symm) .nil)))))) .nil) Z Z Z Z Z Z Z (B0:=145000) Z (au hx Z (bE hx (cH (p:=dO z.2.2.1) (q:=t) O Z Z Z Z Z Z) Z (AN.nil)))) Z Z ?_))
 first|refine ab (aq O Z Z Z Z Z) Z ?_|refine ab (Val.pickB O Z Z Z Z Z) Z ?_|refine ab (aj O Z Z Z Z Z) Z ?_
 refine jf [147,20,0,2,4,5,6] Z (jn (ak Z (fun z147=>?_) (fun z147=>?_)))
 refine af (js Z (jo Z (aI ?_)))
 refine js Z (jr ?_)
 rw[hrd,if_neg (fun hh=>rZ z147 ⟨by omega,hh.2.1,hh.2.2⟩)]
 refine⟨.inl Z,_,(ar 2 911 2 true 0 Z Z Z).trans ((ar 2 912 2 true 1 Z Z Z).trans ((ar 2 913 2 true 2 Z Z Z).trans (ar 2 914 2 true 3 Z Z Z))),_,Z,[911,912,913,914],by decide,Z,Z,Z⟩
 refine ae (af (js Z (jo Z (aI ?_))))
 refine js Z (jr ?_)
 have hy:=qv z147
 rw[hrd,if_pos ⟨by have:=hy.1;omega,hy.2.1,hy.2.2⟩]
 refine⟨.inl Z,_,el,_,Z,[901,902,903,904],by decide,Z,Z,Z⟩
theorem se{L:Nat}(h1:4096≤L)(h2:L≤1073741824){t:Str}(hL:1048576<L)(hs:t.length≤1048576):MC Tryz.prog L 9 [aS8 t] [] (Plain (.tup [n0 (gU (rdA t)).1,eB (gU (rdA t)).2])):=(tN h1 h2 hL hs).frozen (.tup (.cons (.agg (.cons (.whole rfl (bl _).symm) (.cons (.whole rfl (bl _).symm) (.cons (.whole rfl (bl _).symm) (.cons (.whole rfl (bl _).symm) .nil))))) (.cons (.c .d) .nil)))
theorem c1461{t:Str}(hL:1048576<L)(hs:t.length≤1048576):MQ h1 h2 4 [aS8 t] [] (Plain (.tup [n0 (gU (rdA t)).1,eB (gU (rdA t)).2])):=by
 refine MC.data (jB 8 h1 h2 Tryz.func4 Z fun O hF=>?_)
 obtain⟨a,ha⟩: ∃a,a=(gU (rdA t)).1:=⟨_,rfl⟩
 obtain⟨b,hb⟩: ∃b,b=(gU (rdA t)).2:=⟨_,rfl⟩
 rw[←ha,←hb]
 refine af (jl Z (aI ?_))
 refine js Z (bq (js Z (jf [4,3,2] Z (aY O Z Z Z Z ((se (t:=t) h1 h2 hL hs).plain (v:=_) (u:=.tup [n0 a,eB b]) (by rw[ha,hb])) (al Z) Z Z Z Z (B0:=6000) Z Z (ac Z (jf [7,6,3,2] Z (jo Z (aI ?_))))))))
 refine js Z (jf [3,2] Z (jr ?_))
 refine aw Z ?_
 exact .tup (.cons (.agg (aP Z)) (.cons (.c .d) .nil))
theorem c1460v{s:Str}{r:An}(hcc:1+cnt nT r.pre+cnt nT r.post+cnt nIn r.code+cnt nP r.pts≤(1073741824:Int))(hs:s.length≤1048576)(cs:MQ h1 h2 4 [aS8 s] [] (Plain (.tup [n0 r,eB true])))(ci:MQ h1 h2 5 [aS8 s] [] (Rows (.tup [.agg [.rs 0 0 r.pre.length,.rs 1 0 r.post.length,.rs 2 0 r.code.length,.rs 3 0 r.pts.length],eB true]) [dc r.pre,dc r.post,fd r.code,gW r.pts]))(hcp:1≤(1073741824:Int)):MQ h1 h2 3 [aS8 s] [] (Plain (eB true)):=by
 refine am ?_ Z
 refine jB 66 h1 h2 Tryz.func3 Z fun O hF=>?_
 have hbig:L≤9223372036854775807:=Nat.le_trans h2 (by decide)
 refine af (js Z (jn (ag (af (js Z (ab (bd (p:=s) O Z Z Z Z Z Z Z Z Z) Z (js Z (jf [13,2,0] Z (jn (ak Z (fun z13=>?_) (fun z13=>?_)))))))))))
 exact absurd (bJ z13) (by omega)
 refine ae (af (js Z (jf [15,2,0] Z (aY O Z Z Z Z (cs) (al Z) Z Z Z Z (B0:=17000) Z Z (aZ Z (jf [18,17,2,0] Z (jl Z (aI ?_))))))))
 refine jo Z (aI ?_)
 refine js Z (jf [4,3,2,0] Z (bq (js Z (ch O (B0:=22000) Z Z Z Z (ci) (.cons (.c .d) .nil) Z Z Z Z Z Z (aI ?_)))))
 refine aZ Z (jf [23,22,4,3,2,0] Z (jl Z (aI ?_)))
 refine jo Z (aI ?_)
 refine js Z (jf [6,5,4,3,2,0] Z (jn (ag (af (ac Z (bg O Z Z Z Z ((uh (s:=r) (t:=r) h1 h2).plain (u:=eB true) (by simp)) (.cons (.agg (.cons (.whole Z (bl _).symm) (.cons (.whole Z (bl _).symm) (.cons (.whole Z (bl _).symm) (.cons (.whole Z (bl _).symm) .nil))))) (.cons (.agg (aP Z)) .nil)) Z Z Z Z Z (B0:=27000) Z (ac Z (jf [28,6,5,4,3,2,0] Z (nU Z (js Z (jf [29,28,5,4,3,2,0] Z (nU Z (js Z (nU Z (js Z (ab (bf O Z Z Z Z Z) Z (jf [32,5,4,3,2,0] Z (jn (ak Z (fun z32=>?_) (fun z32=>?_))))))))))))))))))))
 exact pV z32
 refine ae (af (js Z (bq (ac Z (jf [34,33,7,5,4,3,2,0] Z (ca O [22000,22001,22002,22003] (bin:=[dc r.pre,dc r.post,fd r.code,gW r.pts]) Z Z Z Z (vw (a:=r) (k:=1) h1 h2 (by decide) (by omega)) Z Z Z Z Z Z (B0:=36000) Z Z (aI ?_)))))))
 refine js Z (jf [7,5,4,3,2,0] Z (bq (js Z (bq (ac Z (bg O Z Z Z Z (ug (a:=r) (k:=1) h1 h2 (by decide) (by omega)) (.cons (.agg (.cons (.whole Z ((bl _).trans ax).symm) (.cons (.whole Z ((bl _).trans ax).symm) (.cons (.whole Z ((bl _).trans ax).symm) (.cons (.whole Z ((bl _).trans ax).symm) .nil))))) (.cons (.c .d) .nil)) Z Z Z Z Z (B0:=39000) Z (js Z (jf [8,7,5,4,3,2,0] Z (jn (ag (af (ac Z (jn (ak Z (fun z40=>?_) (fun z40=>?_)))))))))))))))
 exact absurd (bJ z40) (by omega)
 refine ae (ag (af (aZ Z (jf [43,39,8,7,5,4,3,2,0] Z (jn (ak Z (fun z43=>?_) (fun z43=>?_)))))))
 exact absurd z43 (by simp)
 refine ae (af (js Z (jf [45,39,8,7,5,4,3,2,0] Z (ch O (B0:=47000) Z Z Z Z (ci) (al Z) Z Z Z Z Z Z (aI ?_)))))
 refine aZ Z (jf [48,47,39,8,7,5,4,3,2,0] Z (jl Z (aI ?_)))
 refine jo Z (aI ?_)
 refine js Z (jf [10,9,39,8,7,5,4,3,2,0] Z (jn (ag (af (ac Z (bg O Z Z Z Z ((uh (s:=r) (t:=r) h1 h2).plain (u:=eB true) (by simp)) (.cons (.agg (.cons (.whole Z (bl _).symm) (.cons (.whole Z (bl _).symm) (.cons (.whole Z (bl _).symm) (.cons (.whole Z (bl _).symm) .nil))))) (.cons (.agg (aP Z)) .nil)) Z Z Z Z Z (B0:=52000) Z (ac Z (jf [53,10,9,39,8,7,5,4,3,2,0] Z (nU Z (js Z (jf [54,53,9,39,8,7,5,4,3,2,0] Z (nU Z (js Z (nU Z (js Z (ab (bf O Z Z Z Z Z) Z (jf [57,9,39,8,7,5,4,3,2,0] Z (jn (ak Z (fun z57=>?_) (fun z57=>?_))))))))))))))))))))
 exact pV z57
 refine ae (af (js Z (bq (ac Z (jf [59,58,8,9,39,7,5,4,3,2,0] Z (bg O Z Z Z Z (ug (a:=r) (k:=1) h1 h2 (by decide) (by omega)) (.cons (.agg (.cons (.whole Z ((bl _).trans ax).symm) (.cons (.whole Z ((bl _).trans ax).symm) (.cons (.whole Z ((bl _).trans ax).symm) (.cons (.whole Z ((bl _).trans ax).symm) .nil))))) (.cons (.c .d) .nil)) Z Z Z Z Z (B0:=61000) Z (js Z (jf [8,9,39,7,5,4,3,2,0] Z (jn (ag (af (ac Z (jn (ak Z (fun z62=>?_) (fun z62=>?_)))))))))))))))
 exact absurd (bJ z62) (by omega)
 refine ae (ag (af (aZ Z (jf [65,61,8,9,39,7,5,4,3,2,0] Z (jn (ak Z (fun z65=>?_) (fun z65=>?_)))))))
 exact absurd z65 (by simp)
 refine ae (af (js Z (jr ?_)))
 refine aw Z ?_
 rfl
theorem c1460w{s:Str}{r:An}(hcc:1+cnt nT r.pre+cnt nT r.post+cnt nIn r.code+cnt nP r.pts≤(1073741824:Int))(hs:s.length≤1048576)(cs:MQ h1 h2 4 [aS8 s] [] (Plain (.tup [n0 r,eB false])))(ci:MQ h1 h2 5 [aS8 s] [] (Rows (.tup [.agg [.rs 0 0 r.pre.length,.rs 1 0 r.post.length,.rs 2 0 r.code.length,.rs 3 0 r.pts.length],eB false]) [dc r.pre,dc r.post,fd r.code,gW r.pts]))(hcp:1≤(1073741824:Int)):MQ h1 h2 3 [aS8 s] [] (Plain (eB true)):=by
 refine am ?_ Z
 refine jB 66 h1 h2 Tryz.func3 Z fun O hF=>?_
 have hbig:L≤9223372036854775807:=Nat.le_trans h2 (by decide)
 refine af (js Z (jn (ag (af (js Z (ab (bd (p:=s) O Z Z Z Z Z Z Z Z Z) Z (js Z (jf [13,2,0] Z (jn (ak Z (fun z13=>?_) (fun z13=>?_)))))))))))
 exact absurd (bJ z13) (by omega)
 refine ae (af (js Z (jf [15,2,0] Z (aY O Z Z Z Z (cs) (al Z) Z Z Z Z (B0:=17000) Z Z (aZ Z (jf [18,17,2,0] Z (jl Z (aI ?_))))))))
 refine jo Z (aI ?_)
 refine js Z (jf [4,3,2,0] Z (bq (js Z (ch O (B0:=22000) Z Z Z Z (ci) (.cons (.c .d) .nil) Z Z Z Z Z Z (aI ?_)))))
 refine aZ Z (jf [23,22,4,3,2,0] Z (jl Z (aI ?_)))
 refine jo Z (aI ?_)
 refine js Z (jf [6,5,4,3,2,0] Z (jn (ag (af (ac Z (bg O Z Z Z Z ((uh (s:=r) (t:=r) h1 h2).plain (u:=eB true) (by simp)) (.cons (.agg (.cons (.whole Z (bl _).symm) (.cons (.whole Z (bl _).symm) (.cons (.whole Z (bl _).symm) (.cons (.whole Z (bl _).symm) .nil))))) (.cons (.agg (aP Z)) .nil)) Z Z Z Z Z (B0:=27000) Z (ac Z (jf [28,6,5,4,3,2,0] Z (nU Z (js Z (jf [29,28,5,4,3,2,0] Z (nU Z (js Z (nU Z (js Z (ab (bf O Z Z Z Z Z) Z (jf [32,5,4,3,2,0] Z (jn (ak Z (fun z32=>?_) (fun z32=>?_))))))))))))))))))))
 exact pV z32
 refine ae (af (js Z (bq (ac Z (jf [34,33,7,5,4,3,2,0] Z (ca O [22000,22001,22002,22003] (bin:=[dc r.pre,dc r.post,fd r.code,gW r.pts]) Z Z Z Z (vw (a:=r) (k:=1) h1 h2 (by decide) (by omega)) Z Z Z Z Z Z (B0:=36000) Z Z (aI ?_)))))))
 refine js Z (jf [7,5,4,3,2,0] Z (bq (js Z (bq (ac Z (bg O Z Z Z Z (ug (a:=r) (k:=1) h1 h2 (by decide) (by omega)) (.cons (.agg (.cons (.whole Z ((bl _).trans ax).symm) (.cons (.whole Z ((bl _).trans ax).symm) (.cons (.whole Z ((bl _).trans ax).symm) (.cons (.whole Z ((bl _).trans ax).symm) .nil))))) (.cons (.c .d) .nil)) Z Z Z Z Z (B0:=39000) Z (js Z (jf [8,7,5,4,3,2,0] Z (jn (ag (af (ac Z (jn (ak Z (fun z40=>?_) (fun z40=>?_)))))))))))))))
 exact absurd (bJ z40) (by omega)
 refine ae (ag (af (aZ Z (jf [43,39,8,7,5,4,3,2,0] Z (jn (ak Z (fun z43=>?_) (fun z43=>?_)))))))
 exact absurd z43 (by simp)
 refine ae (af (js Z (jf [45,39,8,7,5,4,3,2,0] Z (ch O (B0:=47000) Z Z Z Z (ci) (al Z) Z Z Z Z Z Z (aI ?_)))))
 refine aZ Z (jf [48,47,39,8,7,5,4,3,2,0] Z (jl Z (aI ?_)))
 refine jo Z (aI ?_)
 refine js Z (jf [10,9,39,8,7,5,4,3,2,0] Z (jn (ag (af (ac Z (bg O Z Z Z Z ((uh (s:=r) (t:=r) h1 h2).plain (u:=eB true) (by simp)) (.cons (.agg (.cons (.whole Z (bl _).symm) (.cons (.whole Z (bl _).symm) (.cons (.whole Z (bl _).symm) (.cons (.whole Z (bl _).symm) .nil))))) (.cons (.agg (aP Z)) .nil)) Z Z Z Z Z (B0:=52000) Z (ac Z (jf [53,10,9,39,8,7,5,4,3,2,0] Z (nU Z (js Z (jf [54,53,9,39,8,7,5,4,3,2,0] Z (nU Z (js Z (nU Z (js Z (ab (bf O Z Z Z Z Z) Z (jf [57,9,39,8,7,5,4,3,2,0] Z (jn (ak Z (fun z57=>?_) (fun z57=>?_))))))))))))))))))))
 exact pV z57
 refine ae (af (js Z (bq (ac Z (jf [59,58,8,9,39,7,5,4,3,2,0] Z (bg O Z Z Z Z (ug (a:=r) (k:=1) h1 h2 (by decide) (by omega)) (.cons (.agg (.cons (.whole Z ((bl _).trans ax).symm) (.cons (.whole Z ((bl _).trans ax).symm) (.cons (.whole Z ((bl _).trans ax).symm) (.cons (.whole Z ((bl _).trans ax).symm) .nil))))) (.cons (.c .d) .nil)) Z Z Z Z Z (B0:=61000) Z (js Z (jf [8,9,39,7,5,4,3,2,0] Z (jn (ag (af (ac Z (jn (ak Z (fun z62=>?_) (fun z62=>?_)))))))))))))))
 exact absurd (bJ z62) (by omega)
 refine ae (ag (af (aZ Z (jf [65,61,8,9,39,7,5,4,3,2,0] Z (jn (ak Z (fun z65=>?_) (fun z65=>?_)))))))
 exact absurd z65 (by simp)
 refine ae (af (js Z (jr ?_)))
 refine aw Z ?_
 rfl
theorem c1460l{L:Nat}(h1:4096≤L)(h2:L≤9223372036854775807){s:Str}(hs:1048576<s.length):MC Tryz.prog L 3 [aS8 s] [] (Plain (eB true)):=by
 refine am ?_ Z
 have O:=rD (nt:=66) h1 h2
 refine MC.body O Tryz.func3 (by kernel_rfl) Z Z (Nat.le_of_ble_eq_true Z) (fun hF=>?_)
 refine af (js Z (jn (ag (af (js Z (ab (bd (p:=s) O Z Z Z Z Z Z Z Z Z) Z (js Z (jf [13,2,0] Z (jn (ak Z (fun z13=>?_) (fun z13=>?_)))))))))))
 refine af (js Z (jr ?_))
 refine aw Z ?_
 rfl
 exact absurd z13 (by simp;omega)
end Go.Al
/- What the rows of the texts share: what the package-level variables hold in every world that a row ranges over. -/
namespace Go.Proofs.YtnjjkcooihngnaaGreatDoor
open Go.ChangeShapes Go.WideShapes Go.ChangeAt Go.RowKit Go.Al
theorem wrapLaid{H:Type}{enc:TypeId×Value→H}{a:Assume}{C:Checked}{os:Os}{f:FuncId}{fn:Func}{s:ChangeSpec}{conds:List PathCond}{apart fresh handsOn again:Bool}{X:World→Array Value→Prop}
    (hX: ∀(w w':World) (args:Array Value),w.heap=w'.heap→X w args→X w' args)
    (own:ownKnob C.prog.godebug=none) (started:os.Started) (noInit:C.prog.inits.idxOf? f=none) (hfn:C.prog.funcs[f]? = some fn)
    (witness: ∃(w:World) (tape:Tape) (i:Input),w.os=os∧(w.forCall tape i).Shaped C.prog∧i.vars=[]∧Input.okWide C.prog (w.forCall tape i) .any w.heap.size f i∧
      ((s.pre enc C.prog fn conds apart (w.forCall tape i).memory i.args∧X (w.forCall tape i).memory i.args)∧sizedMet enc C.prog fn (OpenSpec.ofChange s) apart (w.forCall tape i).memory i.args)∧a.holds C.prog (lone (Frame.enter C.prog f i.args .normal) [] (w.forCall tape i)))
    (contract: ∀(W:World) (base:Nat) (args:Array Value) (ds gs:List (DataW H)) (before:List MemPlace),
      (∀(j:Nat) t v,fn.params[j]? = some t→args[j]? = some v→Value.okWide C.prog W .any base t v)→
      DataW.Whole enc C.prog fn.params.toList s.vars apart W args.toList ds gs before→X W args→W.ShapedOpen C.prog→
      Calls C.prog f args W fun e W'=> ∃v,e= .returned v∧s.post enc C.prog fn apart fresh handsOn again W args v W') :
    ReturnsInHanded a C os f .any (fun w args=>(s.pre enc C.prog fn conds apart w args∧X w args)∧sizedMet enc C.prog fn (OpenSpec.ofChange s) apart w args) (s.post enc C.prog fn apart fresh handsOn again):=by
 refine returnsInHanded_of_calls own started noInit witness ?_
 intro w tape i _ hsh _ hok hpre hholds
 obtain⟨_,_,_,fn',hfn',_,_,_,_,hval⟩:=hok
 have e:fn'=fn:=Option.some.inj (hfn'.symm.trans hfn)
 subst e
 obtain⟨⟨⟨ds,gs,before,hw,hc⟩,hx⟩,hz⟩:=hpre
 have hw':=DataW.Whole.of_heap (w':=w.forCall tape i) (by rfl) hw
 refine(contract (w.forCall tape i) w.heap.size i.args ds gs before hval hw' (hX _ _ _ (by rfl) hx) hsh).mono fun e W' ⟨v,he,hp⟩=>?_
 subst he
 exact ChangeSpec.post_blind hp
theorem gJ{P:Program}{w:World}: ∀{l:List (String×DataW Unit)} {ps:List MemPlace},DataW.LaidVars P w l ps→∀{x:String×DataW Unit},x∈l→
    ∃g t cs fuel p,P.globalNamed x.1=some g∧(P.globals[g]?).map (·.type)=some t∧w.var? P x.1=some cs∧DataW.trod (fun _=>()) P w 0 (fun _=>true) false fuel t cs.toList=some (x.2,p)
 | [],_,_,_,h=>by cases h
 | (n,d)::l,_,h,x,hx=>by
  obtain⟨g,t,cs,fuel,p,q,hg,ht,hv,hd,hr,_⟩:=h
  rcases List.mem_cons.1 hx with rfl|hx
  exact⟨g,t,cs,fuel,p,hg,ht,hv,hd⟩
  exact gJ hr hx
theorem qe{P:Program}{w:World}{n:Nat}{t e:TypeId}{fuel:Nat}{cs:Array Value}{zs:List Int}{p:List MemPlace}(ht:P.underlying t=some (.array n e))(he:P.underlying e=some (.int .u64))(hc:P.cellsOf t=n)(hce:P.cellsOf e=1)(hn:zs.length=n)
    (hd:DataW.trod (fun _:TypeId×Value=>()) P w 0 (fun _=>true) false fuel t cs.toList=some (.agg (zs.map fun z=>.lit (.int .u64 z)),p)):cs=(zs.map fun z=>Value.int .u64 z).toArray:=by
 obtain⟨xs,m,_,ex,hl,hxs,hel⟩:=DataW.trod_array ht hd
 have e3:(xs.map (·.1))=zs.map fun z=>.lit (.int .u64 z):=(DataW.agg.inj (Prod.mk.inj ex).1).symm
 have key:cs.toList=zs.map fun z=>Value.int .u64 z:=by
  refine List.ext_getElem (by simp[hl,hc,hn]) fun i h1 h2=>?_
  have hi:i<n:=by simpa[hn]using h2
  have hE:=hel i hi
  rw[hce,Nat.mul_one,List.getElem?_eq_getElem (by omega)]at hE
  obtain⟨z,e1,e2,_⟩:=DataW.trod_int he hE
  have e4:(xs.map (·.1))[i]? = (zs.map fun z=>(DataW.lit (.int .u64 z):DataW Unit))[i]? := by rw[e3]
  rw[List.getElem?_map,List.getElem?_map,List.getElem?_eq_getElem (by omega:i<xs.length),List.getElem?_eq_getElem (by omega:i<zs.length),e2]at e4
  simp only[Option.map_some,dN,DataW.lit.injEq,Lit.int.injEq,true_and]at e4
  have h0:((cs.toList.drop i).take 1)[0]? = some (.int .u64 z):=by rw[e1];rfl
  have h3:cs.toList[i]? = some (.int .u64 z):=by simpa using h0
  rw[List.getElem?_eq_getElem h1]at h3
  rw[Option.some.inj h3,e4,List.getElem_map]
 rw[←key]
theorem nl:(Rows.laid_internal_strconv_uint64pow10:DataW Unit)= .agg (Lib.pow10Tab.map fun z=>.lit (.int .u64 z)):=by kernel_rfl
end Go.Proofs.YtnjjkcooihngnaaGreatDoor
/- The package-level variables of the rows that list four of them. -/
namespace Go.Proofs.YtnjjkcooihngnaaGreatDoor
open Go.ChangeShapes Go.WideShapes Go.ChangeAt Go.RowKit Go.Al
theorem ox: "*" ++ "errors.errorString" = "*errors.errorString" := by decide
theorem qV(u:TypeId)(h:Tryz.prog.typeName? 3 u=some "*errors.errorString"):u=160:=
  typeName_ptr_named (nm:= "errors.errorString") (by rw[ox];kernel_rfl) (by kernel_rfl) (by decide) u (by rw[ox];exact h)
theorem nu{W:World}{r:List (String×DataW Unit)}(h:laidMet Tryz.prog (("strconv.ErrRange",Rows.laid_strconv_ErrRange)::r) W): ∃cs,W.var? Tryz.prog "strconv.ErrRange" = some cs∧∃te pe,cs[0]? = some (Value.iface te pe):=by
 obtain⟨a,s,hv,_⟩:=laid_sentinel h (show Tryz.prog.globalNamed "strconv.ErrRange" = some 2 by kernel_rfl) (show(Tryz.prog.globals[2]?).map (·.type)=some 99 by kernel_rfl) Tryz.underlying99 qV Tryz.underlying160 Tryz.underlying162 rfl rfl Tryz.underlying9 (by kernel_rfl) (by kernel_rfl)
 exact⟨_,hv,_,_,Z⟩
theorem l5{W:World}{r:List (String×DataW Unit)}(h:laidMet Tryz.prog (("strconv.ErrSyntax",Rows.laid_strconv_ErrSyntax)::r) W): ∃cs,W.var? Tryz.prog "strconv.ErrSyntax" = some cs∧∃te pe,cs[0]? = some (Value.iface te pe):=by
 obtain⟨a,s,hv,_⟩:=laid_sentinel h (show Tryz.prog.globalNamed "strconv.ErrSyntax" = some 1 by kernel_rfl) (show(Tryz.prog.globals[1]?).map (·.type)=some 99 by kernel_rfl) Tryz.underlying99 qV Tryz.underlying160 Tryz.underlying162 rfl rfl Tryz.underlying9 (by kernel_rfl) (by kernel_rfl)
 exact⟨_,hv,_,_,Z⟩
theorem gok4{W:World}{laid r1 r2:List (String×DataW Unit)}(hl:laidMet Tryz.prog laid W)(hm:("internal/strconv.uint64pow10",Rows.laid_internal_strconv_uint64pow10)∈laid)(hR:laidMet Tryz.prog (("strconv.ErrRange",Rows.laid_strconv_ErrRange)::r1) W)(hS:laidMet Tryz.prog (("strconv.ErrSyntax",Rows.laid_strconv_ErrSyntax)::r2) W)(hs:W.ShapedOpen Tryz.prog):GOk Tryz.prog W okAll:=by
 intro n g hn hg
 refine⟨trivial,?_⟩
 simp only[GN,List.mem_cons,List.mem_nil_iff,or_false]at hn
 rcases hn with rfl|rfl|rfl|rfl
 obtain⟨ps,hv,_,_⟩:=hl
 obtain⟨g',t,cs,fuel,p,hg',ht,hv,hd⟩:=gJ hv (x:=("internal/strconv.uint64pow10",Rows.laid_internal_strconv_uint64pow10)) hm
 obtain rfl:=Option.some.inj ((show Tryz.prog.globalNamed "internal/strconv.uint64pow10" = some 5 by kernel_rfl).symm.trans hg')
 obtain rfl:=Option.some.inj ((show(Tryz.prog.globals[5]?).map (·.type)=some 156 by kernel_rfl).symm.trans ht)
 refine⟨cs,hv,fun _=>?_,fun h=>absurd h (by simp),fun h=>absurd h (by simp)⟩
 refine qe (n:=20) (e:=132) Tryz.underlying156 Tryz.underlying132 (by kernel_rfl) (by kernel_rfl) Lib.pow10Tab_length (p:=p) (fuel:=fuel) (P:=Tryz.prog) (w:=W) ?_
 rw[←nl]
 exact hd
 obtain rfl:=Option.some.inj ((show Tryz.prog.globalNamed "internal/bytealg.MaxLen" = some 0 by kernel_rfl).symm.trans hg)
 obtain⟨m,hm⟩:=cell_of_shapedOpen_int (k:=.i64) (g:=0) (t:=3) (zero:= #[.int .i64 0]) hs (bJ (by kernel_rfl)) (by kernel_rfl) rfl (by kernel_rfl) (by kernel_rfl) Tryz.underlying3
 have hm':=hm
 unfold World.cell? at hm'
 unfold World.var?
 rw[hg,Option.bind_some]
 cases hb:W.heap[0]? with
 | none=>simp[hb]at hm'
 | some o=>
  cases o with
  | cells cs c d=>exact⟨cs,Z,fun h=>absurd h (by simp),fun _=>⟨m,by simpa[hb]using hm'⟩,fun h=>absurd h (by simp)⟩
  | _=>simp[hb]at hm'
 obtain⟨cs,hv,te,pe,hc⟩:=l5 hS
 exact⟨cs,hv,fun h=>absurd h (by simp),fun h=>absurd h (by simp),fun _=>⟨_,hc,.inr ⟨te,pe,Z⟩⟩⟩
 obtain⟨cs,hv,te,pe,hc⟩:=nu hR
 exact⟨cs,hv,fun h=>absurd h (by simp),fun h=>absurd h (by simp),fun _=>⟨_,hc,.inr ⟨te,pe,Z⟩⟩⟩
end Go.Proofs.YtnjjkcooihngnaaGreatDoor
