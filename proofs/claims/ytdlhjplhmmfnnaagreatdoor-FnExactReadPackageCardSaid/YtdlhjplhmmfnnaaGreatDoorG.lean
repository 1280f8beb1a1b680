/- The readers of annotated code of both sides, walked. -/
import Derived.Test.YtdlhjplhmmfnnaaGreatDoorE
import Derived.Test.YtdlhjplhmmfnnaaGreatDoorF
import Derived.Test.YtdlhjplhmmfnnaaGreatDoorC
set_option linter.unusedVariables false
set_option linter.unusedSimpArgs false
set_option maxRecDepth 10000
set_option maxHeartbeats 4000000
open Go.Proofs
namespace Go.Al
variable{L:Nat}(h1:4096≤L)(h2:L≤1073741824)
abbrev yn(r:Tm×Bool):A:=.tup [.agg [.d (.int .i64 r.1.c),.rs 0 0 r.1.xs.length],eB r.2]
theorem zv{c:Int}{xs:List Int}:MQ h1 h2 109 [eI c,cd xs] [] (Rows (yn (im c xs)) [cL (im c xs).1.xs]):=by
 refine cK (jB 32 h1 h2 Tryz.func109 Z fun O hF=>?_)
 have hl:xs.length≤L:=by simpa[As.fact,A.fact,M.fact,D.fact,Ds.fact]using hF.2.1.1
 refine ae (jl Z (aB ?_))
 refine js Z (be (js Z ?_))
 first|refine cm Z ?_|refine js Z ?_|refine aU Z Z ?_
 refine js Z (jf [6,5,4,0,1] Z (jn (ag (am (av (X:=Nat) (fun n=>⟨[(0,eI c),(1,cd xs),(4,.c (.pt 4 0 0)),(6,eI n)],[(4,.box [.d (.int .i64 0),.d .nils])]⟩) (fun n=>n≤xs.length∧bO (xs.take n)=bO xs) (fun n=>n) xs.length (Ent.env ⟨Z,Z,Z,Z,ao⟩) ?_ (fun n hi=>?_))))))
 exact⟨bQ _,by rw[List.take_length]⟩
 refine ag (ae (aF Z (jf [12,0,1,4,6] Z (ar 6 Z Z Z (fun hx=>aq hx Z (aq hx Z (bf hx (vF Z) Z (bf hx (vD Z) Z (aq hx Z (aq hx Z (AN.nil))))))) Z Z ?_))))
 first|refine aa (aj O Z Z Z Z Z) Z ?_|refine aa (al O Z Z Z Z Z) Z ?_|refine aa (Val.pickB O Z Z Z Z Z) Z ?_
 refine jf [19,0,1,4,6] Z (jn (ak Z (fun z19=>?_) (fun z19=>?_)))
 refine af (am (ab (js Z ?_)))
 first|refine ji Z ?_|refine aU Z Z ?_
 refine js Z (jf [6,19,0,1,4] Z (jn ?_))
 rw[Bool.cond_false_right,bK,decide_eq_true_eq,decide_eq_true_eq]at z19
 obtain⟨k,hk⟩: ∃k,n=k+1:=⟨n-1,by omega⟩
 subst hk
 have hk2:((k+1:Nat):Int)-1=k:=by omega
 rw[hk2]at z19
 refine⟨k,Ent.to ⟨Z,Z,Z,by rw[hk2];rfl,ao⟩ Z,⟨by omega,?_⟩,Nat.lt_succ_self k⟩
 rw[←hi.2,jk (by omega) (by simpa using z19.2)]
 refine aJ (ae (aF Z ?_))
 have hd:bO (xs.take n)=xs.take n:=gn hi.1 (by
  rw[Bool.cond_false_right]at z19
  rcases Nat.eq_zero_or_pos n with h0|h0
  ·
   exact .inl h0
  ·
   refine .inr (fun h9=>?_)
   have e1:((n:Int)-1).toNat=n-1:=by omega
   rw[e1,h9]at z19;simp at z19;omega)
 have ht:=hi.2
 rw[hd]at ht
 refine aa ((br O Z Z ⟨by omega,by simp;omega⟩).cast (v':=cd (bO xs)) (by rw[←ht];simp[List.map_take])) Z (jf [25,22,19,0,1,4,6] Z (bk O (B0:=27000) Z Z Z Z (y2 (xs:=bO xs) h1 h2) (ah Z) Z Z Z Z Z Z (aB ?_)))
 refine js Z (jf [27,19,0,1,4,6] Z (jl Z (aB ?_)))
 refine jo Z (aB ?_)
 refine jn (ag (ae (aZ O Z Z Z Z (uR (t:=⟨c,bO xs⟩) h1 h2) (.cons (.c (.pb (cs:=Tm.cells ⟨c,bO xs⟩) Z (.cons .d (.cons (.whole Z (bd _).symm) .nil)))) .nil) Z Z Z Z Z (B0:=29000) Z (js Z (jn (ak Z (fun z29=>?_) (fun z29=>?_)))))))
 refine ae (js Z (jo Z (aB ?_)))
 refine js Z (jr ?_)
 have hok:(Tm.mk c (bO xs)).ok=false:=by simpa using z29
 rw[show im c xs=(⟨0,[]⟩,false)from if_neg (by rw[hok];decide)]
 refine⟨.inl Z,_,ap 4 900 1 true 1 Z Z Z,_,Z,[900],by decide,Z,Z,Z⟩
 refine af (ae (js Z (jo Z (aB ?_))))
 refine js Z (jr ?_)
 have hok:(Tm.mk c (bO xs)).ok=true:=by simpa using z29
 rw[show im c xs=(⟨c,bO xs⟩,true)from if_pos hok]
 refine⟨.inl Z,_,cY,_,Z,[27000],by decide,Z,Z,Z⟩
theorem x8{s:Str}(hs:s.length≤1100000):MQ h1 h2 65 [aS8 s] [] (Rows (yn (cy (mu s))) [cL (cy (mu s)).1.xs]):=by
 refine cK (jB 123 h1 h2 Tryz.func65 Z fun O hF=>?_)
 refine ae (jl Z (aB ?_))
 refine js Z (be (aY (iI O Z Z Z Z Z Z Z Z Z (by first|omega|(simp at *;omega)) (by first|omega|(simp at *;omega)) (by first|omega|(simp at *;omega)) (by first|omega|(dsimp only;omega)|(simp only[aQ]at *;omega)) (by first|omega|(simp at *;omega)) Z Z Z) Z (aB ?_)))
 refine js Z (be (js Z (be (js Z (be (js Z (jn (ag (ae (js Z (jn (am (av (X:=Nat×List Int×Int×Int×Int) (fun z=>⟨[(0,aS8 s),(2,.c (.pt 2 0 0)),(4,.c (.rs 11 0 10)),(5,eI z.2.2.1),(6,eI z.2.2.2.1),(7,eI z.2.2.2.2),(8,eI (z.1:Nat))],[(2,.box [.d (.int .i64 0),.d .nils]),(11,cL z.2.1)]⟩) (fun z=>z.1≤s.length+1∧z.2.1.length=10∧(∀y∈z.2.1,-20000009≤y∧y≤20000009)∧(-20000009≤z.2.2.1∧z.2.2.1≤20000009)∧(-1≤z.2.2.2.1∧z.2.2.2.1≤20000009)∧(z.2.2.2.2=1∨z.2.2.2.2= -1)∧(z.1≤s.length→dA (s.drop z.1) z.2.1 z.2.2.1 z.2.2.2.1 z.2.2.2.2=dA s (zr 10) 0 (-1) 1)∧(z.1=s.length+1→dA s (zr 10) 0 (-1) 1=some (z.2.1,z.2.2.1))) (fun z=>s.length+1-z.1) (0,zr 10,0,-1,1) (Ent.to ⟨Z,Z,Z,Z,Z,Z,Z,ao⟩ Z) ?_ (fun z hi=>?_))))))))))))))
 exact⟨ca _,Z,fun y hy=>by rw[show y=0 from List.eq_of_mem_replicate hy];simp,by simp,by simp,.inl Z,fun _=>rfl,fun h=>by have h9:0=s.length+1:=h;omega⟩
 refine ag (ae (ac Z (aa (aI (p:=s) O Z Z Z Z Z Z Z Z Z) Z (js Z (jf [15,0,2,4,5,6,7,8] Z (jn (ak Z (fun z15=>?_) (fun z15=>?_))))))))
 refine af (ag (am (am (ae (ac Z ?_)))))
 have hzl:z.1≤s.length:=by have:=bc z15;omega
 have hr:=hi.2.2.2.2.2.2.1 hzl
 have hby:0≤((s.getD z.1 0).toNat:Int)∧((s.getD z.1 0).toNat:Int)≤255:=iw s z.1
 refine aa (aI (p:=s) O Z Z Z Z Z Z Z Z Z) Z (ac Z (jf [24,15,0,2,4,5,6,7,8] Z (ar 4 Z Z Z (fun hx=>aq hx Z (aq hx Z (bf hx (aA (p:=s) (b:=s.getD z.1 0) O Z Z Z Z Z Z Z (by omega) (aX (by have:=ry hx;omega))) Z (aq hx Z (AN.nil))))) Z Z ?_)))
 first|refine aa (aj O Z Z Z Z Z) Z ?_|refine aa (al O Z Z Z Z Z) Z ?_|refine aa (Val.pickB O Z Z Z Z Z) Z ?_
 refine js Z (jf [30,15,0,2,4,5,6,7,8] Z (ar 4 Z Z Z (fun hx=>aq hx Z (aq hx Z (bf hx (aA (p:=s) (b:=s.getD z.1 0) O Z Z Z Z Z Z Z (by omega) (aX (by have:=uI hx;omega))) Z (aq hx Z (AN.nil))))) Z Z ?_))
 first|refine aa (aj O Z Z Z Z Z) Z ?_|refine aa (al O Z Z Z Z Z) Z ?_|refine aa (Val.pickB O Z Z Z Z Z) Z ?_
 refine js Z (jf [19,15,0,2,4,5,6,7,8] Z (jn (ak Z (fun z19=>?_) (fun z19=>?_))))
 refine ag (ae ?_)
 have z3:=w8.1 z19
 have hin:z.1<s.length:=by have:=z3.1;omega
 refine ac Z (jn (ak Z (fun z37=>?_) (fun z37=>?_)))
 refine ae (js Z (jo Z (aB ?_)))
 refine js Z (jr ?_)
 rw[mG (by rw[←hr,mH hin z3.2.1 z3.2.2,if_pos (bc z37)])]
 refine⟨.inl Z,_,ap 2 900 1 true 1 Z Z Z,_,Z,[900],by decide,Z,Z,Z⟩
 refine af ?_
 have hmx:mx z.2.2.2.1 0=max z.2.2.2.1 0:=by unfold mx;split<;>omega
 have hn2: ¬2000000<z.2.2.2.1:=bw z37
 refine lC [_,_,_,_,_,_,_,_,_,_] [bC,pe [0] 0,pn [0,1] 1 1,pn [] 0 1,pn [] 0 1,pn [3,4] 0 1,pn [3,4,5] 0 1,pn (rg 3 4) 0 1,pn (rg 0 8) 1 1,pn (rg 0 9) 1 1] [1] [_,_] (kc Z (ai (aP O (B0:=41000) Z Z Z Z ((yT (a:=z.2.2.2.1) (b:=0) h1 h2).plain (congrArg eI hmx)) (ah Z) Z Z Z Z Z) (ai (ax O Z Z (by omega) (by omega)) (ai (kc Z (V Z)) (ai (kc Z (V Z)) (ai (ai (aA (p:=s) (b:=s.getD z.1 0) O Z Z Z Z Z Z Z (by omega) (aX hin)) (aA (p:=s) (b:=s.getD z.1 0) O Z Z Z Z Z Z Z (by omega) (aX hin))) (ai (ai (bU (k:=.u8) (n:=((s.getD z.1 0).toNat:Int)-48) O Z Z (by have:=z3.2.1;show(0:Int)≤_;omega) (by show _≤(255:Int);omega)) (bU (k:=.u8) (n:=((s.getD z.1 0).toNat:Int)-48) O Z Z (by have:=z3.2.1;show(0:Int)≤_;omega) (by show _≤(255:Int);omega))) (ai (ai ((Val.conv (b:=true) (dt:=.int .u8) O Z Z Z (by kernel_rfl) (by kernel_rfl)).cast (v':=eI (((s.getD z.1 0).toNat:Int)-48)) (by rw[cq .i64 _ (by show(-9223372036854775808:Int)≤_;omega) (by show _≤(9223372036854775807:Int);omega)])) ((Val.conv (b:=true) (dt:=.int .u8) O Z Z Z (by kernel_rfl) (by kernel_rfl)).cast (v':=eI (((s.getD z.1 0).toNat:Int)-48)) (by rw[cq .i64 _ (by show(-9223372036854775808:Int)≤_;omega) (by show _≤(9223372036854775807:Int);omega)]))) (ai (ax O Z Z (by omega) (by omega)) (kc Z trivial)))))))))) ?_
 refine ab (js Z ?_)
 first|refine ji Z ?_|refine aU Z Z ?_
 refine js Z (jf [8,6,47,46,45,44,43,42,41,40,39,37,36,19,15,0,2,4,5,7] Z (jn ?_))
 refine⟨(z.1+1,z.2.1,z.2.2.1,10*max z.2.2.2.1 0+(((s.getD z.1 0).toNat:Int)-48),z.2.2.2.2),Ent.to ⟨Z,Z,Z,Z,Z,Z,Z,ao⟩ Z,⟨by show z.1+1≤_;omega,hi.2.1,hi.2.2.1,hi.2.2.2.1,by show -1≤10*max z.2.2.2.1 0+(((s.getD z.1 0).toNat:Int)-48)∧10*max z.2.2.2.1 0+(((s.getD z.1 0).toNat:Int)-48)≤20000009;omega,hi.2.2.2.2.2.1,fun _=>?_,fun h=>by have h9:z.1+1=s.length+1:=h;omega⟩,by show s.length+1-(z.1+1)<s.length+1-z.1;omega⟩
 show dA (s.drop (z.1+1)) z.2.1 z.2.2.1 (10*max z.2.2.2.1 0+(((s.getD z.1 0).toNat:Int)-48)) z.2.2.2.2=_
 rw[←hr,mH hin z3.2.1 z3.2.2,if_neg (bw z37)]
 refine ae (ac Z ?_)
 have hnd0:=dB z19 w8
 refine aa (aI (p:=s) O Z Z Z Z Z Z Z Z Z) Z (ac Z (jf [53,19,15,0,2,4,5,6,7,8] Z (ar 4 Z Z Z (fun hx=>aq hx Z (aq hx Z (bf hx (aA (p:=s) (b:=s.getD z.1 0) O Z Z Z Z Z Z Z (by omega) (aX (by have:=ry hx;omega))) Z (aq hx Z (AN.nil))))) Z Z ?_)))
 first|refine aa (aj O Z Z Z Z Z) Z ?_|refine aa (al O Z Z Z Z Z) Z ?_|refine aa (Val.pickB O Z Z Z Z Z) Z ?_
 refine js Z (jf [59,19,15,0,2,4,5,6,7,8] Z (ar 4 Z Z Z (fun hx=>aq hx Z (aq hx Z (bf hx (aA (p:=s) (b:=s.getD z.1 0) O Z Z Z Z Z Z Z (by omega) (aX (by have:=uI hx;omega))) Z (aq hx Z (AN.nil))))) Z Z ?_))
 first|refine aa (aj O Z Z Z Z Z) Z ?_|refine aa (al O Z Z Z Z Z) Z ?_|refine aa (Val.pickB O Z Z Z Z Z) Z ?_
 refine js Z (jf [48,19,15,0,2,4,5,6,7,8] Z (jn (ak Z (fun z48=>?_) (fun z48=>?_))))
 refine ag (ae ?_)
 have hl3:=w8.1 z48
 have hin:z.1<s.length:=by have:=hl3.1;omega
 have hnd: ¬(48≤bt s z.1∧bt s z.1≤57):=fun h=>hnd0 ⟨by omega,h.1,h.2⟩
 refine ac Z (jn ?_)
 obtain⟨n1,hn1⟩: ∃n1:Int,n1=if z.2.2.2.1<0 then 1 else z.2.2.2.1:=⟨_,rfl⟩
 have hnb:0≤n1∧n1≤20000009:=by rw[hn1];split<;>omega
 have hm:=fZ hi.2.2.2.2.2.1 hnb.1 hnb.2
 obtain⟨j,hj⟩: ∃j:Nat,((s.getD z.1 0).toNat:Int)-97=(j:Int):=⟨(((s.getD z.1 0).toNat:Int)-97).toNat,by have:=hl3.2.1;have:=hl3.2.2;omega⟩
 have hj10:j<10:=by have:=hl3.2.2;omega
 refine bl ⟨[(0,aS8 s),(2,.c (.pt 2 0 0)),(4,.c (.rs 11 0 10)),(5,eI z.2.2.1),(6,eI n1),(7,eI z.2.2.2.2),(8,eI (z.1:Nat))],[(2,.box [.d (.int .i64 0),.d .nils]),(11,cL z.2.1)]⟩ ?_ ?_
 refine ak Z (fun z66=>?_) (fun z66=>?_)
 refine ab (js Z (jn ?_))
 exact⟨Z,Ent.to ⟨Z,Z,Z,Z,congrArg (fun z=>some (eI z)) (show(1:Int)=n1 by rw[hn1,if_pos (bc z66)]),Z,Z,ao⟩ Z⟩
 refine af ?_
 exact⟨Z,Ent.to ⟨Z,Z,Z,Z,congrArg (fun z=>some (eI z)) (show z.2.2.2.1=n1 by rw[hn1,if_neg (bw z66)]),Z,Z,ao⟩ Z⟩
 refine ae (aF Z (aa (aA (p:=s) (b:=s.getD z.1 0) O Z Z Z Z Z Z Z (by omega) (aX hin)) Z (aa ((bU (k:=.u8) (n:=((s.getD z.1 0).toNat:Int)-97) O Z Z (by have:=hl3.2.1;show(0:Int)≤_;omega) (by show _≤(255:Int);omega)).cast (v':=.c (.d (.int .u8 (j:Int)))) (by rw[hj])) Z (ac Z (aa (ax O Z Z (by omega) (by omega)) Z (aa (br (c:=0≤(j:Int)∧(j:Int)<((10:Nat):Int)) (v:=.c (.pt 11 (0+(j:Int).toNat) 0)) O Z Z (by omega)) Z (jf [75,74,0,2,4,5,6,7,8] Z (aY (bV (ex:=[.int .i64 (z.2.1.getD j 0)]) (xs':=(z.2.1.set j (z.2.2.2.2*n1)).map (fun n=>[D.int .i64 n])) O Z Z Z Z Z Z Z Z Z Z Z Z Z Z (by simp[hi.2.1,hj10]) (by rw[List.map_set];simp only[Int.toNat_natCast,Nat.zero_add];rfl)) Z (aB ?_)))))))))
 refine aB ?_
 refine jf [0,2,4,5,6,7,8] Z (jn (ab (js Z (jn (ab (js Z ?_))))))
 first|refine ji Z ?_|refine aU Z Z ?_
 refine js Z (jf [8,6,0,2,4,5,7] Z (jn ?_))
 refine⟨(z.1+1,z.2.1.set j (z.2.2.2.2*n1),z.2.2.1,-1,z.2.2.2.2),Ent.to ⟨Z,Z,Z,Z,Z,Z,Z,ao⟩ Z,⟨by show z.1+1≤_;omega,by show(z.2.1.set j _).length=10;rw[List.length_set];exact hi.2.1,tf hi.2.2.1 hm.1 hm.2,hi.2.2.2.1,by show -1≤(-1:Int)∧(-1:Int)≤20000009;omega,hi.2.2.2.2.2.1,fun _=>?_,fun h=>by have h9:z.1+1=s.length+1:=h;omega⟩,by show s.length+1-(z.1+1)<s.length+1-z.1;omega⟩
 show dA (s.drop (z.1+1)) (z.2.1.set j (z.2.2.2.2*n1)) z.2.2.1 (-1) z.2.2.2.2=_
 rw[←hr,tk hin hnd hl3.2.1 hl3.2.2,←hn1,show(s.getD z.1 0).toNat-97=j by omega]
 refine ae (ac Z ?_)
 have hnl0:=dB z48 w8
 refine aa (aI (p:=s) O Z Z Z Z Z Z Z Z Z) Z (ac Z (jf [81,48,19,15,0,2,4,5,6,7,8] Z (ar 4 Z Z Z (fun hx=>aq hx Z (aq hx Z (bf hx (aA (p:=s) (b:=s.getD z.1 0) O Z Z Z Z Z Z Z (by omega) (aX (by have:=yQ hx;omega))) Z (aq hx Z (AN.nil))))) Z Z ?_)))
 first|refine aa (al O Z Z Z Z Z) Z ?_|refine aa (Val.pickB O Z Z Z Z Z) Z ?_|refine aa (aj O Z Z Z Z Z) Z ?_
 refine js Z (jf [87,48,19,15,0,2,4,5,6,7,8] Z (ar 4 Z Z Z (fun hx=>aq hx Z (aq hx Z (bf hx (aA (p:=s) (b:=s.getD z.1 0) O Z Z Z Z Z Z Z (by omega) (aX (by have:=yP hx;omega))) Z (aq hx Z (AN.nil))))) Z Z ?_))
 first|refine aa (al O Z Z Z Z Z) Z ?_|refine aa (Val.pickB O Z Z Z Z Z) Z ?_|refine aa (aj O Z Z Z Z Z) Z ?_
 refine js Z (jf [76,48,19,15,0,2,4,5,6,7,8] Z (jn (ak Z (fun z76=>?_) (fun z76=>?_))))
 refine ag (ae ?_)
 have ht0:=Cd.1 z76
 have ht3:z.1<s.length→bt s z.1=43∨bt s z.1=45:=fun h=>ht0.resolve_left (fun e=>by omega)
 have hnd:z.1<s.length→¬(48≤bt s z.1∧bt s z.1≤57):=fun q h=>hnd0 ⟨by omega,h.1,h.2⟩
 have hnl:z.1<s.length→¬(97≤bt s z.1∧bt s z.1≤106):=fun q h=>hnl0 ⟨by omega,h.1,h.2⟩
 refine ac Z (jn ?_)
 obtain⟨c1,z1⟩: ∃c1:Int,c1=if 0≤z.2.2.2.1 then z.2.2.2.2*z.2.2.2.1 else z.2.2.1:=⟨_,rfl⟩
 have hc1b: -20000009≤c1∧c1≤20000009:=by
  rw[z1];split
  exact fZ hi.2.2.2.2.2.1 (by omega) hi.2.2.2.2.1.2
  exact hi.2.2.2.1
 refine bl ⟨[(0,aS8 s),(2,.c (.pt 2 0 0)),(4,.c (.rs 11 0 10)),(5,eI c1),(6,eI z.2.2.2.1),(7,eI z.2.2.2.2),(8,eI (z.1:Nat))],[(2,.box [.d (.int .i64 0),.d .nils]),(11,cL z.2.1)]⟩ ?_ ?_
 refine ak Z (fun z94=>?_) (fun z94=>?_)
 refine ab (ac Z (aa (ax O Z Z (by have:=fZ hi.2.2.2.2.2.1 (bc z94) hi.2.2.2.2.1.2;omega) (by have:=fZ hi.2.2.2.2.2.1 (bc z94) hi.2.2.2.2.1.2;omega)) Z (js Z (jf [5,94,93,76,48,19,15,0,2,4,6,7,8] Z (jn ?_)))))
 exact⟨Z,Ent.to ⟨Z,Z,Z,congrArg (fun z=>some (eI z)) (show z.2.2.2.2*z.2.2.2.1=c1 by rw[z1,if_pos (bc z94)]),Z,Z,Z,ao⟩ Z⟩
 refine af ?_
 exact⟨Z,Ent.to ⟨Z,Z,Z,congrArg (fun z=>some (eI z)) (show z.2.2.1=c1 by rw[z1,if_neg (bw z94)]),Z,Z,Z,ao⟩ Z⟩
 refine ae (js Z (be (js Z (be (ac Z (aa (aI (p:=s) O Z Z Z Z Z Z Z Z Z) Z (ac Z (jf [102,7,6,0,2,4,5,8] Z (ar 4 Z Z Z (fun hx=>aq hx Z (aq hx Z (bf hx (aA (p:=s) (b:=s.getD z.1 0) O Z Z Z Z Z Z Z (by omega) (aX (by have:=ry hx;omega))) Z (aq hx Z (AN.nil))))) Z Z ?_)))))))))
 first|refine aa (aj O Z Z Z Z Z) Z ?_|refine aa (al O Z Z Z Z Z) Z ?_|refine aa (Val.pickB O Z Z Z Z Z) Z ?_
 refine jf [107,7,6,0,2,4,5,8] Z (jn ?_)
 obtain⟨sg1,hsgv⟩: ∃sg1:Int,sg1=if z.1<s.length then(if bt s z.1=45 then -1 else 1)else 1:=⟨_,rfl⟩
 have hsg1:sg1=1∨sg1= -1:=by
  rw[hsgv];split
  split
  exact .inr Z
  exact .inl Z
  exact .inl Z
 refine bl ⟨[(0,aS8 s),(2,.c (.pt 2 0 0)),(4,.c (.rs 11 0 10)),(5,eI c1),(6,eI (-1)),(7,eI sg1),(8,eI (z.1:Nat))],[(2,.box [.d (.int .i64 0),.d .nils]),(11,cL z.2.1)]⟩ ?_ ?_
 refine ak Z (fun z107=>?_) (fun z107=>?_)
 refine ab (js Z (jn ?_))
 exact⟨Z,Ent.to ⟨Z,Z,Z,Z,Z,congrArg (fun z=>some (eI z)) (show(-1:Int)=sg1 by have h9:=yz.1 z107;rw[hsgv,if_pos (by omega),if_pos h9.2]),Z,ao⟩ Z⟩
 refine af ?_
 exact⟨Z,Ent.to ⟨Z,Z,Z,Z,Z,congrArg (fun z=>some (eI z)) (show(1:Int)=sg1 by rw[hsgv,tc (fun e=>dB z107 yz ⟨by have:=e.1;omega,e.2⟩)]),Z,ao⟩ Z⟩
 refine ab (js Z ?_)
 first|refine ji Z ?_|refine aU Z Z ?_
 refine js Z (jf [8,0,2,4,5,6,7] Z (jn ?_))
 refine⟨(z.1+1,z.2.1,c1,-1,sg1),Ent.to ⟨Z,Z,Z,Z,Z,Z,Z,ao⟩ Z,⟨by show z.1+1≤_;omega,hi.2.1,hi.2.2.1,hc1b,by show -1≤(-1:Int)∧(-1:Int)≤20000009;omega,hsg1,fun h=>?_,fun h=>?_⟩,by show s.length+1-(z.1+1)<s.length+1-z.1;omega⟩
 have h9:z.1+1≤s.length:=h
 show dA (s.drop (z.1+1)) z.2.1 c1 (-1) sg1=_
 have hsn:=ht3 (by omega)
 rw[←hr,th (by omega) (hnd (by omega)) (hnl (by omega)) hsn,←z1,hsgv,if_pos (by omega)]
 have h9:z.1+1=s.length+1:=h
 show dA s (zr 10) 0 (-1) 1=some (z.2.1,c1)
 rw[←hr,show z.1=s.length by omega,qN,←z1]
 refine ae ?_
 have ht0:=dB z76 Cd
 have hin:z.1<s.length:=by have: ¬(z.1:Int)=(s.length:Int):=fun e=>ht0 (.inl e);omega
 have hnone:dA s (zr 10) 0 (-1) 1=none:=by
  rw[←hr,qQ hin (fun h=>hnd0 ⟨by omega,h.1,h.2⟩) (fun h=>hnl0 ⟨by omega,h.1,h.2⟩)]
  exact fun h=>ht0 (.inr h)
 refine js Z (jo Z (aB ?_))
 refine js Z (jr ?_)
 rw[mG hnone]
 refine⟨.inl Z,_,ap 2 900 1 true 1 Z Z Z,_,Z,[900],by decide,Z,Z,Z⟩
 refine aJ (ae ?_)
 have hz1:z.1=s.length+1:=by have:=bw z15;omega
 have hr:=hi.2.2.2.2.2.2.2 hz1
 refine aK (Ent.freeze 11 (e':=[(0,_),(2,_),(4,_),(5,_)]) Z (.cons Z (.keep Z) (.cons Z (.keep Z) (.cons Z (.c (.row Z (by rw[bd,hi.2.1]))) (fe [5] Z)))) (oZ Z (.skip .nil))) ?_
 refine ac Z (bk O (B0:=112000) Z Z Z Z (zv (c:=z.2.2.1) (xs:=z.2.1) h1 h2) (ah Z) Z Z Z Z Z Z (aB ?_))
 refine aF Z (jf [113,112,0,2,4,5] Z (jl Z (aB ?_)))
 refine jo Z (aB ?_)
 refine js Z (jf [10,9,0,2,4,5] Z (jn (ag (ae (aF Z (jf [116,9,0,2,4,5] Z (ar 3 Z Z Z (fun hx=>bj O hx Z Z Z Z (qG (t:=(im z.2.2.1 z.2.1).1) h1 h2 (pA (by simpa using hx))) (.cons (.c (.pb (cs:=(im z.2.2.1 z.2.1).1.cells) Z (.cons .d (.cons (.whole Z (bd _).symm) .nil)))) .nil) Z Z Z Z Z Z Z (B0:=118000) Z (aq hx Z (bf hx (b9 (p:=tS (im z.2.2.1 z.2.1).1) (q:=s) O Z Z Z Z Z Z) Z (AN.nil)))) Z Z ?_)))))))
 first|refine aa (al O Z Z Z Z Z) Z ?_|refine aa (Val.pickB O Z Z Z Z Z) Z ?_|refine aa (aj O Z Z Z Z Z) Z ?_
 refine jf [120,9,0,2,4,5] Z (jn (ak Z (fun z120=>?_) (fun z120=>?_)))
 refine ae (js Z (jo Z (aB ?_)))
 refine js Z (jr ?_)
 have hno:mu s=none:=by rw[mF hr,if_neg];intro hh;revert z120;simp[hh.1,hh.2]
 rw[hno]
 refine⟨.inl Z,_,ap 2 900 1 true 1 Z Z Z,_,Z,[900],by decide,Z,Z,Z⟩
 refine af (ae (js Z (jo Z (aB ?_))))
 refine js Z (jr ?_)
 have hyes:mu s=some (im z.2.2.1 z.2.1).1:=by rw[mF hr,if_pos];revert z120;cases h7:(im z.2.2.1 z.2.1).2<;>simp
 rw[hyes]
 refine⟨.inl Z,_,cY,_,Z,[112000],by decide,Z,Z,Z⟩
theorem ya{s:Str}(hs:s.length≤1100000):MQ h1 h2 35 [aS8 s] [] (Rows (yn (cy (dD s))) [cL (cy (dD s)).1.xs]):=by
 refine cK (jB 120 h1 h2 Tryz.func35 Z fun O hF=>?_)
 refine ae (jl Z (aB ?_))
 refine js Z (be (aY (iI O Z Z Z Z Z Z Z Z Z (by first|omega|(simp at *;omega)) (by first|omega|(simp at *;omega)) (by first|omega|(simp at *;omega)) (by first|omega|(dsimp only;omega)|(simp only[aQ]at *;omega)) (by first|omega|(simp at *;omega)) Z Z Z) Z (aB ?_)))
 refine js Z (jf [10,3,2,0] Z (jl Z (aB ?_)))
 refine jo Z (aB ?_)
 refine jn (ag (ae (js Z (jn (am (av (X:=Nat×List Int×Int) (fun z=>⟨[(0,aS8 s),(2,.c (.pt 2 0 0)),(4,.c (.pt 4 0 0)),(5,eI (z.1:Nat))],[(2,.box [.d (.int .i64 0),.d .nils]),(4,.box [.d (.int .i64 z.2.2),.rs 9 0 10]),(9,cL z.2.1)]⟩) (fun z=>z.1≤s.length∧z.2.1.length=10∧(∀y∈z.2.1,-(100000000*(z.1:Int))≤y∧y≤100000000*(z.1:Int))∧(-(100000000*(z.1:Int))≤z.2.2∧z.2.2≤100000000*(z.1:Int))∧il (s.drop z.1) z.2.1 z.2.2=il s (zr 10) 0) (fun z=>s.length-z.1) (0,zr 10,0) (Ent.to ⟨Z,Z,Z,Z,ao⟩ Z) ?_ (fun z hi=>?_)))))))
 exact⟨ca _,Z,fun y hy=>by rw[show y=0 from List.eq_of_mem_replicate hy];simp,by simp,Z⟩
 refine ag (ae (ac Z (aa (aI (p:=s) O Z Z Z Z Z Z Z Z Z) Z (js Z (jf [14,0,2,4,5] Z (jn (ak Z (fun z14=>?_) (fun z14=>?_))))))))
 refine af (am (ae (js Z (jn (ag (ae (ac Z ?_)))))))
 have hz0:z.1<s.length:=by have:=bc z14;omega
 have hiz:=hi
 obtain⟨sg,i1,hsg,hi1,hsg1,hsv⟩:=mZ hz0
 refine aa (aA (p:=s) (b:=s.getD z.1 0) O Z Z Z Z Z Z Z (by omega) (aX hz0)) Z (jf [17,6,14,0,2,4,5] Z (jn (bl ⟨[(0,aS8 s),(2,.c (.pt 2 0 0)),(4,.c (.pt 4 0 0)),(5,eI (i1:Nat)),(6,eI sg)],[(2,.box [.d (.int .i64 0),.d .nils]),(4,.box [.d (.int .i64 z.2.2),.rs 9 0 10]),(9,cL z.2.1)]⟩ ?_ ?_)))
 refine am (ae (ac Z (jn (ak Z (fun z18=>?_) (fun z18=>?_)))))
 refine ae (js Z (jn (ab (js Z ?_))))
 first|refine ji Z ?_|refine aU Z Z ?_
 refine js Z (jf [5,6,18,19,17,14,0,2,4] Z (jn ?_))
 exact⟨Z,Ent.to ⟨Z,Z,Z,congrArg (fun z=>some (eI z)) (show(z.1:Int)+1=(i1:Int) by rw[if_pos (bc z18)]at hsv;omega),congrArg (fun z=>some (eI z)) (show(-1:Int)=sg by rw[if_pos (bc z18)]at hsv;omega),ao⟩ Z⟩
 refine ae (ac Z (jn (ak Z (fun z22=>?_) (fun z22=>?_))))
 refine ab (js Z ?_)
 first|refine ji Z ?_|refine aU Z Z ?_
 refine js Z (jf [5,22,23,18,19,17,6,14,0,2,4] Z (jn ?_))
 exact⟨Z,Ent.to ⟨Z,Z,Z,congrArg (fun z=>some (eI z)) (show(z.1:Int)+1=(i1:Int) by rw[if_neg (bw z18),if_pos (bc z22)]at hsv;omega),congrArg (fun z=>some (eI z)) (show(1:Int)=sg by rw[if_neg (bw z18),if_pos (bc z22)]at hsv;omega),ao⟩ Z⟩
 refine af ?_
 exact⟨Z,Ent.to ⟨Z,Z,Z,congrArg (fun z=>some (eI z)) (show(z.1:Int)=(i1:Int) by rw[if_neg (bw z18),if_neg (bw z22)]at hsv;omega),congrArg (fun z=>some (eI z)) (show(1:Int)=sg by rw[if_neg (bw z18),if_neg (bw z22)]at hsv;omega),ao⟩ Z⟩
 refine ae (aF Z (jn (ag (am (av (X:=Nat×Int) (fun y=>⟨[(0,aS8 s),(2,.c (.pt 2 0 0)),(4,.c (.pt 4 0 0)),(5,eI (y.1:Nat)),(6,eI sg),(7,eI (i1:Nat)),(8,eI y.2)],[(2,.box [.d (.int .i64 0),.d .nils]),(4,.box [.d (.int .i64 z.2.2),.rs 9 0 10]),(9,cL z.2.1)]⟩) (fun y=>i1≤y.1∧y.1≤s.length∧y.1≤i1+8∧0≤y.2∧y.2<10^(y.1-i1)∧bW (8-(y.1-i1)) y.2 (s.drop y.1)=bW 8 0 (s.drop i1)) (fun y=>s.length-y.1) (i1,0) (Ent.to ⟨Z,Z,Z,Z,Z,Z,Z,ao⟩ Z) ?_ (fun y hi=>?_))))))
 exact⟨bQ _,hi1.2.2,by show i1≤i1+8;omega,Int.le_refl _,by show(0:Int)<10^(i1-i1);rw[Nat.sub_self];decide,by show bW (8-(i1-i1)) 0 _=_;rw[Nat.sub_self]⟩
 refine ag (ae (ac Z (aa (aI (p:=s) O Z Z Z Z Z Z Z Z Z) Z (ac Z (jf [31,0,2,4,5,6,7,8] Z (ar 4 Z Z Z (fun hx=>aq hx Z (aq hx Z (bf hx (aA (p:=s) (b:=s.getD y.1 0) O Z Z Z Z Z Z Z (by omega) (aX (by have:=ry hx;omega))) Z (aq hx Z (AN.nil))))) Z Z ?_))))))
 first|refine aa (aj O Z Z Z Z Z) Z ?_|refine aa (al O Z Z Z Z Z) Z ?_|refine aa (Val.pickB O Z Z Z Z Z) Z ?_
 refine js Z (jf [37,0,2,4,5,6,7,8] Z (ar 4 Z Z Z (fun hx=>aq hx Z (aq hx Z (bf hx (aA (p:=s) (b:=s.getD y.1 0) O Z Z Z Z Z Z Z (by omega) (aX (by have:=uI hx;omega))) Z (aq hx Z (AN.nil))))) Z Z ?_))
 first|refine aa (aj O Z Z Z Z Z) Z ?_|refine aa (al O Z Z Z Z Z) Z ?_|refine aa (Val.pickB O Z Z Z Z Z) Z ?_
 refine js Z (jf [43,0,2,4,5,6,7,8] Z (ar 4 Z Z Z (fun hx=>aq hx Z (aq hx Z (bf hx (vF Z) Z (aq hx Z (AN.nil))))) Z Z ?_))
 first|refine aa (aj O Z Z Z Z Z) Z ?_|refine aa (al O Z Z Z Z Z) Z ?_|refine aa (Val.pickB O Z Z Z Z Z) Z ?_
 refine jf [48,0,2,4,5,6,7,8] Z (jn (ak Z (fun z48=>?_) (fun z48=>?_)))
 refine af (ag (am (ab ?_)))
 have z4:=AL.1 z48
 have hc4n:y.1<s.length:=by have:=z4.1;omega
 have hp8:=lJ (k:=y.1-i1) (by omega)
 have hby:0≤((s.getD y.1 0).toNat:Int)∧((s.getD y.1 0).toNat:Int)≤255:=iw s y.1
 refine js Z ?_
 first|refine ji Z ?_|refine aU Z Z ?_
 refine ac Z (aa (aA (p:=s) (b:=s.getD y.1 0) O Z Z Z Z Z Z Z (by omega) (aX hc4n)) Z (aa (bU (k:=.u8) (n:=((s.getD y.1 0).toNat:Int)-48) O Z Z (by show(0:Int)≤_;omega) (by show _≤(255:Int);omega)) Z (aa ((Val.conv (b:=true) (dt:=.int .u8) O Z Z Z (by kernel_rfl) (by kernel_rfl)).cast (v':=eI (((s.getD y.1 0).toNat:Int)-48)) (by rw[cq .i64 _ (by show(-9223372036854775808:Int)≤_;omega) (by show _≤(9223372036854775807:Int);omega)])) Z ?_)))
 first|refine ji Z ?_|refine aU Z Z ?_
 refine js Z (jf [8,48,0,2,4,5,6,7] Z (jn (ab (js Z ?_))))
 first|refine ji Z ?_|refine aU Z Z ?_
 refine js Z (jf [5,8,48,0,2,4,6,7] Z (jn ?_))
 refine⟨(y.1+1,10*y.2+(((s.getD y.1 0).toNat:Int)-48)),Ent.to ⟨Z,Z,Z,Z,Z,Z,Z,ao⟩ Z,⟨by show i1≤y.1+1;omega,by show y.1+1≤_;omega,by show y.1+1≤i1+8;omega,by show 0≤10*y.2+(((s.getD y.1 0).toNat:Int)-48);omega,?_,?_⟩,by show s.length-(y.1+1)<s.length-y.1;omega⟩
 show 10*y.2+(((s.getD y.1 0).toNat:Int)-48)<10^(y.1+1-i1)
 rw[show y.1+1-i1=(y.1-i1)+1 by omega]
 exact kN hi.2.2.2.2.1 (by omega)
 show bW (8-(y.1+1-i1)) (10*y.2+(((s.getD y.1 0).toNat:Int)-48)) (s.drop (y.1+1))=_
 rw[←hi.2.2.2.2.2,show 8-(y.1-i1)=(8-(y.1+1-i1))+1 by omega,kJ hc4n z4.2.1 z4.2.2.1]
 refine aJ (am (ae ?_))
 have hend:=gY (s:=s) (i:=y.1) (i1:=i1) (n:=y.2) (fun hh=>dB z48 AL ⟨by omega,hh.2.1,hh.2.2.1,by omega⟩) hi.1 hi.2.2.1 hi.2.1
 rw[hi.2.2.2.2.2]at hend
 have hst0:=pj hsg hend hi.1 hi.2.1
 have hp8:=lJ (k:=y.1-i1) (by omega)
 have hby:0≤((s.getD y.1 0).toNat:Int)∧((s.getD y.1 0).toNat:Int)≤255:=iw s y.1
 refine ac Z ?_
 have hiy:=hi
 refine aa (aI (p:=s) O Z Z Z Z Z Z Z Z Z) Z (ac Z (jf [71,48,0,2,4,5,6,7,8] Z (ar 4 Z Z Z (fun hx=>aq hx Z (aq hx Z (bf hx (aA (p:=s) (b:=s.getD y.1 0) O Z Z Z Z Z Z Z (by omega) (aX (by have:=ry hx;omega))) Z (aq hx Z (AN.nil))))) Z Z ?_)))
 first|refine aa (aj O Z Z Z Z Z) Z ?_|refine aa (al O Z Z Z Z Z) Z ?_|refine aa (Val.pickB O Z Z Z Z Z) Z ?_
 refine js Z (jf [77,48,0,2,4,5,6,7,8] Z (ar 4 Z Z Z (fun hx=>aq hx Z (aq hx Z (bf hx (aA (p:=s) (b:=s.getD y.1 0) O Z Z Z Z Z Z Z (by omega) (aX (by have:=uI hx;omega))) Z (aq hx Z (AN.nil))))) Z Z ?_))
 first|refine aa (aj O Z Z Z Z Z) Z ?_|refine aa (al O Z Z Z Z Z) Z ?_|refine aa (Val.pickB O Z Z Z Z Z) Z ?_
 refine js Z (jf [66,48,0,2,4,5,6,7,8] Z (jn (ak Z (fun z66=>?_) (fun z66=>?_))))
 refine ag (ae ?_)
 have z3:=w8.1 z66
 have hc3n:y.1<s.length:=by have:=z3.1;omega
 refine aF Z (jf [85,66,48,0,2,4,5,6,7,8] Z (jn ?_))
 obtain⟨n1,hn1⟩: ∃n1,n1=if y.1=i1 then 1 else y.2:=⟨_,rfl⟩
 have hnb:0≤n1∧n1≤100000000:=by rw[hn1];split<;>omega
 have hm1: -100000000≤sg*n1:=by rcases hsg1 with e|e<;>rw[e]<;>omega
 have hm2:sg*n1≤100000000:=by rcases hsg1 with e|e<;>rw[e]<;>omega
 obtain⟨j,hj⟩: ∃j:Nat,((s.getD y.1 0).toNat:Int)-97=(j:Int):=⟨(((s.getD y.1 0).toNat:Int)-97).toNat,by omega⟩
 have hj10:j<10:=by omega
 have hgj:=pG (i:=j) (B:=100000000*(z.1:Int)) (by omega) hiz.2.2.1
 have hst:oP (s.drop z.1)=some (s.drop (y.1+1),some j,sg*n1):=by rw[hst0,if_pos ⟨hc3n,z3.2.1,z3.2.2⟩,←hn1,show(s.getD y.1 0).toNat-97=j by omega]
 refine bl ⟨[(0,aS8 s),(2,.c (.pt 2 0 0)),(4,.c (.pt 4 0 0)),(5,eI (y.1:Nat)),(6,eI sg),(8,eI n1)],[(2,.box [.d (.int .i64 0),.d .nils]),(4,.box [.d (.int .i64 z.2.2),.rs 9 0 10]),(9,cL z.2.1)]⟩ ?_ ?_
 refine ak Z (fun z85=>?_) (fun z85=>?_)
 refine ab (js Z (jn ?_))
 exact⟨Z,Ent.to ⟨Z,Z,Z,Z,Z,congrArg (fun z=>some (eI z)) (show(1:Int)=n1 by rw[hn1,if_pos (by have:=bc z85;omega)]),ao⟩ Z⟩
 refine af ?_
 exact⟨Z,Ent.to ⟨Z,Z,Z,Z,Z,congrArg (fun z=>some (eI z)) (show y.2=n1 by rw[hn1,if_neg (by have:=bw z85;omega)]),ao⟩ Z⟩
 refine ag ?_
 have hi:=hiz
 refine lC [_,_,_,_,_,_,_,_,_,_,_,_,_,_] [bC,bb [0],bC,bC,bb [2,3],bb [2,3,4],bb (rg 0 6),bb (rg 0 7),bC,bC,bb [8,9],bb (rg 0 11),bb (rg 0 12),pe (rg 0 13) 0] [13] [_,_] (uM Z (ai (aA (p:=s) (b:=s.getD y.1 0) O Z Z Z Z Z Z Z (by omega) (aX hc3n)) (ai ((bU (k:=.u8) (n:=((s.getD y.1 0).toNat:Int)-97) O Z Z (by show(0:Int)≤_;omega) (by show _≤(255:Int);omega)).cast (v':=.c (.d (.int .u8 (j:Int)))) (by rw[hj])) (ai (br (c:=0≤(j:Int)∧(j:Int)<((10:Nat):Int)) (v:=.c (.pt 9 (0+(j:Int).toNat) 0)) O Z Z (by omega)) (ai (bv O (ex:=[.int .i64 (z.2.1.getD j 0)]) Z Z Z Z (by simp[hi.2.1,hj10]) Z) (kc Z (kc Z (ai (ax O Z Z (by omega) (by omega)) (ai (ax O Z Z (by omega) (by omega)) (ai (br (c:=0≤(j:Int)∧(j:Int)<((10:Nat):Int)) (v:=.c (.pt 9 (0+(j:Int).toNat) 0)) O Z Z (by omega)) (ai (fQ (ex:=[.int .i64 (z.2.1.getD j 0)]) (xs':=(cw z.2.1 j (sg*n1)).map (fun n=>[D.int .i64 n])) O Z Z Z Z Z Z Z Z Z Z Z Z Z Z Z (by simp[hi.2.1,hj10]) (by unfold cw;rw[List.map_set];simp only[Int.toNat_natCast,Nat.zero_add];rfl) Z) trivial))))))))))) ?_
 refine ab (js Z ?_)
 first|refine ji Z ?_|refine aU Z Z ?_
 refine js Z (jf [5,98,97,96,95,94,93,92,91,90,89,88,87,86,0,2,4,6,8] Z (jn ?_))
 refine⟨(y.1+1,cw z.2.1 j (sg*n1),z.2.2),Ent.to ⟨Z,Z,Z,Z,ao⟩ Z,⟨by show y.1+1≤_;omega,by show(cw _ _ _).length=10;rw[jC];exact hiz.2.1,?_,?_,?_⟩,by show s.length-(y.1+1)<s.length-z.1;omega⟩
 exact fun q hq=>by have:=k7 (B:=100000000*(z.1:Int)) (M:=100000000) (by omega) hiz.2.2.1 hm1 hm2 q hq;show -(100000000*((y.1+1:Nat):Int))≤q∧q≤100000000*((y.1+1:Nat):Int);omega
 show -(100000000*((y.1+1:Nat):Int))≤z.2.2∧z.2.2≤100000000*((y.1+1:Nat):Int);have:=hiz.2.2.2.1;omega
 show il (s.drop (y.1+1)) (cw z.2.1 j (sg*n1)) z.2.2=_
 rw[←kj hst,hiz.2.2.2.2]
 refine ae ?_
 have z3:=dB z66 w8
 rw[if_neg (fun hh=>z3 ⟨by omega,hh.2.1,hh.2.2⟩)]at hst0
 refine aM Z (jf [101,66,48,0,2,4,5,6,7,8] Z (jn (ak Z (fun z101=>?_) (fun z101=>?_))))
 refine ae (js Z (jo Z (aB ?_)))
 refine js Z (jr ?_)
 rw[pr (by rw[←hiz.2.2.2.2,kK (by rw[cR hz0];simp) (by rw[hst0,if_pos (by have:=bc z101;omega)])])]
 refine⟨.inl Z,_,ap 2 900 1 true 1 Z Z Z,_,Z,[900],by decide,Z,Z,Z⟩
 refine ab ?_
 have hne: ¬y.1=i1:=by have:=bw z101;omega
 have hst:=hst0
 rw[if_neg hne]at hst
 have hm1: -100000000≤sg*y.2:=by rcases hsg1 with e|e<;>rw[e]<;>omega
 have hm2:sg*y.2≤100000000:=by rcases hsg1 with e|e<;>rw[e]<;>omega
 have hi:=hiz
 refine aM Z ?_
 first|refine ji Z ?_|refine aU Z Z ?_
 first|refine ji Z ?_|refine aU Z Z ?_
 refine js Z (jf [65,64,101,66,48,0,2,4,5,6,7,8] Z (jo Z (aB ?_)))
 refine jf [101,66,48,0,2,4,5,6,7,8] Z (jn ?_)
 refine⟨(y.1,z.2.1,z.2.2+sg*y.2),Ent.to ⟨Z,Z,Z,Z,ao⟩ Z,⟨by show y.1≤_;omega,hiz.2.1,?_,?_,?_⟩,by show s.length-y.1<s.length-z.1;omega⟩
 exact fun q hq=>by have:=hiz.2.2.1 q hq;show -(100000000*(y.1:Int))≤q∧q≤100000000*(y.1:Int);omega
 show -(100000000*(y.1:Int))≤z.2.2+sg*y.2∧z.2.2+sg*y.2≤100000000*(y.1:Int);have:=hiz.2.2.2.1;omega
 show il (s.drop y.1) z.2.1 (z.2.2+sg*y.2)=_
 rw[←iz hst,hiz.2.2.2.2]
 refine aJ (ae ?_)
 have hz1:z.1=s.length:=by have:=bw z14;omega
 have hr:=hi.2.2.2.2
 rw[hz1,List.drop_length,eU]at hr
 refine aK (Ent.freeze 9 (e':=[(0,_),(2,_),(4,_)]) Z (fe [0,2,4] Z) (oZ Z (.cons Z (.box (xa Z (.cons (.row Z (by rw[bd,hi.2.1])) .nil))) (.skip .nil)))) ?_
 refine js Z (aw O Z Z Z Z (xj (t:=(⟨z.2.2,z.2.1⟩:Tm)) h1 h2) (ah Z) Z Z Z Z (B0:=108000) Z Z (jf [107,0,2,4] Z (jo Z (aB ?_))))
 refine jn (ag (ae (js Z (aO Z (sC (t:=(⟨z.2.2,bO z.2.1⟩:Tm)) h1 h2) 110000 Z (ac Z (jf [111,107,0,2,4] Z (ar 4 Z Z Z (fun hx=>aq hx Z (bj O hx Z Z Z Z (nF (t:=(⟨z.2.2,bO z.2.1⟩:Tm)) h1 h2 (by simpa using hx)) (ah Z) Z Z Z Z Z Z Z (B0:=114000) Z (aq hx Z (bf hx (b9 (p:=tS (⟨z.2.2,bO z.2.1⟩:Tm)) (q:=s) O Z Z Z Z Z Z) Z (AN.nil))))) Z Z ?_)))))))
 first|refine aa (al O Z Z Z Z Z) Z ?_|refine aa (Val.pickB O Z Z Z Z Z) Z ?_|refine aa (aj O Z Z Z Z Z) Z ?_
 refine jf [116,107,0,2,4] Z (jn (ak Z (fun z116=>?_) (fun z116=>?_)))
 refine ae (js Z (jo Z (aB ?_)))
 refine js Z (jr ?_)
 have hno:dD s=none:=by rw[i9 hr.symm,if_neg];intro hh;revert z116;simp[hh.1,hh.2]
 rw[hno]
 refine⟨.inl Z,_,ap 2 900 1 true 1 Z Z Z,_,Z,[900],by decide,Z,Z,Z⟩
 refine af (ae (js Z (bk O (B0:=120000) Z Z Z Z (wI (t:=(⟨z.2.2,bO z.2.1⟩:Tm)) h1 h2) (ah Z) Z Z Z Z Z Z (aB ?_))))
 refine jf [119,116,107,0,2,4] Z (jo Z (aB ?_))
 refine js Z (jr ?_)
 have hyes:dD s=some (⟨z.2.2,bO z.2.1⟩:Tm):=by rw[i9 hr.symm,if_pos];revert z116;cases h7:Tm.ok (⟨z.2.2,bO z.2.1⟩:Tm)<;>simp
 rw[hyes]
 refine⟨.inl Z,_,cY,_,Z,[120000],by decide,Z,Z,Z⟩
def mz:Option In→In×Bool
  | none=>(⟨0,0⟩,false)
  | some x=>(x,true)
abbrev Ck(r:Option In):A:=.tup [.agg ((mz r).1.cells.map .d),eB (mz r).2]
theorem zn(w:Str):gd (fun v=>decide (v=w)) xd=ep w:=by
 unfold gd ep
 cases h:xd.findIdx? (fun v=>decide (v=w))with
 | none=>
  rw[if_neg]
  rw[List.findIdx?_eq_none_iff]at h
  rw[List.any_eq_true]
  rintro⟨v,h1,h2⟩
  rw[h v h1]at h2;cases h2
 | some i=>
  have h2:=List.findIdx?_eq_some_iff_findIdx_eq.1 h
  rw[if_pos,h2.2]
  have h3:xd.findIdx (fun v=>decide (v=w))<xd.length:=by omega
  exact List.any_eq_true.2 (List.findIdx_lt_length.1 h3)
theorem xR(w:Str): -1≤ep w∧ep w≤11:=by
 unfold ep
 split
 rename_i i h
 obtain⟨h2,_⟩:=List.findIdx?_eq_some_iff_getElem.1 h
 have:xd.length=12:=rfl
 omega
 omega
theorem vH{w:Str}(h:0≤ep w):jE (ep w)=w:=by
 unfold ep at h ⊢
 split
 rename_i i h3
 obtain⟨h2,h4,_⟩:=List.findIdx?_eq_some_iff_getElem.1 h3
 have h5:=bc h4
 unfold jE
 rw[Int.toNat_natCast,List.getD_eq_getElem?_getD,List.getElem?_eq_getElem h2]
 exact h5
 rename_i h3
 rw[h3]at h;simp at h
def uK(w:Str)(n:Nat):Int:=if 0≤ep w∧ep w<(n:Int)then ep w else -1
theorem zo{w:Str}{n:Nat}(hn:n<12)(h:jE (n:Int)=w):uK w (n+1)=n:=by
 have h2:ep w=n:=by rw[←h];exact kC (by omega) (by omega)
 unfold uK
 rw[h2,if_pos (by omega)]
theorem zp{w:Str}{n:Nat}(h: ¬jE (n:Int)=w):uK w (n+1)=uK w n:=by
 have h2: ¬ep w=n:=fun e=>h (by rw[←e];exact vH (by omega))
 unfold uK
 by_cases h3:0≤ep w∧ep w<(n:Int)
 rw[if_pos h3,if_pos (by omega)]
 rw[if_neg h3,if_neg (by omega)]
theorem zq{w:Str}:uK w 0= -1:=if_neg (by omega)
theorem xS{w:Str}:uK w 12=ep w:=by
 have:=xR w
 unfold uK
 split<;>omega
theorem py{s:Str}(h:(aS 32 s).length=2):mA s=if(di (mt ((aS 32 s).getD 1 default))).2=true∧aV ⟨ep ((aS 32 s).getD 0 default),(di (mt ((aS 32 s).getD 1 default))).1⟩=true∧fU ⟨ep ((aS 32 s).getD 0 default),(di (mt ((aS 32 s).getD 1 default))).1⟩=s then some ⟨ep ((aS 32 s).getD 0 default),(di (mt ((aS 32 s).getD 1 default))).1⟩else none:=by
 rw[←nz]
 unfold mA ym w5
 simp only[h,if_true];rfl
theorem tu{s:Str}(h: ¬(aS 32 s).length=2):mA s=if aV ⟨ep ((aS 32 s).getD 0 default),0⟩=true∧fU ⟨ep ((aS 32 s).getD 0 default),0⟩=s then some ⟨ep ((aS 32 s).getD 0 default),0⟩else none:=by
 unfold mA ym w5
 simp only[h,if_false,true_and];rfl
theorem sL{b:Bool}{p:Prop}[Decidable p](h:(bif !b then true else !decide p)=true): ¬(b=true∧p):=by
 cases b<;>simp_all
theorem pu{b:Bool}{p:Prop}[Decidable p](h:(bif !b then true else !decide p)=false):b=true∧p:=by
 cases b<;>simp_all
theorem wu{s:Str}:mv s=if aV ⟨ep (Lib.cut s [32]).1,if i5 (ep (Lib.cut s [32]).1)=true then(di (dz (Lib.cut s [32]).2.1)).1 else 0⟩=true∧fU ⟨ep (Lib.cut s [32]).1,if i5 (ep (Lib.cut s [32]).1)=true then(di (dz (Lib.cut s [32]).2.1)).1 else 0⟩=s then some ⟨ep (Lib.cut s [32]).1,if i5 (ep (Lib.cut s [32]).1)=true then(di (dz (Lib.cut s [32]).2.1)).1 else 0⟩else none:=rfl
theorem zD{ws:List Str}{w:Str}:MQ h1 h2 83 [.c (.d (strs ws)),aS8 w] [] (Plain (eI (gd (fun v=>decide (v=w)) ws))):=by
 refine au ?_ Z
 refine jB 19 h1 h2 Tryz.func83 Z fun O hF=>?_
 have hl:ws.length≤L:=by have h:=hF;simp only[As.fact,A.fact,M.fact,D.fact,bd]at h;exact h.1.1
 refine ae (js Z (jn (ag (ae (js Z ?_)))))
 first|refine cm Z ?_|refine js Z ?_|refine aU Z Z ?_
 refine js Z (jn (am (av (X:=Nat) (fun i=>⟨[(0,.c (.d (strs ws))),(1,aS8 w),(6,.c (.d (strs ws))),(7,eI ws.length),(8,eI i)],[]⟩) (fun i=>i≤ws.length∧∀j (h:j<ws.length),j<i→(fun v=>decide (v=w)) ws[j]=false) (fun i=>ws.length-i) 0 (Ent.to ⟨Z,Z,Z,Z,Z,ao⟩ Z) ?_ (fun i hi=>?_))))
 exact⟨ca _,fun j h hj=>absurd hj (Nat.not_lt_zero j)⟩
 refine ae (js Z (jn (ag (ak Z (fun z9=>?_) (fun z9=>?_)))))
 refine af (ag (am (ae ?_)))
 have hil:i<ws.length:=by have:=bc z9;omega
 refine ac Z (be (aF Z (aa (aE O Z Z Z Z Z Z Z Z (cb hil)) Z (js Z (aa (Val.seq (p:=w) (q:=ws.getD i default) O Z Z Z Z Z Z) Z (jf [16,5,10,9,0,1,6,7,8] Z (jn (ak Z (fun z16=>?_) (fun z16=>?_)))))))))
 refine ae (ac Z (jr ?_))
 refine ay Z ?_
 rw[getD_lt hil]at z16
 rw[gS hil hi.2 (decide_eq_true (bc z16).symm)]
 refine af (ab ?_)
 first|refine ji Z ?_|refine aU Z Z ?_
 refine js Z (jn ?_)
 refine⟨i+1,Ent.to ⟨Z,Z,Z,Z,Z,ao⟩ Z,⟨by omega,fun j h hj=>?_⟩,by omega⟩
 by_cases e:j=i
 subst e;rw[getD_lt h]at z16;exact decide_eq_false fun e=>bw z16 e.symm
 exact hi.2 j h (by omega)
 refine aJ (ae (js Z (jr ?_)))
 refine ay Z ?_
 have h9:=bw z9
 rw[gR (fun j hj=>hi.2 j hj (by omega))]
theorem zF{s:Str}(hL:1048576<L)(hs:s.length≤1048576):MQ h1 h2 36 [aS8 s] [] (Plain (Ck (mv s))):=by
 refine MC.data (jB 38 h1 h2 Tryz.func36 Z fun O hF=>?_)
 refine ae (jl Z (aB ?_))
 refine js Z (be (js Z (aw O Z Z Z Z (wX (s:=s) (sep:=[32]) h1 h2) (ah Z) Z Z Z Z (B0:=11000) Z Z (js Z ?_))))
 obtain⟨F,hF0⟩: ∃F,F=(Lib.cut s [32]).1:=⟨_,rfl⟩
 obtain⟨G,hG0⟩: ∃G,G=(Lib.cut s [32]).2.1:=⟨_,rfl⟩
 have hcl:=kp s [32]
 rw[←hF0,←hG0]at hcl
 rw[←hF0,←hG0]
 refine aM Z (ac Z (jf [5,4,3,2,0] Z (be (aw O Z Z Z Z (sP h1 h2) (ah Z) Z Z Z Z (B0:=15000) Z Z (js Z (jf [15,14,5,3,2,0] Z (aO Z (zD (ws:=xd) (w:=F) h1 h2) 17000 Z ?_)))))))
 rw[zn]
 refine js Z (jf [17,5,3,2,0] Z (jl Z (aB ?_)))
 refine jo Z (aB ?_)
 refine jn (ag (ae (ac Z (jf [19,7,17,5,3,2,0] Z (aO Z (wO (x:=ep F) h1 h2) 21000 Z (jn ?_))))))
 obtain⟨a,ha⟩: ∃a:Int,a=if i5 (ep F)=true then(di (dz G)).1 else 0:=⟨_,rfl⟩
 refine bl ⟨[(0,aS8 s),(2,.c (.pt 2 0 0)),(7,.c (.pt 7 0 0))],[(2,.box [.d (.int .i64 0),.d (.int .i64 0)]),(7,.box [.d (.int .i64 (ep F)),.d (.int .i64 a)])]⟩ ?_ ?_
 refine ak Z (fun z20=>?_) (fun z20=>?_)
 refine ab (js Z (jf [22,19,7,17,3,2,0] Z (aw O Z Z Z Z (nC (s:=G) h1 h2 (by omega)) (ah Z) Z Z Z Z (B0:=24000) Z Z (aM Z (jf [26,24,19,7,17,3,2,0] Z (jo Z (aB ?_)))))))
 refine jf [19,7,17,3,2,0] Z (jn ?_)
 exact⟨Z,Ent.to ⟨Z,Z,Z,ao⟩ (by rw[ha,if_pos z20])⟩
 refine af ?_
 exact⟨Z,Ent.to ⟨Z,Z,Z,ao⟩ (by rw[ha,if_neg (by rw[z20];decide)])⟩
 refine ag (ae (js Z (aO Z (yY (x:=(⟨ep F,a⟩:In)) h1 h2) 29000 Z (ac Z (jf [30,0,2,7] Z (ar 4 Z Z Z (fun hx=>aq hx Z (bj O hx Z Z Z Z (wR (x:=(⟨ep F,a⟩:In)) h1 h2 (by simpa using hx)) (ah Z) Z Z Z Z Z Z Z (B0:=33000) Z (aq hx Z (bf hx (b9 (p:=fU (⟨ep F,a⟩:In)) (q:=s) O Z Z Z Z Z Z) Z (AN.nil))))) Z Z ?_))))))
 first|refine aa (al O Z Z Z Z Z) Z ?_|refine aa (Val.pickB O Z Z Z Z Z) Z ?_|refine aa (aj O Z Z Z Z Z) Z ?_
 refine jf [35,0,2,7] Z (jn (ak Z (fun z35=>?_) (fun z35=>?_)))
 refine ae (js Z (jf [36,0,2,7] Z (jo Z (aB ?_))))
 refine js Z (jr ?_)
 refine ay Z ?_
 have hno:mv s=none:=by rw[wu,←hF0,←hG0,←ha,if_neg];intro hh;revert z35;simp[hh.1,hh.2]
 rw[hno]
 exact .tup (.cons (.agg (aW Z)) (.cons (.c .d) .nil))
 refine af (ae (js Z (jf [37,0,2,7] Z (jo Z (aB ?_)))))
 refine js Z (jr ?_)
 refine ay Z ?_
 have hyes:mv s=some (⟨ep F,a⟩:In):=by rw[wu,←hF0,←hG0,←ha,if_pos];revert z35;cases h7:aV (⟨ep F,a⟩:In)<;>simp
 rw[hyes]
 exact .tup (.cons (.agg (aW Z)) (.cons (.c .d) .nil))
theorem zE{s:Str}(hL:1048576<L)(hs:s.length≤1048576):MQ h1 h2 66 [aS8 s] [] (Plain (Ck (mA s))):=by
 refine MC.data (jB 50 h1 h2 Tryz.func66 Z fun O hF=>?_)
 refine ae (jl Z (aB ?_))
 refine js Z (be (js Z (aw O Z Z Z Z (sW (s:=s) (m:=32) h1 h2 (by omega) (by omega)) (ah Z) Z Z Z Z (B0:=11000) Z Z (js Z (jf [4,3,2,0] Z (be ?_))))))
 obtain⟨P0,q0,hQ,_⟩:=fp 32 s
 have hQ1:0<(aS 32 s).length:=by rw[hQ];simp
 refine js Z (jl Z (aB ?_))
 refine jo Z (aB ?_)
 refine jn (ag (ae (js Z (jn (am (av (X:=Nat) (fun i=>⟨[(0,aS8 s),(2,.c (.pt 2 0 0)),(4,.c (.d (strs (aS 32 s)))),(5,.c (.pt 5 0 0)),(6,eI i)],[(2,.box [.d (.int .i64 0),.d (.int .i64 0)]),(5,.box [.d (.int .i64 (uK ((aS 32 s).getD 0 default) i)),.d (.int .i64 0)])]⟩) (fun i=>i≤12) (fun i=>12-i) 0 (Ent.to ⟨Z,Z,Z,Z,Z,ao⟩ (by rw[zq])) ?_ (fun i hi=>?_)))))))
 exact ca _
 refine ag (ae (ac Z (jn (ak Z (fun z13=>?_) (fun z13=>?_)))))
 refine af (ag (am (ag (lC [_,_,_,_,_,_] [bC,pe [0] 0,pn [] 0 1,pn [2] 0 1,pn [2,3] 0 1,pn (rg 0 5) 1 1] [1] [_,_] (kc Z (ai (aP O (B0:=18000) Z Z Z Z (wP (k:=i) h1 h2 (by have:=bc z13;omega)) (ah Z) Z Z Z Z Z) (ai (kc Z (V Z)) (ai (ai (aE O Z Z Z Z Z Z Z Z (cb (n:=0) hQ1)) (aE O Z Z Z Z Z Z Z Z (cb (n:=0) hQ1))) (ai (kc Z (V Z)) (ai (Val.seq (p:=jE (i:Int)) (q:=((aS 32 s).getD 0 default)) O Z Z Z Z Z Z) trivial)))))) ?_))))
 refine jw [21,13,12,0,2,4,5,6] Z (nv ?_)
 refine ak Z (fun z21=>?_) (fun z21=>?_)
 refine ab (ac Z (jo Z (aB ?_)))
 refine jf [21,13,12,0,2,4,5,6] Z (jn (ab (js Z ?_)))
 first|refine ji Z ?_|refine aU Z Z ?_
 refine js Z (jf [6,21,13,12,0,2,4,5] Z (jn ?_))
 have hi0:i<12:=by have:=bc z13;omega
 refine⟨i+1,Ent.to ⟨Z,Z,Z,Z,Z,ao⟩ (by rw[zo hi0 (bc z21)]),by omega,by omega⟩
 refine af (ab (js Z ?_))
 first|refine ji Z ?_|refine aU Z Z ?_
 refine js Z (jf [6,21,13,12,0,2,4,5] Z (jn ?_))
 have hi0:i<12:=by have:=bc z13;omega
 refine⟨i+1,Ent.to ⟨Z,Z,Z,Z,Z,ao⟩ (by rw[zp (bw z21)]),by omega,by omega⟩
 refine aJ (ag (ae ?_))
 obtain rfl:i=12:=by have:=bw z13;omega
 rw[xS]
 refine js Z ?_
 first|refine cm Z ?_|refine js Z ?_|refine aU Z Z ?_
 refine js Z (jf [26,13,12,0,2,4,5,6] Z (jn (ak Z (fun z26=>?_) (fun z26=>?_))))
 refine ae (js Z ?_)
 have h2l:(aS 32 s).length=2:=by have:=bc z26;omega
 refine aa (aE O Z Z Z Z Z Z Z Z (cb (n:=1) (by omega))) Z (js Z (jf [30,26,13,12,0,2,4,5,6] Z (aw O Z Z Z Z (sU (s:=((aS 32 s).getD 1 default)) h1 h2) (ah Z) Z Z Z Z (B0:=32000) Z Z (aM Z (js Z (jf [8,7,26,13,12,0,2,4,5,6] Z (jn (ag (ae (ac Z (jf [35,7,26,13,12,0,2,4,5,6] Z (jn (ak Z (fun z35=>?_) (fun z35=>?_))))))))))))))
 refine ae (js Z (jo Z (aB ?_)))
 refine js Z (jr ?_)
 refine ay Z ?_
 rw[py h2l,if_neg (fun hh=>by rw[hh.1]at z35;cases z35)]
 exact .tup (.cons (.agg (aW Z)) (.cons (.c .d) .nil))
 refine af (ab (ac Z (jf [38,37,35,26,13,12,0,2,4,5,6] Z (jo Z (aB ?_)))))
 refine jf [35,26,13,12,0,2,4,5,6] Z (jn (ag (ae (js Z (aO Z (xm (x:=(⟨ep ((aS 32 s).getD 0 default),_⟩:In)) h1 h2) 41000 Z (ac Z (jf [42,35,26,13,12,0,2,4,5,6] Z (ar 4 Z Z Z (fun hx=>aq hx Z (bj O hx Z Z Z Z (sR (x:=(⟨ep ((aS 32 s).getD 0 default),_⟩:In)) h1 h2 (by simpa using hx)) (ah Z) Z Z Z Z Z Z Z (B0:=45000) Z (aq hx Z (bf hx (b9 (p:=fU (⟨ep ((aS 32 s).getD 0 default),_⟩:In)) (q:=s) O Z Z Z Z Z Z) Z (AN.nil))))) Z Z ?_))))))))
 first|refine aa (al O Z Z Z Z Z) Z ?_|refine aa (Val.pickB O Z Z Z Z Z) Z ?_|refine aa (aj O Z Z Z Z Z) Z ?_
 refine jf [47,35,26,13,12,0,2,4,5,6] Z (jn (ak Z (fun z47=>?_) (fun z47=>?_)))
 refine ae (js Z (jo Z (aB ?_)))
 refine js Z (jr ?_)
 refine ay Z ?_
 rw[py h2l,if_neg (fun hh=>sL z47 hh.2)]
 exact .tup (.cons (.agg (aW Z)) (.cons (.c .d) .nil))
 refine af (ae (js Z (jo Z (aB ?_))))
 refine js Z (jr ?_)
 refine ay Z ?_
 rw[py h2l,if_pos ⟨by simpa using z35,pu z47⟩]
 exact .tup (.cons (.agg (aW Z)) (.cons (.c .d) .nil))
 refine af (ag (ae (js Z (aO Z (xm (x:=(⟨ep ((aS 32 s).getD 0 default),_⟩:In)) h1 h2) 41000 Z (ac Z (jf [42,26,13,12,0,2,4,5,6] Z (ar 4 Z Z Z (fun hx=>aq hx Z (bj O hx Z Z Z Z (sR (x:=(⟨ep ((aS 32 s).getD 0 default),_⟩:In)) h1 h2 (by simpa using hx)) (ah Z) Z Z Z Z Z Z Z (B0:=45000) Z (aq hx Z (bf hx (b9 (p:=fU (⟨ep ((aS 32 s).getD 0 default),_⟩:In)) (q:=s) O Z Z Z Z Z Z) Z (AN.nil))))) Z Z ?_)))))))
 first|refine aa (al O Z Z Z Z Z) Z ?_|refine aa (Val.pickB O Z Z Z Z Z) Z ?_|refine aa (aj O Z Z Z Z Z) Z ?_
 refine jf [47,26,13,12,0,2,4,5,6] Z (jn (ak Z (fun z47=>?_) (fun z47=>?_)))
 refine ae (js Z (jo Z (aB ?_)))
 refine js Z (jr ?_)
 refine ay Z ?_
 have h2n: ¬(aS 32 s).length=2:=by have:=bw z26;omega
 rw[tu h2n,if_neg (fun hh=>sL z47 hh)]
 exact .tup (.cons (.agg (aW Z)) (.cons (.c .d) .nil))
 refine af (ae (js Z (jo Z (aB ?_))))
 refine js Z (jr ?_)
 refine ay Z ?_
 have h2n: ¬(aS 32 s).length=2:=by have:=bw z26;omega
 rw[tu h2n,if_pos (pu z47)]
 exact .tup (.cons (.agg (aW Z)) (.cons (.c .d) .nil))
end Go.Al
/- Annotated code as text: the steps of reading, in plain Lean. -/
namespace Go.Al
variable{L:Nat}(h1:4096≤L)(h2:L≤1073741824)
open Go.Lib
theorem zg(s:Str):mu s=dD s:=by
 cases h:mu s with
 | some x=>exact((iy s x).2 ((kh s x).1 h)).symm
 | none=>
  cases h2:dD s with
  | none=>rfl
  | some x=>rw[(kh s x).2 ((iy s x).1 h2)]at h;cases h
def Ay(fs:List Tm):D:=if fs=[]then .nils else .slc 2 (fs.map Tm.cells)
def kr(p:Pt):List D:=[.int .i64 p.k,Ay p.fs]
abbrev qw(ps:List Pt):B:=.row true 2 (ps.map kr)
theorem m2: ∀(ps:List Pt),NLess (ps.map kr) (ps.map Pt.cells)
 | []=>.nil
 | p::r=>.cons (uN (.cons (by
  unfold Ay
  by_cases h:p.fs=[]
  · rw[if_pos h,h];exact .nil
  · rw[if_neg h];exact .refl) .nil)) (m2 r)
theorem pz{p:Pt}(h:p.fs≠[]):kr p=[.int .i64 p.k,.slc 2 (p.fs.map Tm.cells)]:=by
 unfold kr Ay;rw[if_neg h]
theorem kl{p:Pt}(h:p.fs=[]):kr p=[.int .i64 p.k,.nils]:=by
 unfold kr Ay;rw[if_pos h]
theorem uc{k:Int}{fs:List Tm}{r:Tm}:kr ⟨k,fs++[r]⟩=[.int .i64 k,.slc 2 ((fs++[r]).map Tm.cells)]:=pz (by simp)
def i3(ps:List Pt)(k:Nat)(r:Tm):List Pt:=ps.set k ⟨(ps.getD k default).k,(ps.getD k default).fs++[r]⟩
theorem iL{ps:List Pt}{k:Nat}{r:Tm}:(i3 ps k r).length=ps.length:=by unfold i3;rw[List.length_set]
theorem nS{ps:List Pt}{k:Nat}{r:Tm}{x:D}:((ps.map kr).set k [.int .i64 (ps.getD k default).k,x]).set k ([.int .i64 (ps.getD k default).k,x].take 1++(.slc 2 (((ps.getD k default).fs++[r]).map Tm.cells)::[.int .i64 (ps.getD k default).k,x].drop 2))=(i3 ps k r).map kr:=by
 rw[List.set_set,i3,List.map_set,uc];rfl
theorem ma{ps:List Pt}{k:Nat}{r:Tm}(h:(ps.getD k default).fs=[]):(ps.map kr).set k ([D.int .i64 (ps.getD k default).k,.nils].take 1++(.slc 2 ([r].map Tm.cells)::[D.int .i64 (ps.getD k default).k,.nils].drop 2))=(i3 ps k r).map kr:=by
 rw[i3,h,List.map_set]
 rfl
theorem km{ps:List Pt}{k:Nat}(h:k<ps.length):(ps.map kr)[k]? = some (kr (ps.getD k default)):=by
 rw[List.getElem?_map,List.getElem?_eq_getElem h,getD_lt h];rfl
theorem qZ{ps:List Pt}{k:Nat}{e:List D}(h:k<ps.length):((ps.map kr).set k e)[k]? = some e:=by
 rw[List.getElem?_set_self (by rw[bd];exact h)]
section
variable{a:An}{l:Str}{r:Tm×Bool}
abbrev gK(l:Str):Str:=(cut l [32]).1
abbrev oW(l:Str):Str:=(cut l [32]).2.1
theorem mh:gK bT=bT:=by decide +kernel
theorem qL(hr:r=cy (dD (oW l)))(h:gK l=cr∧r.2=true):iV a l=some ⟨a.pre++[r.1],a.post,a.code,a.pts⟩:=by
 subst hr;exact if_pos h
theorem nI(hr:r=cy (dD (oW l)))(h1: ¬(gK l=cr∧r.2=true))(h:gK l=bR∧r.2=true):iV a l=some ⟨a.pre,a.post++[r.1],a.code,a.pts⟩:=by
 subst hr;exact(if_neg h1).trans (if_pos h)
theorem lW(hr:r=cy (dD (oW l)))(h:l=bT):iV a l=some ⟨a.pre,a.post,a.code,a.pts++[⟨(a.code.length:Int),[]⟩]⟩:=by
 subst hr
 have hF:gK l=bT:=by rw[h];exact mh
 have h1: ¬(gK l=cr∧(cy (dD (oW l))).2=true):=fun e=>by rw[hF]at e;exact absurd e.1 (by decide)
 have h2: ¬(gK l=bR∧(cy (dD (oW l))).2=true):=fun e=>by rw[hF]at e;exact absurd e.1 (by decide)
 exact(if_neg h1).trans ((if_neg h2).trans (if_pos h))
theorem mE(hr:r=cy (dD (oW l)))(h:gK l=jD∧r.2=true∧0<a.pts.length):iV a l=some ⟨a.pre,a.post,a.code,i3 a.pts (a.pts.length-1) r.1⟩:=by
 subst hr
 have h1: ¬(gK l=cr∧(cy (dD (oW l))).2=true):=fun e=>by rw[h.1]at e;exact absurd e.1 (by decide)
 have h2: ¬(gK l=bR∧(cy (dD (oW l))).2=true):=fun e=>by rw[h.1]at e;exact absurd e.1 (by decide)
 have h3: ¬l=bT:=fun e=>by have h4:=h.1;rw[e,mh]at h4;exact absurd h4 (by decide)
 exact(if_neg h1).trans ((if_neg h2).trans ((if_neg h3).trans (if_pos h)))
theorem s9(hr:r=cy (dD (oW l)))(h1: ¬(gK l=cr∧r.2=true))(h2: ¬(gK l=bR∧r.2=true))(h3: ¬l=bT)(h4: ¬(gK l=jD∧r.2=true∧0<a.pts.length)):iV a l=match mv l with
    | none=>none
    | some x=>some ⟨a.pre,a.post,a.code++[x],a.pts⟩:=by
  subst hr;exact(if_neg h1).trans ((if_neg h2).trans ((if_neg h3).trans (if_neg h4)))
theorem s8(hr:r=cy (dD (oW l)))(h1: ¬(gK l=cr∧r.2=true))(h2: ¬(gK l=bR∧r.2=true))(h3: ¬l=bT)(h4: ¬(gK l=jD∧r.2=true∧0<a.pts.length))(h:(mz (mv l)).2=true):iV a l=some ⟨a.pre,a.post,a.code++[(mz (mv l)).1],a.pts⟩:=by
 rw[s9 hr h1 h2 h3 h4]
 cases hx:mv l with
 | none=>rw[hx]at h;cases h
 | some x=>rfl
theorem s7(hr:r=cy (dD (oW l)))(h1: ¬(gK l=cr∧r.2=true))(h2: ¬(gK l=bR∧r.2=true))(h3: ¬l=bT)(h4: ¬(gK l=jD∧r.2=true∧0<a.pts.length))(h:(mz (mv l)).2=false):iV a l=none:=by
 rw[s9 hr h1 h2 h3 h4]
 cases hx:mv l with
 | none=>rfl
 | some x=>rw[hx]at h;cases h
end
theorem jg{p:Prop}[Decidable p]{b:Bool}:(bif decide p then b else false)=true↔p∧b=true:=by
 by_cases h:p<;>simp[h]
theorem tU{p:Prop}[Decidable p]{b c:Bool}:(bif (bif decide p then b else false)then c else false)=true↔p∧b=true∧c=true:=by
 by_cases h:p<;>cases b<;>simp[h]
theorem dN{ls:List Str}{i:Nat}{a b:An}(hi:i<ls.length)(h:cp (ls.take i) nq=some a)(hs:iV a (ls.getD i default)=some b):cp (ls.take (i+1)) nq=some b:=by
 rw[List.take_succ_eq_append_getElem hi,ic,h,←getD_lt hi];exact hs
theorem um{ls:List Str}{i:Nat}{a:An}(hi:i<ls.length)(h:cp (ls.take i) nq=some a)(hs:iV a (ls.getD i default)=none):cp ls nq=none:=by
 have h1:ls=ls.take i++ls.getD i default::ls.drop (i+1):=by
  conv=>lhs;rw[←List.take_append_drop i ls,List.drop_eq_getElem_cons hi,←getD_lt hi]
 rw[h1];exact jz h hs
def ku:Option An→An×Bool
  | none=>(nq,false)
  | some a=>(a,true)
theorem xG{t:Str}{a:An}(h: ¬nu t)(hf:cp (aS 10 t).dropLast nq=some a):fV t=if dC a=true∧cH a=t then some a else none:=by
 rw[tn h,hf]
theorem xH{t:Str}(h: ¬nu t)(hf:cp (aS 10 t).dropLast nq=none):fV t=none:=by
 rw[tn h,hf]
theorem pk{c:UInt8}: ∀{ls:List Str} {q:Str},(∀p∈ls,c ∉ p)→aS c (bz c ls++q)=ls++aS c q
 | [],q,_=>rfl
 | p::r,q,h=>by
  rw[bz,dh,List.cons_append,ix _ (h p (List.mem_cons_self ..)),pk (fun q hq=>h q (List.mem_cons_of_mem _ hq))];rfl
structure Rdg(t:Str)(f:Nat)(a:An)(ls:List Str):Prop where
  le:f≤t.length
  cat:t.take f=bz 10 ls
  no: ∀p∈ls,(10:UInt8) ∉ p
  fold:cp ls nq=some a
theorem Rdg.zero{t:Str}:Rdg t 0 nq []:=⟨ca _,rfl,by simp,rfl⟩
abbrev kb(t:Str)(f i:Nat):Str:=(t.drop f).take (i-f)
theorem Rdg.step{t:Str}{f i:Nat}{a b:An}{ls:List Str}(h:Rdg t f a ls)(hf:f≤i)(hi:i<t.length)(hc:t.getD i 0=10)(hn:(10:UInt8) ∉ kb t f i)(hs:iV a (kb t f i)=some b):Rdg t (i+1) b (ls++[kb t f i]):=by
 refine⟨hi,?_,fun p hp=>?_,?_⟩
 rw[ct,←h.cat]
 have h1:t.take (i+1)=t.take f++(kb t f i++[10]):=by
  rw[List.take_succ_eq_append_getElem hi,←dh]
  congr 1
  conv=>lhs;rw[show i=f+(i-f) by omega,List.take_add]
  rw[List.getD_eq_getElem?_getD,List.getElem?_eq_getElem hi]at hc
  exact congrArg (fun x=>[x]) hc
 rw[h1];simp[bz]
 rcases List.mem_append.1 hp with hp|hp
 exact h.no p hp
 rw[List.mem_singleton.1 hp];exact hn
 rw[ic,h.fold];exact hs
theorem Rdg.bad{t:Str}{f i:Nat}{a:An}{ls:List Str}(h:Rdg t f a ls)(hf:f≤i)(hi:i<t.length)(hc:t.getD i 0=10)(hn:(10:UInt8) ∉ kb t f i)(hs:iV a (kb t f i)=none):fV t=none:=by
 have h1:t=bz 10 ls++(kb t f i++10::t.drop (i+1)):=by
  rw[←h.cat]
  conv=>lhs;rw[←List.take_append_drop f t]
  congr 1
  conv=>lhs;rw[←List.take_append_drop (i-f) (t.drop f)]
  rw[List.drop_drop,show f+(i-f)=i by omega,List.drop_eq_getElem_cons hi]
  congr 2
  rw[List.getD_eq_getElem?_getD,List.getElem?_eq_getElem hi]at hc
  exact hc
 have h2:aS 10 t=ls++kb t f i::aS 10 (t.drop (i+1)):=by
  conv=>lhs;rw[h1]
  rw[pk h.no,ix _ hn]
 have h3:(aS 10 t).dropLast=ls++kb t f i::(aS 10 (t.drop (i+1))).dropLast:=by
  rw[h2,List.dropLast_append_of_ne_nil (by simp)]
  cases h4:aS 10 (t.drop (i+1))with
  | nil=>exact absurd h4 (pm 10 _)
  | cons x r=>rfl
 unfold fV
 rw[h3,jz h.fold hs]
theorem Rdg.fin{t:Str}{f:Nat}{a:An}{ls:List Str}(h:Rdg t f a ls)(hn:(10:UInt8) ∉ kb t f t.length):fV t=if f=t.length∧dC a=true∧cH a=t then some a else none:=by
 have h0:kb t f t.length=t.drop f:=List.take_of_length_le (by rw[List.length_drop];omega)
 rw[h0]at hn
 have h2:aS 10 t=ls++[t.drop f]:=by
  conv=>lhs;rw[←List.take_append_drop f t,h.cat]
  rw[pk h.no,iK hn]
 have hle:=h.le
 unfold fV
 rw[h2,List.dropLast_concat,h.fold]
 simp only[List.getLast?_concat]
 have h3:some (t.drop f)=some ([]:Str)↔f=t.length:=by
  constructor
  intro e
  have:=congrArg List.length (Option.some.inj e)
  rw[List.length_drop]at this
  simp at this;omega
  intro e;rw[e,List.drop_length]
 simp only[h3]
theorem vz{t:Str}{f i:Nat}(hf:f≤i)(hi:i<t.length)(hn:(10:UInt8) ∉ kb t f i)(hc:t.getD i 0≠10):(10:UInt8) ∉ kb t f (i+1):=by
 have h1:kb t f (i+1)=kb t f i++[t.getD i 0]:=by
  show(t.drop f).take (i+1-f)=_
  rw[show i+1-f=(i-f)+1 by omega,List.take_succ_eq_append_getElem (by rw[List.length_drop];omega)]
  congr 2
  rw[List.getElem_drop,List.getD_eq_getElem?_getD,List.getElem?_eq_getElem hi]
  congr 1;omega
 rw[h1]
 intro h
 rcases List.mem_append.1 h with h|h
 exact hn h
 exact hc (List.mem_singleton.1 h).symm
theorem eA{t:Str}{f:Nat}:kb t f f=[]:=by show(t.drop f).take (f-f)=[];rw[Nat.sub_self];rfl
theorem vQ{l:Str}{k:Nat}(hk:k<l.length)(hn:(32:UInt8) ∉ l.take k)(hc:l.getD k 0=32):cut l [32]=(l.take k,l.drop (k+1),true):=by
 have h1:l=l.take k++32::l.drop (k+1):=by
  conv=>lhs;rw[←List.take_append_drop k l,List.drop_eq_getElem_cons hk]
  rw[List.getD_eq_getElem?_getD,List.getElem?_eq_getElem hk]at hc
  congr 2
 conv=>lhs;rw[h1]
 exact tO _ hn
theorem u4{l:Str}{k:Nat}(hk:k<l.length)(hn:(32:UInt8) ∉ l.take k)(hc:l.getD k 0≠32):(32:UInt8) ∉ l.take (k+1):=by
 rw[List.take_succ_eq_append_getElem hk]
 intro h
 rcases List.mem_append.1 h with h|h
 exact hn h
 rw[List.getD_eq_getElem?_getD,List.getElem?_eq_getElem hk]at hc
 exact hc (List.mem_singleton.1 h).symm
structure AnL(n:Nat)(a:An):Prop where
  pre:a.pre.length≤n
  post:a.post.length≤n
  code:a.code.length≤n
  pts:a.pts.length≤n
  fs: ∀p∈a.pts,p.fs.length≤n
theorem vd{n:Nat}{a b:An}{l:Str}(h:AnL n a)(hs:iV a l=some b):AnL (n+1) b:=by
 obtain⟨q1,q2,q3,q4,q5⟩:=h
 have q6: ∀p∈a.pts,p.fs.length≤n+1:=fun p hp=>Nat.le_succ_of_le (q5 p hp)
 unfold iV at hs
 split at hs
 cases hs;exact⟨by rw[bP];exact Nat.add_le_add_right q1 1,by show a.post.length≤_;omega,by show a.code.length≤_;omega,by show a.pts.length≤_;omega,q6⟩
 split at hs
 cases hs;exact⟨by show a.pre.length≤_;omega,by rw[bP];exact Nat.add_le_add_right q2 1,by show a.code.length≤_;omega,by show a.pts.length≤_;omega,q6⟩
 split at hs
 cases hs
 refine⟨by show a.pre.length≤_;omega,by show a.post.length≤_;omega,by show a.code.length≤_;omega,by rw[bP];exact Nat.add_le_add_right q4 1,fun p hp=>?_⟩
 rcases List.mem_append.1 hp with hp|hp
 exact q6 p hp
 rw[List.mem_singleton.1 hp];exact ca _
 split at hs
 rename_i h4
 cases hs
 refine⟨by show a.pre.length≤_;omega,by show a.post.length≤_;omega,by show a.code.length≤_;omega,by rw[List.length_set];omega,fun p hp=>?_⟩
 rcases List.mem_or_eq_of_mem_set hp with hp|hp
 exact q6 p hp
 rw[hp]
 show((a.pts.getD (a.pts.length-1) default).fs++[_]).length≤n+1
 rw[bP]
 have h5:a.pts.getD (a.pts.length-1) default∈a.pts:=by
  have:a.pts.length-1<a.pts.length:=by have:=h4.2.2;omega
  rw[getD_lt this];exact List.getElem_mem this
 exact Nat.add_le_add_right (q5 _ h5) 1
 split at hs
 cases hs
 cases hs;exact⟨by show a.pre.length≤_;omega,by show a.post.length≤_;omega,by rw[bP];exact Nat.add_le_add_right q3 1,by show a.pts.length≤_;omega,q6⟩
theorem jy: ∀{ls:List Str} {n:Nat} {a b:An},AnL n a→cp ls a=some b→AnL (n+ls.length) b
 | [],n,a,b,h,hs=>by rw[cp]at hs;cases hs;exact h
 | l :: r,n,a,b,h,hs=>by
  rw[cp]at hs
  cases hx:iV a l with
  | none=>rw[hx]at hs;cases hs
  | some c=>
   rw[hx]at hs
   have:=jy (vd h hx) hs
   rw[db]
   rwa[show n+(r.length+1)=n+1+r.length by omega]
theorem AnL.zero:AnL 0 nq:=⟨bQ _,bQ _,bQ _,bQ _,by simp⟩
theorem t3{ls:List Str}{i:Nat}{a:An}(h:cp (ls.take i) nq=some a):AnL ls.length a:=by
 have h1:=jy .zero h
 have h2:0+(ls.take i).length≤ls.length:=by rw[List.length_take];omega
 exact⟨Nat.le_trans h1.pre h2,Nat.le_trans h1.post h2,Nat.le_trans h1.code h2,Nat.le_trans h1.pts h2,fun p hp=>Nat.le_trans (h1.fs p hp) h2⟩
theorem Rdg.anl{t:Str}{f:Nat}{a:An}{ls:List Str}(h:Rdg t f a ls):AnL t.length a:=by
 have h1:=jy .zero h.fold
 have h3:ls.length≤(bz 10 ls).length:=k6
 have h2:0+ls.length≤t.length:=by
  rw[←h.cat,List.length_take]at h3
  have:=h.le;omega
 exact⟨Nat.le_trans h1.pre h2,Nat.le_trans h1.post h2,Nat.le_trans h1.code h2,Nat.le_trans h1.pts h2,fun p hp=>Nat.le_trans (h1.fs p hp) h2⟩
def oV(t:Str):List Str×Bool:=if nu t then([],false)else((aS 10 t).dropLast,true)
theorem Ar{t:Str}:yB t= .tup [.c (.d (strs (oV t).1)),eB (oV t).2]:=by
 unfold yB oV
 by_cases h:nu t
 rw[if_pos h,if_pos h]
 rw[if_neg h,if_neg h]
theorem xP{t:Str}(h:(oV t).2=false):nu t:=by
 unfold oV at h
 by_cases h2:nu t
 exact h2
 rw[if_neg h2]at h;cases h
theorem q8{t:Str}(h:(oV t).2=true): ¬nu t∧(oV t).1=(aS 10 t).dropLast:=by
 unfold oV at h ⊢
 by_cases h2:nu t
 rw[if_pos h2]at h;cases h
 exact⟨h2,by rw[if_neg h2]⟩
theorem vC{t:Str}:(oV t).1.length≤t.length:=by
 unfold oV
 split
 exact ca _
 have:=eb 10 t
 rw[List.length_dropLast];omega
theorem xQ{t:Str}{i:Nat}(h:i<(oV t).1.length):((oV t).1.getD i default).length≤t.length:=by
 unfold oV at h ⊢
 split
 rename_i h2;rw[if_pos h2]at h;cases h
 rename_i h2
 rw[if_neg h2]at h
 rw[getD_lt h]
 exact i8 _ (List.dropLast_subset _ (List.getElem_mem h))
set_option maxHeartbeats 8000000
theorem zH{t:Str}(hL:1048576<L)(hs:t.length≤1048576):MQ h1 h2 13 [aS8 t] [] (Rows (.tup [uS (ku (fV t)).1,eB (ku (fV t)).2]) (xo (ku (fV t)).1)):=by
 refine cK (jB 133 h1 h2 Tryz.func13 Z fun O hF=>?_)
 obtain⟨Q,hQ⟩: ∃Q,Q=(oV t).1:=⟨_,rfl⟩
 obtain⟨b0,hb0⟩: ∃b,b=(oV t).2:=⟨_,rfl⟩
 have hQl:Q.length≤t.length:=by rw[hQ];exact vC
 have hl:t.length≤L:=by omega
 refine ae (jl Z (aB ?_))
 refine js Z (be (js Z (aw O Z Z Z Z ((Ag (s:=t) h1 h2 hL hs).plain (v:=_) (u:=.tup [.c (.d (strs Q)),eB b0]) (by rw[Ar,←hQ,←hb0])) (ah Z) Z Z Z Z (B0:=20000) Z Z (aM Z (js Z (jf [5,4,3,2,0] Z (jn (ag (ae (ac Z (jf [23,4,3,2,0] Z (jn (ak Z (fun z23=>?_) (fun z23=>?_))))))))))))))
 refine ae (js Z (jf [24,4,3,2,0] Z (jo Z (aB ?_))))
 refine js Z (jr ?_)
 have hno:fV t=none:=vp (xP (by rw[←hb0];simpa using z23))
 rw[hno]
 refine⟨.inl Z,_,(ap 2 911 2 true 0 Z Z Z).trans ((ap 2 912 2 true 1 Z Z Z).trans ((ap 2 913 2 true 2 Z Z Z).trans (ap 2 914 2 true 3 Z Z Z))),_,Z,[911,912,913,914],by decide,Z,Z,Z⟩
 refine af (ae (jl Z (aB ?_)))
 refine jn (ag (ae (js Z ?_)))
 first|refine cm Z ?_|refine js Z ?_|refine aU Z Z ?_
 refine js Z (jf [27,26,25,6,3,2,0] Z (jn (am (av (X:=Nat×An) (fun z=>⟨[(0,aS8 t),(2,.c (.pt 2 0 0)),(6,.c (.pt 6 0 0)),(25,.c (.d (strs Q))),(26,eI Q.length),(27,eI (z.1:Nat))],[(2,.box [.d .nils,.d .nils,.d .nils,.d .nils]),(6,.box [.rs 901 0 z.2.pre.length,.rs 902 0 z.2.post.length,.rs 903 0 z.2.code.length,.rs 904 0 z.2.pts.length]),(901,cV z.2.pre),(902,cV z.2.post),(903,fj z.2.code),(904,qw z.2.pts)]⟩) (fun z=>z.1≤Q.length∧cp (Q.take z.1) nq=some z.2) (fun z=>Q.length-z.1) (0,nq) (((ap 6 901 2 true 0 Z Z Z).trans ((ap 6 902 2 true 1 Z Z Z).trans ((ap 6 903 2 true 2 Z Z Z).trans (ap 6 904 2 true 3 Z Z Z)))).trans (Ent.to ⟨Z,Z,Z,Z,Z,Z,ao⟩ Z)) ?_ (fun z hi=>?_)))))
 exact⟨ca _,Z⟩
 refine ae (js Z (jn (ag (ak Z (fun z28=>?_) (fun z28=>?_)))))
 refine af (ag (am (ae ?_)))
 have hi0:z.1<Q.length:=by have:=bc z28;omega
 have hb:=t3 hi.2
 obtain⟨q1,q2,q3,q4,q5⟩:=hb
 have hlt:(Q.getD z.1 default).length≤t.length:=by rw[hQ]at hi0 ⊢;exact xQ hi0
 obtain⟨l,hl⟩: ∃l,l=(Q.getD z.1 default):=⟨_,rfl⟩
 refine aa (aE O Z Z Z Z Z Z Z Z (cb hi0)) Z (ac Z (jf [8,28,0,2,6,25,26,27] Z (be ?_)))
 rw[←hl]
 rw[←hl]at hlt
 refine js Z (aw O Z Z Z Z (wX (s:=l) (sep:=[32]) h1 h2) (ah Z) Z Z Z Z (B0:=34000) Z Z (js Z ?_))
 obtain⟨F,hF0⟩: ∃F,F=gK l:=⟨_,rfl⟩
 obtain⟨G,hG0⟩: ∃G,G=oW l:=⟨_,rfl⟩
 have hcl:=kp l [32]
 rw[show(Lib.cut l [32]).1=F from hF0.symm,show(Lib.cut l [32]).2.1=G from hG0.symm]at hcl
 rw[show(Lib.cut l [32]).1=F from hF0.symm,show(Lib.cut l [32]).2.1=G from hG0.symm]
 refine aM Z (ac Z (jf [10,9,8,28,0,2,6,25,26,27] Z (be (js Z (jf [38,9,8,28,0,2,6,25,26,27] Z ?_)))))
 obtain⟨r,hr⟩: ∃r,r=cy (dD G):=⟨_,rfl⟩
 have hr2:r=cy (dD (oW l)):=by rw[hr,hG0]
 have hT:MC Tryz.prog L 35 [aS8 G] [] (Rows (yn r) [cL r.1.xs]):=by rw[hr];exact ya (s:=G) h1 h2 (by omega)
 refine bk O (B0:=40000) Z Z Z Z hT (ah Z) Z Z Z Z Z Z (aB ?_)
 refine aF Z (jf [41,40,9,8,28,0,2,6,25,26,27] Z (jl Z (aB ?_)))
 refine jo Z (aB ?_)
 refine js Z (jf [13,12,9,8,28,0,2,6,25,26,27] Z (be (ac Z ?_)))
 first|refine cm Z ?_|refine js Z ?_|refine aU Z Z ?_
 refine aa (ax O Z Z (by omega) (by omega)) Z (js Z (jf [14,13,12,9,8,28,0,2,6,25,26,27] Z (jn (am (ae (js Z (aa (Val.seq (p:=F) (q:=[112,114,101]) O Z Z Z Z Z Z) Z (js Z (jf [63,14,13,12,9,8,28,0,2,6,25,26,27] Z (ar 1 Z Z Z (fun hx=>aq hx Z (AN.nil)) Z Z ?_))))))))))
 first|refine aa (aj O Z Z Z Z Z) Z ?_|refine aa (al O Z Z Z Z Z) Z ?_|refine aa (Val.pickB O Z Z Z Z Z) Z ?_
 refine js Z (jf [60,14,13,12,9,8,28,0,2,6,25,26,27] Z (jn (ak Z (fun z60=>?_) (fun z60=>?_))))
 refine ab (aF Z (jf [68,67,60,14,13,12,9,8,28,0,2,6,25,26,27] Z (aK (aC [2,6,901,902,903,904,40000] (e':=[(68,_),(67,_),(0,_),(2,_),(6,_),(25,_),(26,_),(27,_)]) Z Z ⟨Z,Z,Z,Z,Z,Z,Z,Z,ao⟩ Z) (aY (bq (ds:=Tm.cells r.1) O Z Z Z Z Z Z Z Z Z Z (.d Z (.rs Z (bd _).symm .nil)) Z Z Z) Z (aB ?_)))))
 refine aB ?_
 refine jf [69,67,0,2,6,25,26,27] Z (aY (bI (zs:=(z.2.pre++[r.1]).map Tm.cells) (n:=(z.2.pre++[r.1]).length) O Z Z Z Z Z Z Z Z Z Z Z Z Z Z Z Z (.row Z (bd _).symm) Z Z (by decide) Z (by simp;omega) (by simp;omega) (by simp) (by simp)) Z (aB ?_))
 refine aB ?_
 refine js Z (jf [71,70,0,2,6,25,26,27] Z (jo Z (aB ?_)))
 refine jf [0,2,6,25,26,27] Z (jn (ab ?_))
 first|refine ji Z ?_|refine aU Z Z ?_
 refine js Z (jn ?_)
 refine⟨(z.1+1,⟨z.2.pre++[r.1],z.2.post,z.2.code,z.2.pts⟩),((aC [2,6,70,902,903,904] (e':=[(0,_),(2,_),(6,_),(25,_),(26,_),(27,_)]) Z Z ⟨Z,Z,Z,Z,Z,Z,ao⟩ Z).trans (aL 70 901 Z Z)).trans (Ent.to ⟨Z,Z,Z,Z,Z,Z,ao⟩ Z),⟨by show z.1+1≤_;omega,dN hi0 hi.2 (by rw[←hl];exact qL hr2 (by rw[←hF0];exact jg.1 z60))⟩,by show Q.length-(z.1+1)<Q.length-z.1;omega⟩
 refine ae (js Z ?_)
 have n1: ¬(gK l=cr∧r.2=true):=by rw[←hF0];exact dB z60 jg
 refine aa (Val.seq (p:=F) (q:=[112,111,115,116]) O Z Z Z Z Z Z) Z (js Z (jf [75,60,14,13,12,9,8,28,0,2,6,25,26,27] Z (ar 1 Z Z Z (fun hx=>aq hx Z (AN.nil)) Z Z ?_)))
 first|refine aa (aj O Z Z Z Z Z) Z ?_|refine aa (al O Z Z Z Z Z) Z ?_|refine aa (Val.pickB O Z Z Z Z Z) Z ?_
 refine js Z (jf [72,60,14,13,12,9,8,28,0,2,6,25,26,27] Z (jn (ak Z (fun z72=>?_) (fun z72=>?_))))
 refine ab (aF Z (jf [80,79,72,60,14,13,12,9,8,28,0,2,6,25,26,27] Z (aK (aC [2,6,901,902,903,904,40000] (e':=[(80,_),(79,_),(0,_),(2,_),(6,_),(25,_),(26,_),(27,_)]) Z Z ⟨Z,Z,Z,Z,Z,Z,Z,Z,ao⟩ Z) (aY (bq (ds:=Tm.cells r.1) O Z Z Z Z Z Z Z Z Z Z (.d Z (.rs Z (bd _).symm .nil)) Z Z Z) Z (aB ?_)))))
 refine aB ?_
 refine jf [81,79,0,2,6,25,26,27] Z (aY (bI (zs:=(z.2.post++[r.1]).map Tm.cells) (n:=(z.2.post++[r.1]).length) O Z Z Z Z Z Z Z Z Z Z Z Z Z Z Z Z (.row Z (bd _).symm) Z Z (by decide) Z (by simp;omega) (by simp;omega) (by simp) (by simp)) Z (aB ?_))
 refine aB ?_
 refine js Z (jf [83,82,0,2,6,25,26,27] Z (jo Z (aB ?_)))
 refine jf [0,2,6,25,26,27] Z (jn (ab ?_))
 first|refine ji Z ?_|refine aU Z Z ?_
 refine js Z (jn ?_)
 refine⟨(z.1+1,⟨z.2.pre,z.2.post++[r.1],z.2.code,z.2.pts⟩),((aC [2,6,901,82,903,904] (e':=[(0,_),(2,_),(6,_),(25,_),(26,_),(27,_)]) Z Z ⟨Z,Z,Z,Z,Z,Z,ao⟩ Z).trans (aL 82 902 Z Z)).trans (Ent.to ⟨Z,Z,Z,Z,Z,Z,ao⟩ Z),⟨by show z.1+1≤_;omega,dN hi0 hi.2 (by rw[←hl];exact nI hr2 n1 (by rw[←hF0];exact jg.1 z72))⟩,by show Q.length-(z.1+1)<Q.length-z.1;omega⟩
 refine ae (js Z ?_)
 have n2: ¬(gK l=bR∧r.2=true):=by rw[←hF0];exact dB z72 jg
 refine aa (Val.seq (p:=l) (q:=[112,111,105,110,116]) O Z Z Z Z Z Z) Z (js Z (jf [84,72,60,14,13,12,9,8,28,0,2,6,25,26,27] Z (jn (ak Z (fun z84=>?_) (fun z84=>?_)))))
 refine w6 [_,_,_,_,_,_,_,_,_,_,_] [pn [] 0 2,pn [0] 0 2,bC,bb [2],bb [2,3],pe [2,3,4] 0,pn (rg 2 4) 1 1,pe (rg 2 5) 1,pe (rg 0 8) 2,pn (rg 0 9) 3 3,pe (rg 0 10) 3] [5,7,8,10] [_,_,_,_,_] [[],[],[904,94],[]] (ai (ka Z Z (ka Z Z (kw Z Z))) (ai (ka Z Z (ka Z Z (kw Z Z))) (ka Z Z (ka Z Z (ai (ai (vI Z Z) Z) (ai (ai (fY (aP O (B0:=93000) Z Z Z Z (mC (n:=(z.2.code.length:Int)) h1 h2) (ah Z) Z Z Z Z Z)) Z) (ka Z Z (ai (ai (oK [] (ds:=[.int .i64 (z.2.code.length:Int),.nils]) O Z Z Z Z Z Z Z Z Z Z Z Z (fun e=>(.d Z (.d Z .nil))) Z Z) Z) (ai (ai (oL (xs:=z.2.pts.map kr) (ys:=[[.int .i64 (z.2.code.length:Int),.nils]]) (zs:=(z.2.pts++[(⟨(z.2.code.length:Int),[]⟩:Pt)]).map kr) (n:=(z.2.pts++[(⟨(z.2.code.length:Int),[]⟩:Pt)]).length) O Z Z Z Z Z Z Z Z Z Z Z Z Z Z Z Z (.row Z (bd _).symm) Z Z (by decide) Z (by simp;omega) (by simp;omega) (by rw[List.map_append,List.map_cons,List.map_nil,kl Z]) (by simp) Z) Z) (ka Z Z (ai (ai (fY (eS Z Z Z)) Z) trivial))))))))))) ?_
 refine jw [84,72,60,14,13,12,9,8,28,0,2,6,25,26,27] Z (nv ?_)
 refine ab ?_
 first|refine ji Z ?_|refine aU Z Z ?_
 refine js Z (jn ?_)
 refine⟨(z.1+1,⟨z.2.pre,z.2.post,z.2.code,z.2.pts++[(⟨(z.2.code.length:Int),[]⟩:Pt)]⟩),((aC [2,6,901,902,903,95] (e':=[(0,_),(2,_),(6,_),(25,_),(26,_),(27,_)]) Z Z ⟨Z,Z,Z,Z,Z,Z,ao⟩ Z).trans (aL 95 904 Z Z)).trans (Ent.to ⟨Z,Z,Z,Z,Z,Z,ao⟩ Z),⟨by show z.1+1≤_;omega,dN hi0 hi.2 (by rw[←hl];exact lW hr2 (bc z84))⟩,by show Q.length-(z.1+1)<Q.length-z.1;omega⟩
 refine ae (js Z ?_)
 have n3: ¬l=bT:=bw z84
 obtain⟨k,hkl⟩: ∃k,z.2.pts.length-1=k:=⟨_,rfl⟩
 refine aa (Val.seq (p:=F) (q:=[97,116]) O Z Z Z Z Z Z) Z (js Z (jf [100,84,72,60,14,13,12,9,8,28,0,2,6,25,26,27] Z (ar 1 Z Z Z (fun hx=>aq hx Z (AN.nil)) Z Z ?_)))
 first|refine aa (aj O Z Z Z Z Z) Z ?_|refine aa (al O Z Z Z Z Z) Z ?_|refine aa (Val.pickB O Z Z Z Z Z) Z ?_
 refine js Z (jf [103,84,72,60,14,13,12,9,8,28,0,2,6,25,26,27] Z (ar 2 Z Z Z (fun hx=>aq hx Z (aq hx Z (AN.nil))) Z Z ?_))
 first|refine aa (aj O Z Z Z Z Z) Z ?_|refine aa (al O Z Z Z Z Z) Z ?_|refine aa (Val.pickB O Z Z Z Z Z) Z ?_
 refine js Z (jf [97,84,72,60,14,13,12,9,8,28,0,2,6,25,26,27] Z (jn (ak Z (fun z97=>?_) (fun z97=>?_))))
 cases hb22:decide ((z.2.pts.getD k default).fs=[])with
 | true=>
  have h4:gK l=jD∧r.2=true∧0<z.2.pts.length:=by have h:=tU.1 z97;rw[←hF0];exact⟨h.1,h.2.1,by have:=bc h.2.2;omega⟩
  have hkn:k<z.2.pts.length:=by have:=h4.2.2;omega
  have hkI:(z.2.pts.length:Int)-1=((k:Nat):Int):=by omega
  have hq5:=q5 (z.2.pts.getD k default) (by rw[getD_lt hkn];exact List.getElem_mem hkn)
  rw[hkI]
  have hfs:(z.2.pts.getD k default).fs=[]:=bc hb22
  have hex:(z.2.pts.map kr)[k]? = some [D.int .i64 (z.2.pts.getD k default).k,.nils]:=by rw[km hkn,kl hfs]
  refine w6 [_,_,_,_,_,_,_,_,_,_,_,_,_,_,_] [pn [] 0 2,pn [0] 0 2,pn [] 0 2,pn [] 0 1,pn [3] 0 1,pn [] 0 1,pn [3,4,5] 0 1,pn (rg 3 4) 0 1,pn (rg 3 5) 0 1,bC,pe [9] 0,pe (rg 3 8) 1,pn (rg 0 12) 2 2,pn (rg 0 13) 2 2,pe (rg 0 14) 2] [10,11,14] [_,_,_,_] [[40000],[117],[118,904]] (ai (ka Z Z (ka Z Z (kw Z Z))) (ai (ka Z Z (ka Z Z (kw Z Z))) (ai (ka Z Z (ka Z Z (kw Z Z))) (ai (ka Z Z (kw Z Z)) (ai (ka Z Z (kw Z Z)) (ai (ka Z Z (kw Z Z)) (ai (ai (ai ((br (c:=0≤((k:Nat):Int)∧((k:Nat):Int)<((z.2.pts.length:Nat):Int)) (v:=.c (.pt 904 (0+((k:Nat):Int).toNat) 0)) O Z Z ⟨by omega,by omega⟩).cast (v':=.c (.pt 904 k 0)) (by rw[Int.toNat_natCast,Nat.zero_add])) Z) (ai ((br (c:=0≤((k:Nat):Int)∧((k:Nat):Int)<((z.2.pts.length:Nat):Int)) (v:=.c (.pt 904 (0+((k:Nat):Int).toNat) 0)) O Z Z ⟨by omega,by omega⟩).cast (v':=.c (.pt 904 k 0)) (by rw[Int.toNat_natCast,Nat.zero_add])) Z)) (ai (ka Z Z (kw Z Z)) (ai (ai (ai (bv O (ex:=[D.int .i64 (z.2.pts.getD k default).k,.nils]) Z Z Z Z hex Z) Z) (ai (bv O (ex:=[D.int .i64 (z.2.pts.getD k default).k,.nils]) Z Z Z Z hex Z) Z)) (ka Z Z (ai (ai (fN (l:=40000) (ds:=Tm.cells r.1) O Z Z Z Z Z Z Z Z Z Z Z Z (fun e=>(.d Z (.rs Z (bd _).symm .nil))) Z Z) Z) (ai (ai (iU (ys:=[Tm.cells r.1]) (n:=1) O Z Z Z Z Z Z Z Z Z Z Z Z Z Z Z Z Z Z Z (by show 1≤L;omega) (by show 1*32≤140737488355328;decide) Z Z) Z) (ai (ai ((br (c:=0≤((k:Nat):Int)∧((k:Nat):Int)<((z.2.pts.length:Nat):Int)) (v:=.c (.pt 904 (0+((k:Nat):Int).toNat) 0)) O Z Z ⟨by omega,by omega⟩).cast (v':=.c (.pt 904 k 0)) (by rw[Int.toNat_natCast,Nat.zero_add])) Z) (ka Z Z (ai (ai (dR (l:=904) (l2:=118) (i:=k) (j:=1) (ys:=[r.1].map Tm.cells) (ex:=[D.int .i64 (z.2.pts.getD k default).k,.nils]) O Z Z Z Z Z Z Z Z Z Z Z Z Z Z Z hex (ma hfs) Z Z) Z) trivial))))))))))))))) ?_
  refine jw [97,84,72,60,14,13,12,9,8,28,0,2,6,25,26,27] Z (nv ?_)
  refine ab ?_
  first|refine ji Z ?_|refine aU Z Z ?_
  refine js Z (jn ?_)
  refine⟨(z.1+1,⟨z.2.pre,z.2.post,z.2.code,(i3 z.2.pts k r.1)⟩),(aC [2,6,901,902,903,904] (e':=[(0,_),(2,_),(6,_),(25,_),(26,_),(27,_)]) Z Z ⟨Z,Z,Z,Z,Z,Z,ao⟩ Z).trans (Ent.to ⟨Z,Z,Z,Z,Z,Z,ao⟩ (by simp only[iL];rfl)),⟨by show z.1+1≤_;omega,dN hi0 hi.2 (by rw[←hl];exact(by rw[←hkl];exact mE hr2 h4))⟩,by show Q.length-(z.1+1)<Q.length-z.1;omega⟩
 | false=>
  have h4:gK l=jD∧r.2=true∧0<z.2.pts.length:=by have h:=tU.1 z97;rw[←hF0];exact⟨h.1,h.2.1,by have:=bc h.2.2;omega⟩
  have hkn:k<z.2.pts.length:=by have:=h4.2.2;omega
  have hkI:(z.2.pts.length:Int)-1=((k:Nat):Int):=by omega
  have hq5:=q5 (z.2.pts.getD k default) (by rw[getD_lt hkn];exact List.getElem_mem hkn)
  rw[hkI]
  have hfs:(z.2.pts.getD k default).fs≠[]:=bw hb22
  have hex:(z.2.pts.map kr)[k]? = some ([D.int .i64 (z.2.pts.getD k default).k,.slc 2 ((z.2.pts.getD k default).fs.map Tm.cells)]:List D):=by rw[km hkn,pz hfs]
  refine w6 [_,_,_,_,_,_,_,_,_,_,_,_,_,_,_] [pn [] 0 2,pn [0] 0 2,pn [] 0 2,pn [] 0 1,pn [3] 0 1,pn [] 0 1,pn [3,4,5] 0 1,pn (rg 3 4) 0 1,pn (rg 3 5) 0 1,bC,pe [9] 0,pe (rg 3 8) 1,pn (rg 0 12) 2 2,pn (rg 0 13) 2 2,pe (rg 0 14) 2] [10,11,14] [_,_,_,_] [[40000],[117],[118,904]] (ai (ka Z Z (ka Z Z (kw Z Z))) (ai (ka Z Z (ka Z Z (kw Z Z))) (ai (ka Z Z (ka Z Z (kw Z Z))) (ai (ka Z Z (kw Z Z)) (ai (ka Z Z (kw Z Z)) (ai (ka Z Z (kw Z Z)) (ai (ai (ai ((br (c:=0≤((k:Nat):Int)∧((k:Nat):Int)<((z.2.pts.length:Nat):Int)) (v:=.c (.pt 904 (0+((k:Nat):Int).toNat) 0)) O Z Z ⟨by omega,by omega⟩).cast (v':=.c (.pt 904 k 0)) (by rw[Int.toNat_natCast,Nat.zero_add])) Z) (ai ((br (c:=0≤((k:Nat):Int)∧((k:Nat):Int)<((z.2.pts.length:Nat):Int)) (v:=.c (.pt 904 (0+((k:Nat):Int).toNat) 0)) O Z Z ⟨by omega,by omega⟩).cast (v':=.c (.pt 904 k 0)) (by rw[Int.toNat_natCast,Nat.zero_add])) Z)) (ai (ka Z Z (kw Z Z)) (ai (ai (ai (bv O (ex:=[D.int .i64 (z.2.pts.getD k default).k,.slc 2 ((z.2.pts.getD k default).fs.map Tm.cells)]) Z Z Z Z hex Z) Z) (ai (bv O (ex:=[D.int .i64 (z.2.pts.getD k default).k,.slc 2 ((z.2.pts.getD k default).fs.map Tm.cells)]) Z Z Z Z hex Z) Z)) (ka Z Z (ai (ai (fN (l:=40000) (ds:=Tm.cells r.1) O Z Z Z Z Z Z Z Z Z Z Z Z (fun e=>(.d Z (.rs Z (bd _).symm .nil))) Z Z) Z) (ai (ai (mo (q:=990) (xs:=z.2.pts.map kr) (ys:=(z.2.pts.getD k default).fs.map Tm.cells) (ys2:=[Tm.cells r.1]) (zs:=((z.2.pts.getD k default).fs++[r.1]).map Tm.cells) (n:=((z.2.pts.getD k default).fs++[r.1]).length) (ex:=[D.int .i64 (z.2.pts.getD k default).k,.slc 2 ((z.2.pts.getD k default).fs.map Tm.cells)]) O Z Z Z Z Z Z Z Z Z Z Z Z Z Z Z hex Z (by simpa using hfs) Z Z Z Z (fun _=>rfl) Z (fun _=>rfl) (by simp only[bd,db,List.length_nil];omega) (by simp only[bd,db,List.length_nil];omega) (by simp) (by simp) (fun _=>rfl) (fun _=>rfl) Z) Z) (ai (ai ((br (c:=0≤((k:Nat):Int)∧((k:Nat):Int)<((z.2.pts.length:Nat):Int)) (v:=.c (.pt 904 (0+((k:Nat):Int).toNat) 0)) O Z Z ⟨by omega,by omega⟩).cast (v':=.c (.pt 904 k 0)) (by rw[Int.toNat_natCast,Nat.zero_add])) Z) (ka Z Z (ai (ai (dR (l:=904) (l2:=118) (i:=k) (j:=1) (ys:=((z.2.pts.getD k default).fs++[r.1]).map Tm.cells) (ex:=[D.int .i64 (z.2.pts.getD k default).k,.any none]) O Z Z Z Z Z Z Z (bd _).symm Z Z Z Z Z Z Z (qZ hkn) nS Z Z) Z) trivial))))))))))))))) ?_
  refine jw [97,84,72,60,14,13,12,9,8,28,0,2,6,25,26,27] Z (nv ?_)
  refine ab ?_
  first|refine ji Z ?_|refine aU Z Z ?_
  refine js Z (jn ?_)
  refine⟨(z.1+1,⟨z.2.pre,z.2.post,z.2.code,(i3 z.2.pts k r.1)⟩),(aC [2,6,901,902,903,904] (e':=[(0,_),(2,_),(6,_),(25,_),(26,_),(27,_)]) Z Z ⟨Z,Z,Z,Z,Z,Z,ao⟩ Z).trans (Ent.to ⟨Z,Z,Z,Z,Z,Z,ao⟩ (by simp only[iL];rfl)),⟨by show z.1+1≤_;omega,dN hi0 hi.2 (by rw[←hl];exact(by rw[←hkl];exact mE hr2 h4))⟩,by show Q.length-(z.1+1)<Q.length-z.1;omega⟩
 refine ae ?_
 have n4: ¬(gK l=jD∧r.2=true∧0<z.2.pts.length):=fun h=>dB z97 tU ⟨by rw[hF0];exact h.1,h.2.1,decide_eq_true (by have:=h.2.2;omega)⟩
 obtain⟨x,hx⟩: ∃x,x=(mz (mv l)).1:=⟨_,rfl⟩
 obtain⟨bx,hbx⟩: ∃b,b=(mz (mv l)).2:=⟨_,rfl⟩
 refine js Z (aw O Z Z Z Z ((zF (s:=l) h1 h2 hL (by omega)).plain (v:=_) (u:=.tup [.agg (x.cells.map .d),eB bx]) (by rw[hx,hbx])) (ah Z) Z Z Z Z (B0:=49000) Z Z (aF Z (jf [50,49,97,84,72,60,14,13,12,9,8,28,0,2,6,25,26,27] Z (jl Z (aB ?_)))))
 refine jo Z (aB ?_)
 refine js Z (jf [16,15,97,84,72,60,14,13,12,9,8,28,0,2,6,25,26,27] Z (jn (ag (ae (ac Z (jf [52,15,97,84,72,60,14,13,12,9,8,28,0,2,6,25,26,27] Z (jn (ak Z (fun z52=>?_) (fun z52=>?_)))))))))
 refine ae (js Z (jo Z (aB ?_)))
 refine js Z (jr ?_)
 obtain⟨hnl,hQ2⟩:=q8 (t:=t) (by rw[←hb0];simpa using z23)
 have hno:fV t=none:=xH hnl (by rw[←hQ2,←hQ];exact um hi0 hi.2 (by rw[←hl];exact s7 hr2 n1 n2 n3 n4 (by rw[←hbx];simpa using z52)))
 rw[hno]
 refine⟨.inl Z,_,(ap 2 911 2 true 0 Z Z Z).trans ((ap 2 912 2 true 1 Z Z Z).trans ((ap 2 913 2 true 2 Z Z Z).trans (ap 2 914 2 true 3 Z Z Z))),_,Z,[911,912,913,914],by decide,Z,Z,Z⟩
 refine af (ab (aF Z (jf [56,55,52,15,97,84,72,60,14,13,12,9,8,28,0,2,6,25,26,27] Z (aK (aC [2,6,901,902,903,904] (e':=[(56,_),(55,_),(0,_),(2,_),(6,_),(25,_),(26,_),(27,_)]) Z Z ⟨Z,Z,Z,Z,Z,Z,Z,Z,ao⟩ Z) (aY (bq (ds:=In.cells x) O Z Z Z Z Z Z Z Z Z Z (.d Z (.d Z .nil)) Z Z Z) Z (aB ?_))))))
 refine aB ?_
 refine jf [57,55,0,2,6,25,26,27] Z (aY (bI (zs:=(z.2.code++[x]).map In.cells) (n:=(z.2.code++[x]).length) O Z Z Z Z Z Z Z Z Z Z Z Z Z Z Z Z (.row Z (bd _).symm) Z Z (by decide) Z (by simp;omega) (by simp;omega) (by simp) (by simp)) Z (aB ?_))
 refine aB ?_
 refine js Z (jf [59,58,0,2,6,25,26,27] Z (jo Z (aB ?_)))
 refine jf [0,2,6,25,26,27] Z (jn (ab ?_))
 first|refine ji Z ?_|refine aU Z Z ?_
 refine js Z (jn ?_)
 refine⟨(z.1+1,⟨z.2.pre,z.2.post,z.2.code++[x],z.2.pts⟩),((aC [2,6,901,902,58,904] (e':=[(0,_),(2,_),(6,_),(25,_),(26,_),(27,_)]) Z Z ⟨Z,Z,Z,Z,Z,Z,ao⟩ Z).trans (aL 58 903 Z Z)).trans (Ent.to ⟨Z,Z,Z,Z,Z,Z,ao⟩ Z),⟨by show z.1+1≤_;omega,dN hi0 hi.2 (by rw[←hl];exact(by rw[hx];exact s8 hr2 n1 n2 n3 n4 (by rw[←hbx];simpa using z52)))⟩,by show Q.length-(z.1+1)<Q.length-z.1;omega⟩
 refine aJ (ag (ae ?_))
 have hz1:z.1=Q.length:=by have:=bw z28;omega
 have hall:=hi.2
 rw[hz1,List.take_length]at hall
 obtain⟨hnl,hQ2⟩:=q8 (t:=t) (by rw[←hb0];simpa using z23)
 rw[hQ,hQ2]at hall
 have hrd:=xG hnl hall
 refine aK (Ent.rowLe 904 (ys:=z.2.pts.map Pt.cells) Z (m2 z.2.pts)) (aB ?_)
 refine js Z (aZ O Z Z Z Z (Cb (a:=z.2) h1 h2) (.cons (.agg (.cons (.whole Z (bd _).symm) (.cons (.whole Z (bd _).symm) (.cons (.whole Z (bd _).symm) (.cons (.whole Z (bd _).symm) .nil))))) .nil) Z Z Z Z Z (B0:=124000) Z (ac Z (jf [125,28,0,2,6,25,26,27] Z (ar 4 Z Z Z (fun hx=>aq hx Z (bj O hx Z Z Z Z (wU (a:=z.2) h1 h2 (by simpa using hx) hL) (.cons (.agg (.cons (.whole Z (bd _).symm) (.cons (.whole Z (bd _).symm) (.cons (.whole Z (bd _).symm) (.cons (.whole Z (bd _).symm) .nil))))) .nil) Z Z Z Z Z Z Z (B0:=128000) Z (aq hx Z (bf hx (b9 (p:=cH z.2) (q:=t) O Z Z Z Z Z Z) Z (AN.nil))))) Z Z ?_))))
 first|refine aa (al O Z Z Z Z Z) Z ?_|refine aa (Val.pickB O Z Z Z Z Z) Z ?_|refine aa (aj O Z Z Z Z Z) Z ?_
 refine jf [130,28,0,2,6,25,26,27] Z (jn (ak Z (fun z130=>?_) (fun z130=>?_)))
 refine ae (js Z (jo Z (aB ?_)))
 refine js Z (jr ?_)
 rw[hrd,if_neg (sL z130)]
 refine⟨.inl Z,_,(ap 2 911 2 true 0 Z Z Z).trans ((ap 2 912 2 true 1 Z Z Z).trans ((ap 2 913 2 true 2 Z Z Z).trans (ap 2 914 2 true 3 Z Z Z))),_,Z,[911,912,913,914],by decide,Z,Z,Z⟩
 refine af (ae (js Z (jo Z (aB ?_))))
 refine js Z (jr ?_)
 rw[hrd,if_pos (pu z130)]
 refine⟨.inl Z,_,cY,_,Z,[901,902,903,904],by decide,Z,Z,Z⟩
set_option maxHeartbeats 8000000
theorem zk(n:Nat):nat? (eI ((n:Int)+1)) 0=some (n+1):=rfl
theorem xI{p q:Prop}[Decidable p][Decidable q]{b:Bool}(h:(bif (bif !decide p then true else !b)then true else !decide q)=true): ¬(p∧b=true∧q):=by
 by_cases hp:p<;>by_cases hq:q<;>cases b<;>simp_all
theorem vq{p q:Prop}[Decidable p][Decidable q]{b:Bool}(h:(bif (bif !decide p then true else !b)then true else !decide q)=false):p∧b=true∧q:=by
 by_cases hp:p<;>by_cases hq:q<;>cases b<;>simp_all
theorem vr{p:Prop}[Decidable p]{b:Bool}(h:((bif !decide p then true else !b)==false)=true):b=true:=by
 by_cases hp:p<;>cases b<;>simp_all
theorem zG{t:Str}(hL:1048576<L)(hs:t.length≤1048576):MQ h1 h2 24 [aS8 t] [] (Rows (.tup [uS (ku (fV t)).1,eB (ku (fV t)).2]) (xo (ku (fV t)).1)):=by
 refine cK (jB 150 h1 h2 Tryz.func24 Z fun O hF=>?_)
 have hl0:t.length≤L:=by omega
 refine ae (jl Z (aB ?_))
 refine js Z (be (js Z (jl Z (aB ?_))))
 refine jo Z (aB ?_)
 refine be (js Z (jn (ag (ae (js Z (jn (am (av (X:=Nat×Nat×An×List Str) (fun z=>⟨[(0,aS8 t),(2,.c (.pt 2 0 0)),(4,.c (.pt 4 0 0)),(5,eI (z.2.1:Nat)),(6,eI (z.1:Nat))],[(2,.box [.d .nils,.d .nils,.d .nils,.d .nils]),(4,.box [.rs 901 0 z.2.2.1.pre.length,.rs 902 0 z.2.2.1.post.length,.rs 903 0 z.2.2.1.code.length,.rs 904 0 z.2.2.1.pts.length]),(901,cV z.2.2.1.pre),(902,cV z.2.2.1.post),(903,fj z.2.2.1.code),(904,qw z.2.2.1.pts)]⟩) (fun z=>z.2.1≤z.1∧z.1≤t.length∧Rdg t z.2.1 z.2.2.1 z.2.2.2∧(10:UInt8) ∉ kb t z.2.1 z.1) (fun z=>t.length-z.1) (0,0,nq,[]) (((ap 4 901 2 true 0 Z Z Z).trans ((ap 4 902 2 true 1 Z Z Z).trans ((ap 4 903 2 true 2 Z Z Z).trans (ap 4 904 2 true 3 Z Z Z)))).trans (Ent.to ⟨Z,Z,Z,Z,Z,ao⟩ Z)) ?_ (fun z hi=>?_)))))))))
 exact⟨bQ _,ca _,.zero,by show(10:UInt8) ∉ kb t 0 0;rw[eA];simp⟩
 refine ag (ae (ac Z (aa (aI (p:=t) O Z Z Z Z Z Z Z Z Z) Z (js Z (jf [20,0,2,4,5,6] Z (jn (ak Z (fun z20=>?_) (fun z20=>?_))))))))
 refine af (ag (am (ag (ae (ac Z ?_)))))
 have hz0:z.1<t.length:=by have:=bc z20;omega
 refine aa (aA (p:=t) (b:=t.getD z.1 0) O Z Z Z Z Z Z Z (by omega) (aX hz0)) Z (js Z (jf [26,20,0,2,4,5,6] Z (jn (ak Z (fun z26=>?_) (fun z26=>?_)))))
 refine aJ (ab (js Z ?_))
 first|refine ji Z ?_|refine aU Z Z ?_
 refine js Z (jf [6,26,20,0,2,4,5] Z (jn ?_))
 have hne:t.getD z.1 0≠10:=fun e=>bw (by simpa using z26) ((eL (n:=10) (by decide)).2 e)
 refine⟨(z.1+1,z.2.1,z.2.2.1,z.2.2.2),Ent.to ⟨Z,Z,Z,Z,Z,ao⟩ Z,⟨by show z.2.1≤z.1+1;omega,by show z.1+1≤_;omega,hi.2.2.1,vz hi.1 hz0 hi.2.2.2 hne⟩,by show t.length-(z.1+1)<t.length-z.1;omega⟩
 refine af (ae (aF Z ?_))
 have hi0:=hi
 have z10:t.getD z.1 0=10:=(eL (n:=10) (by decide)).1 (bc (by simpa using z26))
 obtain⟨q1,q2,q3,q4,q5⟩:=hi.2.2.1.anl
 obtain⟨l,hl⟩: ∃l,l=kb t z.2.1 z.1:=⟨_,rfl⟩
 have hlt:l.length≤t.length:=by rw[hl,List.length_take,List.length_drop];omega
 obtain⟨F,hF0⟩: ∃F,F=gK l:=⟨_,rfl⟩
 obtain⟨G,hG0⟩: ∃G,G=oW l:=⟨_,rfl⟩
 have hcl:=kp l [32]
 rw[show(Lib.cut l [32]).1=F from hF0.symm,show(Lib.cut l [32]).2.1=G from hG0.symm]at hcl
 refine aa ((bn (p:=t) (a:=z.2.1) (b:=z.1) O Z Z Z Z Z Z Z Z Z Z hi.1 hi.2.1).cast (v':=aS8 l) (by rw[hl])) Z (js Z (jf [7,26,20,0,2,4,5,6] Z (be (js Z ?_))))
 first|refine ji Z ?_|refine aU Z Z ?_
 refine js Z (jf [5,7,26,20,0,2,4,6] Z (be (ac Z (be (js Z (jn (ag (ae (js Z (jn (bl ⟨[(0,aS8 t),(2,.c (.pt 2 0 0)),(4,.c (.pt 4 0 0)),(5,eI ((z.1+1:Nat):Int)),(6,eI (z.1:Nat)),(7,aS8 l),(8,aS8 F),(9,aS8 G)],[(2,.box [.d .nils,.d .nils,.d .nils,.d .nils]),(4,.box [.rs 901 0 z.2.2.1.pre.length,.rs 902 0 z.2.2.1.post.length,.rs 903 0 z.2.2.1.code.length,.rs 904 0 z.2.2.1.pts.length]),(901,cV z.2.2.1.pre),(902,cV z.2.2.1.post),(903,fj z.2.2.1.code),(904,qw z.2.2.1.pts)]⟩ ?_ ?_)))))))))))
 refine am (av (X:=Nat) (fun y=>⟨[(0,aS8 t),(2,.c (.pt 2 0 0)),(4,.c (.pt 4 0 0)),(5,eI ((z.1+1:Nat):Int)),(6,eI (z.1:Nat)),(7,aS8 l),(8,aS8 l),(9,aS8 []),(10,eI (y:Nat))],[(2,.box [.d .nils,.d .nils,.d .nils,.d .nils]),(4,.box [.rs 901 0 z.2.2.1.pre.length,.rs 902 0 z.2.2.1.post.length,.rs 903 0 z.2.2.1.code.length,.rs 904 0 z.2.2.1.pts.length]),(901,cV z.2.2.1.pre),(902,cV z.2.2.1.post),(903,fj z.2.2.1.code),(904,qw z.2.2.1.pts)]⟩) (fun y=>y≤l.length∧(32:UInt8) ∉ l.take y) (fun y=>l.length-y) 0 (Ent.to ⟨Z,Z,Z,Z,Z,Z,Z,Z,Z,ao⟩ Z) ?_ (fun y hi=>?_))
 exact⟨ca _,by simp⟩
 refine ag (ae (ac Z (aa (aI (p:=l) O Z Z Z Z Z Z Z Z Z) Z (js Z (jf [37,0,2,4,5,6,7,8,9,10] Z (jn (ak Z (fun z37=>?_) (fun z37=>?_))))))))
 refine af (ag (am (ae (ac Z ?_))))
 have hy0:y<l.length:=by have:=bc z37;omega
 refine aa (aA (p:=l) (b:=l.getD y 0) O Z Z Z Z Z Z Z (by omega) (aX hy0)) Z (js Z (jf [43,37,0,2,4,5,6,7,8,9,10] Z (jn (ak Z (fun z43=>?_) (fun z43=>?_)))))
 refine ae (ac Z (aa ((bn (p:=l) (a:=0) (b:=y) O Z Z Z Z Z Z Z Z Z Z (ca _) hi.1).cast (v':=aS8 (l.take y)) (by rw[List.drop_zero,Nat.sub_zero])) Z (js Z (jf [8,43,37,0,2,4,5,6,7,9,10] Z (be (ac Z ?_))))))
 first|refine ji Z ?_|refine aU Z Z ?_
 refine aa ((bn (p:=l) (a:=y+1) (b:=l.length) O Z Z Z Z Z Z (zk y) Z Z Z (by omega) (bQ _)).cast (v':=aS8 (l.drop (y+1))) (by rw[List.take_of_length_le (by rw[List.length_drop];omega)])) Z (js Z (jf [9,8,43,37,0,2,4,5,6,7,10] Z (jn (aJ ?_))))
 have hcb:=vQ hy0 hi.2 ((eL (n:=32) (by decide)).1 (bc z43))
 exact⟨Z,Ent.to ⟨Z,Z,Z,Z,Z,Z,congrArg (fun s=>some (aS8 s)) (show l.take y=F by rw[hF0];show _=(Lib.cut l [32]).1;rw[hcb]),congrArg (fun s=>some (aS8 s)) (show l.drop (y+1)=G by rw[hG0];show _=(Lib.cut l [32]).2.1;rw[hcb]),ao⟩ Z⟩
 refine af (ab (js Z ?_))
 first|refine ji Z ?_|refine aU Z Z ?_
 refine js Z (jf [10,43,37,0,2,4,5,6,7,8,9] Z (jn ?_))
 refine⟨y+1,Ent.to ⟨Z,Z,Z,Z,Z,Z,Z,Z,Z,ao⟩ Z,⟨by show y+1≤_;omega,u4 hy0 hi.2 (fun e=>bw z43 ((eL (n:=32) (by decide)).2 e))⟩,by show l.length-(y+1)<l.length-y;omega⟩
 refine aJ ?_
 have hyl:y=l.length:=by have:=bw z37;omega
 have hno:(32:UInt8) ∉ l:=by have h:=hi.2;rwa[hyl,List.take_length]at h
 exact⟨Z,Ent.to ⟨Z,Z,Z,Z,Z,Z,congrArg (fun s=>some (aS8 s)) (show l=F by rw[hF0];show _=(Lib.cut l [32]).1;rw[pJ hno]),congrArg (fun s=>some (aS8 s)) (show[]=G by rw[hG0];show _=(Lib.cut l [32]).2.1;rw[pJ hno]),ao⟩ Z⟩
 refine ae (js Z ?_)
 obtain⟨r,hr⟩: ∃r,r=cy (dD G):=⟨_,rfl⟩
 have hr2:r=cy (dD (oW l)):=by rw[hr,hG0]
 have hT:MC Tryz.prog L 65 [aS8 G] [] (Rows (yn r) [cL r.1.xs]):=by rw[hr,←zg];exact x8 (s:=G) h1 h2 (by omega)
 refine bk O (B0:=54000) Z Z Z Z hT (ah Z) Z Z Z Z Z Z (aB ?_)
 refine aF Z (jf [55,54,0,2,4,5,6,7,8,9] Z (jl Z (aB ?_)))
 refine jo Z (aB ?_)
 refine js Z (jf [12,11,0,2,4,5,6,7,8,9] Z (be (ac Z ?_)))
 first|refine cm Z ?_|refine js Z ?_|refine aU Z Z ?_
 refine js Z (jf [13,12,11,0,2,4,5,6,7,8,9] Z (jn (am (ae (js Z (aa (Val.seq (p:=F) (q:=[112,114,101]) O Z Z Z Z Z Z) Z (js Z (jf [76,13,12,11,0,2,4,5,6,7,8,9] Z (ar 1 Z Z Z (fun hx=>aq hx Z (AN.nil)) Z Z ?_)))))))))
 first|refine aa (aj O Z Z Z Z Z) Z ?_|refine aa (al O Z Z Z Z Z) Z ?_|refine aa (Val.pickB O Z Z Z Z Z) Z ?_
 refine js Z (jf [73,13,12,11,0,2,4,5,6,7,8,9] Z (jn (ak Z (fun z73=>?_) (fun z73=>?_))))
 refine ab (aF Z (jf [81,80,73,13,12,11,0,2,4,5,6,7,8,9] Z (aK (aC [2,4,901,902,903,904,54000] (e':=[(81,_),(80,_),(0,_),(2,_),(4,_),(5,_),(6,_)]) Z Z ⟨Z,Z,Z,Z,Z,Z,Z,ao⟩ Z) (aY (bq (ds:=Tm.cells r.1) O Z Z Z Z Z Z Z Z Z Z (.d Z (.rs Z (bd _).symm .nil)) Z Z Z) Z (aB ?_)))))
 refine aB ?_
 refine jf [82,80,0,2,4,5,6] Z (aY (bI (zs:=(z.2.2.1.pre++[r.1]).map Tm.cells) (n:=(z.2.2.1.pre++[r.1]).length) O Z Z Z Z Z Z Z Z Z Z Z Z Z Z Z Z (.row Z (bd _).symm) Z Z (by decide) Z (by simp;omega) (by simp;omega) (by simp) (by simp)) Z (aB ?_))
 refine aB ?_
 refine js Z (jf [84,83,0,2,4,5,6] Z (jo Z (aB ?_)))
 refine jf [0,2,4,5,6] Z (jn (ab (js Z ?_)))
 first|refine ji Z ?_|refine aU Z Z ?_
 refine js Z (jf [6,0,2,4,5] Z (jn ?_))
 have hst:iV z.2.2.1 l=some ⟨z.2.2.1.pre++[r.1],z.2.2.1.post,z.2.2.1.code,z.2.2.1.pts⟩:=qL hr2 (by rw[←hF0];exact jg.1 z73)
 refine⟨(z.1+1,z.1+1,⟨z.2.2.1.pre++[r.1],z.2.2.1.post,z.2.2.1.code,z.2.2.1.pts⟩,z.2.2.2++[l]),((aC [2,4,83,902,903,904] (e':=[(0,_),(2,_),(4,_),(5,_),(6,_)]) Z Z ⟨Z,Z,Z,Z,Z,ao⟩ Z).trans (aL 83 901 Z Z)).trans (Ent.to ⟨Z,Z,Z,Z,Z,ao⟩ Z),⟨bQ _,by show z.1+1≤_;omega,?_,?_⟩,by show t.length-(z.1+1)<t.length-z.1;omega⟩
 rw[hl]at hst ⊢;exact hi0.2.2.1.step hi0.1 hz0 z10 hi0.2.2.2 hst
 show(10:UInt8) ∉ kb t (z.1+1) (z.1+1);rw[eA];simp
 refine ae (js Z ?_)
 have n1: ¬(gK l=cr∧r.2=true):=by rw[←hF0];exact dB z73 jg
 refine aa (Val.seq (p:=F) (q:=[112,111,115,116]) O Z Z Z Z Z Z) Z (js Z (jf [88,73,13,12,11,0,2,4,5,6,7,8,9] Z (ar 1 Z Z Z (fun hx=>aq hx Z (AN.nil)) Z Z ?_)))
 first|refine aa (aj O Z Z Z Z Z) Z ?_|refine aa (al O Z Z Z Z Z) Z ?_|refine aa (Val.pickB O Z Z Z Z Z) Z ?_
 refine js Z (jf [85,73,13,12,11,0,2,4,5,6,7,8,9] Z (jn (ak Z (fun z85=>?_) (fun z85=>?_))))
 refine ab (aF Z (jf [93,92,85,73,13,12,11,0,2,4,5,6,7,8,9] Z (aK (aC [2,4,901,902,903,904,54000] (e':=[(93,_),(92,_),(0,_),(2,_),(4,_),(5,_),(6,_)]) Z Z ⟨Z,Z,Z,Z,Z,Z,Z,ao⟩ Z) (aY (bq (ds:=Tm.cells r.1) O Z Z Z Z Z Z Z Z Z Z (.d Z (.rs Z (bd _).symm .nil)) Z Z Z) Z (aB ?_)))))
 refine aB ?_
 refine jf [94,92,0,2,4,5,6] Z (aY (bI (zs:=(z.2.2.1.post++[r.1]).map Tm.cells) (n:=(z.2.2.1.post++[r.1]).length) O Z Z Z Z Z Z Z Z Z Z Z Z Z Z Z Z (.row Z (bd _).symm) Z Z (by decide) Z (by simp;omega) (by simp;omega) (by simp) (by simp)) Z (aB ?_))
 refine aB ?_
 refine js Z (jf [96,95,0,2,4,5,6] Z (jo Z (aB ?_)))
 refine jf [0,2,4,5,6] Z (jn (ab (js Z ?_)))
 first|refine ji Z ?_|refine aU Z Z ?_
 refine js Z (jf [6,0,2,4,5] Z (jn ?_))
 have hst:iV z.2.2.1 l=some ⟨z.2.2.1.pre,z.2.2.1.post++[r.1],z.2.2.1.code,z.2.2.1.pts⟩:=nI hr2 n1 (by rw[←hF0];exact jg.1 z85)
 refine⟨(z.1+1,z.1+1,⟨z.2.2.1.pre,z.2.2.1.post++[r.1],z.2.2.1.code,z.2.2.1.pts⟩,z.2.2.2++[l]),((aC [2,4,901,95,903,904] (e':=[(0,_),(2,_),(4,_),(5,_),(6,_)]) Z Z ⟨Z,Z,Z,Z,Z,ao⟩ Z).trans (aL 95 902 Z Z)).trans (Ent.to ⟨Z,Z,Z,Z,Z,ao⟩ Z),⟨bQ _,by show z.1+1≤_;omega,?_,?_⟩,by show t.length-(z.1+1)<t.length-z.1;omega⟩
 rw[hl]at hst ⊢;exact hi0.2.2.1.step hi0.1 hz0 z10 hi0.2.2.2 hst
 show(10:UInt8) ∉ kb t (z.1+1) (z.1+1);rw[eA];simp
 refine ae (js Z ?_)
 have n2: ¬(gK l=bR∧r.2=true):=by rw[←hF0];exact dB z85 jg
 refine aa (Val.seq (p:=F) (q:=[97,116]) O Z Z Z Z Z Z) Z (js Z (jf [100,85,73,13,12,11,0,2,4,5,6,7,8,9] Z (ar 1 Z Z Z (fun hx=>aq hx Z (AN.nil)) Z Z ?_)))
 first|refine aa (aj O Z Z Z Z Z) Z ?_|refine aa (al O Z Z Z Z Z) Z ?_|refine aa (Val.pickB O Z Z Z Z Z) Z ?_
 refine js Z (jf [103,85,73,13,12,11,0,2,4,5,6,7,8,9] Z (ar 2 Z Z Z (fun hx=>aq hx Z (aq hx Z (AN.nil))) Z Z ?_))
 first|refine aa (aj O Z Z Z Z Z) Z ?_|refine aa (al O Z Z Z Z Z) Z ?_|refine aa (Val.pickB O Z Z Z Z Z) Z ?_
 refine js Z (jf [97,85,73,13,12,11,0,2,4,5,6,7,8,9] Z (jn (ak Z (fun z97=>?_) (fun z97=>?_))))
 cases hb28:decide ((z.2.2.1.pts.getD (z.2.2.1.pts.length-1) default).fs=[])with
 | true=>
  have h4:gK l=jD∧r.2=true∧0<z.2.2.1.pts.length:=by have h:=tU.1 z97;rw[←hF0];exact⟨h.1,h.2.1,by have:=bc h.2.2;omega⟩
  obtain⟨k,hkl⟩: ∃k,z.2.2.1.pts.length-1=k:=⟨_,rfl⟩
  rw[hkl]at hb28
  have hkn:k<z.2.2.1.pts.length:=by have:=h4.2.2;omega
  have hkI:(z.2.2.1.pts.length:Int)-1=((k:Nat):Int):=by omega
  have hq5:=q5 (z.2.2.1.pts.getD k default) (by rw[getD_lt hkn];exact List.getElem_mem hkn)
  have hfs:(z.2.2.1.pts.getD k default).fs=[]:=bc hb28
  have hex:(z.2.2.1.pts.map kr)[k]? = some [D.int .i64 (z.2.2.1.pts.getD k default).k,.nils]:=by rw[km hkn,kl hfs]
  refine w6 [_,_,_,_,_,_,_,_,_,_,_,_,_,_,_,_,_] [pn [] 0 2,pn [0] 0 2,pn [] 0 2,pn [2] 0 2,pn [] 0 1,pn [4] 0 1,pn [] 0 1,pn [6] 0 1,pn (rg 4 4) 0 1,pn (rg 4 5) 0 1,pn (rg 4 6) 0 1,bC,pe [11] 0,pe (rg 4 9) 1,pn (rg 0 14) 2 2,pn (rg 0 15) 2 2,pe (rg 0 16) 2] [12,13,16] [_,_,_,_] [[54000],[119],[120,904]] (ai (ka Z Z (ka Z Z (kw Z Z))) (ai (ka Z Z (ka Z Z (kw Z Z))) (ai (ka Z Z (ka Z Z (kw Z Z))) (ai (ai (ai ((ax O Z Z (by omega) (by omega)).cast (v':=eI ((k:Nat):Int)) (congrArg eI hkI)) Z) (ai (ai ((ax O Z Z (by omega) (by omega)).cast (v':=eI ((k:Nat):Int)) (congrArg eI hkI)) Z) (ai ((ax O Z Z (by omega) (by omega)).cast (v':=eI ((k:Nat):Int)) (congrArg eI hkI)) Z))) (ai (ka Z Z (kw Z Z)) (ai (ka Z Z (kw Z Z)) (ai (ka Z Z (kw Z Z)) (ai (ai (ai ((ax O Z Z (by omega) (by omega)).cast (v':=eI ((k:Nat):Int)) (congrArg eI hkI)) Z) (ai ((ax O Z Z (by omega) (by omega)).cast (v':=eI ((k:Nat):Int)) (congrArg eI hkI)) Z)) (ai (ai (ai ((br (c:=0≤((k:Nat):Int)∧((k:Nat):Int)<((z.2.2.1.pts.length:Nat):Int)) (v:=.c (.pt 904 (0+((k:Nat):Int).toNat) 0)) O Z Z ⟨by omega,by omega⟩).cast (v':=.c (.pt 904 k 0)) (by rw[Int.toNat_natCast,Nat.zero_add])) Z) (ai ((br (c:=0≤((k:Nat):Int)∧((k:Nat):Int)<((z.2.2.1.pts.length:Nat):Int)) (v:=.c (.pt 904 (0+((k:Nat):Int).toNat) 0)) O Z Z ⟨by omega,by omega⟩).cast (v':=.c (.pt 904 k 0)) (by rw[Int.toNat_natCast,Nat.zero_add])) Z)) (ai (ka Z Z (kw Z Z)) (ai (ai (ai (bv O (ex:=[D.int .i64 (z.2.2.1.pts.getD k default).k,.nils]) Z Z Z Z hex Z) Z) (ai (bv O (ex:=[D.int .i64 (z.2.2.1.pts.getD k default).k,.nils]) Z Z Z Z hex Z) Z)) (ka Z Z (ai (ai (fN (l:=54000) (ds:=Tm.cells r.1) O Z Z Z Z Z Z Z Z Z Z Z Z (fun e=>(.d Z (.rs Z (bd _).symm .nil))) Z Z) Z) (ai (ai (iU (ys:=[Tm.cells r.1]) (n:=1) O Z Z Z Z Z Z Z Z Z Z Z Z Z Z Z Z Z Z Z (by show 1≤L;omega) (by show 1*32≤140737488355328;decide) Z Z) Z) (ai (ai ((br (c:=0≤((k:Nat):Int)∧((k:Nat):Int)<((z.2.2.1.pts.length:Nat):Int)) (v:=.c (.pt 904 (0+((k:Nat):Int).toNat) 0)) O Z Z ⟨by omega,by omega⟩).cast (v':=.c (.pt 904 k 0)) (by rw[Int.toNat_natCast,Nat.zero_add])) Z) (ka Z Z (ai (ai (dR (l:=904) (l2:=120) (i:=k) (j:=1) (ys:=[r.1].map Tm.cells) (ex:=[D.int .i64 (z.2.2.1.pts.getD k default).k,.nils]) O Z Z Z Z Z Z Z Z Z Z Z Z Z Z Z hex (ma hfs) Z Z) Z) trivial))))))))))))))))) ?_
  refine jw [97,85,73,13,12,11,0,2,4,5,6,7,8,9] Z (nv ?_)
  refine ab (js Z ?_)
  first|refine ji Z ?_|refine aU Z Z ?_
  refine js Z (jf [6,97,85,73,13,12,11,0,2,4,5,7,8,9] Z (jn ?_))
  have hst:iV z.2.2.1 l=some ⟨z.2.2.1.pre,z.2.2.1.post,z.2.2.1.code,(i3 z.2.2.1.pts k r.1)⟩:=(by rw[←hkl];exact mE hr2 h4)
  refine⟨(z.1+1,z.1+1,⟨z.2.2.1.pre,z.2.2.1.post,z.2.2.1.code,(i3 z.2.2.1.pts k r.1)⟩,z.2.2.2++[l]),(aC [2,4,901,902,903,904] (e':=[(0,_),(2,_),(4,_),(5,_),(6,_)]) Z Z ⟨Z,Z,Z,Z,Z,ao⟩ Z).trans (Ent.to ⟨Z,Z,Z,Z,Z,ao⟩ (by simp only[iL];rfl)),⟨bQ _,by show z.1+1≤_;omega,?_,?_⟩,by show t.length-(z.1+1)<t.length-z.1;omega⟩
  rw[hl]at hst ⊢;exact hi0.2.2.1.step hi0.1 hz0 z10 hi0.2.2.2 hst
  show(10:UInt8) ∉ kb t (z.1+1) (z.1+1);rw[eA];simp
 | false=>
  have h4:gK l=jD∧r.2=true∧0<z.2.2.1.pts.length:=by have h:=tU.1 z97;rw[←hF0];exact⟨h.1,h.2.1,by have:=bc h.2.2;omega⟩
  obtain⟨k,hkl⟩: ∃k,z.2.2.1.pts.length-1=k:=⟨_,rfl⟩
  rw[hkl]at hb28
  have hkn:k<z.2.2.1.pts.length:=by have:=h4.2.2;omega
  have hkI:(z.2.2.1.pts.length:Int)-1=((k:Nat):Int):=by omega
  have hq5:=q5 (z.2.2.1.pts.getD k default) (by rw[getD_lt hkn];exact List.getElem_mem hkn)
  have hfs:(z.2.2.1.pts.getD k default).fs≠[]:=bw hb28
  have hex:(z.2.2.1.pts.map kr)[k]? = some ([D.int .i64 (z.2.2.1.pts.getD k default).k,.slc 2 ((z.2.2.1.pts.getD k default).fs.map Tm.cells)]:List D):=by rw[km hkn,pz hfs]
  refine w6 [_,_,_,_,_,_,_,_,_,_,_,_,_,_,_,_,_] [pn [] 0 2,pn [0] 0 2,pn [] 0 2,pn [2] 0 2,pn [] 0 1,pn [4] 0 1,pn [] 0 1,pn [6] 0 1,pn (rg 4 4) 0 1,pn (rg 4 5) 0 1,pn (rg 4 6) 0 1,bC,pe [11] 0,pe (rg 4 9) 1,pn (rg 0 14) 2 2,pn (rg 0 15) 2 2,pe (rg 0 16) 2] [12,13,16] [_,_,_,_] [[54000],[119],[120,904]] (ai (ka Z Z (ka Z Z (kw Z Z))) (ai (ka Z Z (ka Z Z (kw Z Z))) (ai (ka Z Z (ka Z Z (kw Z Z))) (ai (ai (ai ((ax O Z Z (by omega) (by omega)).cast (v':=eI ((k:Nat):Int)) (congrArg eI hkI)) Z) (ai (ai ((ax O Z Z (by omega) (by omega)).cast (v':=eI ((k:Nat):Int)) (congrArg eI hkI)) Z) (ai ((ax O Z Z (by omega) (by omega)).cast (v':=eI ((k:Nat):Int)) (congrArg eI hkI)) Z))) (ai (ka Z Z (kw Z Z)) (ai (ka Z Z (kw Z Z)) (ai (ka Z Z (kw Z Z)) (ai (ai (ai ((ax O Z Z (by omega) (by omega)).cast (v':=eI ((k:Nat):Int)) (congrArg eI hkI)) Z) (ai ((ax O Z Z (by omega) (by omega)).cast (v':=eI ((k:Nat):Int)) (congrArg eI hkI)) Z)) (ai (ai (ai ((br (c:=0≤((k:Nat):Int)∧((k:Nat):Int)<((z.2.2.1.pts.length:Nat):Int)) (v:=.c (.pt 904 (0+((k:Nat):Int).toNat) 0)) O Z Z ⟨by omega,by omega⟩).cast (v':=.c (.pt 904 k 0)) (by rw[Int.toNat_natCast,Nat.zero_add])) Z) (ai ((br (c:=0≤((k:Nat):Int)∧((k:Nat):Int)<((z.2.2.1.pts.length:Nat):Int)) (v:=.c (.pt 904 (0+((k:Nat):Int).toNat) 0)) O Z Z ⟨by omega,by omega⟩).cast (v':=.c (.pt 904 k 0)) (by rw[Int.toNat_natCast,Nat.zero_add])) Z)) (ai (ka Z Z (kw Z Z)) (ai (ai (ai (bv O (ex:=[D.int .i64 (z.2.2.1.pts.getD k default).k,.slc 2 ((z.2.2.1.pts.getD k default).fs.map Tm.cells)]) Z Z Z Z hex Z) Z) (ai (bv O (ex:=[D.int .i64 (z.2.2.1.pts.getD k default).k,.slc 2 ((z.2.2.1.pts.getD k default).fs.map Tm.cells)]) Z Z Z Z hex Z) Z)) (ka Z Z (ai (ai (fN (l:=54000) (ds:=Tm.cells r.1) O Z Z Z Z Z Z Z Z Z Z Z Z (fun e=>(.d Z (.rs Z (bd _).symm .nil))) Z Z) Z) (ai (ai (mo (q:=990) (xs:=z.2.2.1.pts.map kr) (ys:=(z.2.2.1.pts.getD k default).fs.map Tm.cells) (ys2:=[Tm.cells r.1]) (zs:=((z.2.2.1.pts.getD k default).fs++[r.1]).map Tm.cells) (n:=((z.2.2.1.pts.getD k default).fs++[r.1]).length) (ex:=[D.int .i64 (z.2.2.1.pts.getD k default).k,.slc 2 ((z.2.2.1.pts.getD k default).fs.map Tm.cells)]) O Z Z Z Z Z Z Z Z Z Z Z Z Z Z Z hex Z (by simpa using hfs) Z Z Z Z (fun _=>rfl) Z (fun _=>rfl) (by simp only[bd,db,List.length_nil];omega) (by simp only[bd,db,List.length_nil];omega) (by simp) (by simp) (fun _=>rfl) (fun _=>rfl) Z) Z) (ai (ai ((br (c:=0≤((k:Nat):Int)∧((k:Nat):Int)<((z.2.2.1.pts.length:Nat):Int)) (v:=.c (.pt 904 (0+((k:Nat):Int).toNat) 0)) O Z Z ⟨by omega,by omega⟩).cast (v':=.c (.pt 904 k 0)) (by rw[Int.toNat_natCast,Nat.zero_add])) Z) (ka Z Z (ai (ai (dR (l:=904) (l2:=120) (i:=k) (j:=1) (ys:=((z.2.2.1.pts.getD k default).fs++[r.1]).map Tm.cells) (ex:=[D.int .i64 (z.2.2.1.pts.getD k default).k,.any none]) O Z Z Z Z Z Z Z (bd _).symm Z Z Z Z Z Z Z (qZ hkn) nS Z Z) Z) trivial))))))))))))))))) ?_
  refine jw [97,85,73,13,12,11,0,2,4,5,6,7,8,9] Z (nv ?_)
  refine ab (js Z ?_)
  first|refine ji Z ?_|refine aU Z Z ?_
  refine js Z (jf [6,97,85,73,13,12,11,0,2,4,5,7,8,9] Z (jn ?_))
  have hst:iV z.2.2.1 l=some ⟨z.2.2.1.pre,z.2.2.1.post,z.2.2.1.code,(i3 z.2.2.1.pts k r.1)⟩:=(by rw[←hkl];exact mE hr2 h4)
  refine⟨(z.1+1,z.1+1,⟨z.2.2.1.pre,z.2.2.1.post,z.2.2.1.code,(i3 z.2.2.1.pts k r.1)⟩,z.2.2.2++[l]),(aC [2,4,901,902,903,904] (e':=[(0,_),(2,_),(4,_),(5,_),(6,_)]) Z Z ⟨Z,Z,Z,Z,Z,ao⟩ Z).trans (Ent.to ⟨Z,Z,Z,Z,Z,ao⟩ (by simp only[iL];rfl)),⟨bQ _,by show z.1+1≤_;omega,?_,?_⟩,by show t.length-(z.1+1)<t.length-z.1;omega⟩
  rw[hl]at hst ⊢;exact hi0.2.2.1.step hi0.1 hz0 z10 hi0.2.2.2 hst
  show(10:UInt8) ∉ kb t (z.1+1) (z.1+1);rw[eA];simp
 refine ae (js Z ?_)
 have n4: ¬(gK l=jD∧r.2=true∧0<z.2.2.1.pts.length):=fun h=>dB z97 tU ⟨by rw[hF0];exact h.1,h.2.1,decide_eq_true (by have:=h.2.2;omega)⟩
 refine aa (Val.seq (p:=l) (q:=[112,111,105,110,116]) O Z Z Z Z Z Z) Z (js Z (jf [123,97,85,73,13,12,11,0,2,4,5,6,7,8,9] Z (jn (ak Z (fun z123=>?_) (fun z123=>?_)))))
 refine ab (aM Z ?_)
 first|refine cm Z ?_|refine js Z ?_|refine aU Z Z ?_
 refine js Z (jf [131,127,123,97,85,73,13,12,11,0,2,4,5,6,7,8,9] Z (aK (aC [2,4,901,902,903,904] (e':=[(131,_),(127,_),(0,_),(2,_),(4,_),(5,_),(6,_)]) Z Z ⟨Z,Z,Z,Z,Z,Z,Z,ao⟩ Z) (aY (bq (ds:=[.int .i64 (z.2.2.1.code.length:Int),.nils]) O Z Z Z Z Z Z Z Z Z Z (.d Z (.d Z .nil)) Z Z Z) Z (aB ?_))))
 refine aB ?_
 refine jf [132,127,0,2,4,5,6] Z (aY (bI (zs:=(z.2.2.1.pts++[(⟨(z.2.2.1.code.length:Int),[]⟩:Pt)]).map kr) (n:=(z.2.2.1.pts++[(⟨(z.2.2.1.code.length:Int),[]⟩:Pt)]).length) O Z Z Z Z Z Z Z Z Z Z Z Z Z Z Z Z (.row Z (bd _).symm) Z Z (by decide) Z (by simp;omega) (by simp;omega) (by rw[List.map_append,List.map_cons,List.map_nil,kl Z]) (by simp)) Z (aB ?_))
 refine aB ?_
 refine js Z (jf [134,133,0,2,4,5,6] Z (jo Z (aB ?_)))
 refine jf [0,2,4,5,6] Z (jn (ab (js Z ?_)))
 first|refine ji Z ?_|refine aU Z Z ?_
 refine js Z (jf [6,0,2,4,5] Z (jn ?_))
 have hst:iV z.2.2.1 l=some ⟨z.2.2.1.pre,z.2.2.1.post,z.2.2.1.code,z.2.2.1.pts++[(⟨(z.2.2.1.code.length:Int),[]⟩:Pt)]⟩:=lW hr2 (bc z123)
 refine⟨(z.1+1,z.1+1,⟨z.2.2.1.pre,z.2.2.1.post,z.2.2.1.code,z.2.2.1.pts++[(⟨(z.2.2.1.code.length:Int),[]⟩:Pt)]⟩,z.2.2.2++[l]),((aC [2,4,901,902,903,133] (e':=[(0,_),(2,_),(4,_),(5,_),(6,_)]) Z Z ⟨Z,Z,Z,Z,Z,ao⟩ Z).trans (aL 133 904 Z Z)).trans (Ent.to ⟨Z,Z,Z,Z,Z,ao⟩ Z),⟨bQ _,by show z.1+1≤_;omega,?_,?_⟩,by show t.length-(z.1+1)<t.length-z.1;omega⟩
 rw[hl]at hst ⊢;exact hi0.2.2.1.step hi0.1 hz0 z10 hi0.2.2.2 hst
 show(10:UInt8) ∉ kb t (z.1+1) (z.1+1);rw[eA];simp
 refine ae ?_
 have n3: ¬l=bT:=bw z123
 obtain⟨x,hx⟩: ∃x,x=(mz (mv l)).1:=⟨_,rfl⟩
 obtain⟨bx,hbx⟩: ∃b,b=(mz (mv l)).2:=⟨_,rfl⟩
 refine js Z (aw O Z Z Z Z ((zE (s:=l) h1 h2 hL (by omega)).plain (v:=_) (u:=.tup [.agg (x.cells.map .d),eB bx]) (by rw[←xJ,hx,hbx])) (ah Z) Z Z Z Z (B0:=62000) Z Z (aF Z (jf [63,62,123,97,85,73,13,12,11,0,2,4,5,6,7,8,9] Z (jl Z (aB ?_)))))
 refine jo Z (aB ?_)
 refine js Z (jf [15,14,123,97,85,73,13,12,11,0,2,4,5,6,7,8,9] Z (jn (ag (ae (ac Z (jf [65,14,123,97,85,73,13,12,11,0,2,4,5,6,7,8,9] Z (jn (ak Z (fun z65=>?_) (fun z65=>?_)))))))))
 refine ae (js Z (jo Z (aB ?_)))
 refine js Z (jr ?_)
 have hst:iV z.2.2.1 l=none:=s7 hr2 n1 n2 n3 n4 (by rw[←hbx];simpa using z65)
 rw[hl]at hst
 have hno:fV t=none:=hi0.2.2.1.bad hi0.1 hz0 z10 hi0.2.2.2 hst
 rw[hno]
 refine⟨.inl Z,_,(ap 2 911 2 true 0 Z Z Z).trans ((ap 2 912 2 true 1 Z Z Z).trans ((ap 2 913 2 true 2 Z Z Z).trans (ap 2 914 2 true 3 Z Z Z))),_,Z,[911,912,913,914],by decide,Z,Z,Z⟩
 refine af (ab (aF Z (jf [69,68,65,14,123,97,85,73,13,12,11,0,2,4,5,6,7,8,9] Z (aK (aC [2,4,901,902,903,904] (e':=[(69,_),(68,_),(0,_),(2,_),(4,_),(5,_),(6,_)]) Z Z ⟨Z,Z,Z,Z,Z,Z,Z,ao⟩ Z) (aY (bq (ds:=In.cells x) O Z Z Z Z Z Z Z Z Z Z (.d Z (.d Z .nil)) Z Z Z) Z (aB ?_))))))
 refine aB ?_
 refine jf [70,68,0,2,4,5,6] Z (aY (bI (zs:=(z.2.2.1.code++[x]).map In.cells) (n:=(z.2.2.1.code++[x]).length) O Z Z Z Z Z Z Z Z Z Z Z Z Z Z Z Z (.row Z (bd _).symm) Z Z (by decide) Z (by simp;omega) (by simp;omega) (by simp) (by simp)) Z (aB ?_))
 refine aB ?_
 refine js Z (jf [72,71,0,2,4,5,6] Z (jo Z (aB ?_)))
 refine jf [0,2,4,5,6] Z (jn (ab (js Z ?_)))
 first|refine ji Z ?_|refine aU Z Z ?_
 refine js Z (jf [6,0,2,4,5] Z (jn ?_))
 have hst:iV z.2.2.1 l=some ⟨z.2.2.1.pre,z.2.2.1.post,z.2.2.1.code++[x],z.2.2.1.pts⟩:=(by rw[hx];exact s8 hr2 n1 n2 n3 n4 (by rw[←hbx];simpa using z65))
 refine⟨(z.1+1,z.1+1,⟨z.2.2.1.pre,z.2.2.1.post,z.2.2.1.code++[x],z.2.2.1.pts⟩,z.2.2.2++[l]),((aC [2,4,901,902,71,904] (e':=[(0,_),(2,_),(4,_),(5,_),(6,_)]) Z Z ⟨Z,Z,Z,Z,Z,ao⟩ Z).trans (aL 71 903 Z Z)).trans (Ent.to ⟨Z,Z,Z,Z,Z,ao⟩ Z),⟨bQ _,by show z.1+1≤_;omega,?_,?_⟩,by show t.length-(z.1+1)<t.length-z.1;omega⟩
 rw[hl]at hst ⊢;exact hi0.2.2.1.step hi0.1 hz0 z10 hi0.2.2.2 hst
 show(10:UInt8) ∉ kb t (z.1+1) (z.1+1);rw[eA];simp
 refine aJ (ag (ae ?_))
 have hz1:z.1=t.length:=by have:=bw z20;have:=hi.2.1;omega
 have hno:=hi.2.2.2
 rw[hz1]at hno
 have hrd:=hi.2.2.1.fin hno
 refine aK (Ent.rowLe 904 (ys:=z.2.2.1.pts.map Pt.cells) Z (m2 z.2.2.1.pts)) (aB ?_)
 refine ac Z (aa (aI (p:=t) O Z Z Z Z Z Z Z Z Z) Z (ac Z (jf [139,20,0,2,4,5,6] Z (ar 2 Z Z Z (fun hx=>bj O hx Z Z Z Z (Cc (a:=z.2.2.1) h1 h2) (.cons (.c (.pb (cs:=z.2.2.1.data) Z (.cons (.whole Z (bd _).symm) (.cons (.whole Z (bd _).symm) (.cons (.whole Z (bd _).symm) (.cons (.whole Z (bd _).symm) .nil)))))) .nil) Z Z Z Z Z Z Z (B0:=141000) Z (aq hx Z (AN.nil))) Z Z ?_))))
 first|refine aa (al O Z Z Z Z Z) Z ?_|refine aa (Val.pickB O Z Z Z Z Z) Z ?_|refine aa (aj O Z Z Z Z Z) Z ?_
 refine js Z (jf [143,20,0,2,4,5,6] Z (ar 3 Z Z Z (fun hx=>bj O hx Z Z Z Z (sT (a:=z.2.2.1) h1 h2 (vr hx) hL) (.cons (.c (.pb (cs:=z.2.2.1.data) Z (.cons (.whole Z (bd _).symm) (.cons (.whole Z (bd _).symm) (.cons (.whole Z (bd _).symm) (.cons (.whole Z (bd _).symm) .nil)))))) .nil) Z Z Z Z Z Z Z (B0:=145000) Z (aq hx Z (bf hx (b9 (p:=cH z.2.2.1) (q:=t) O Z Z Z Z Z Z) Z (AN.nil)))) Z Z ?_))
 first|refine aa (al O Z Z Z Z Z) Z ?_|refine aa (Val.pickB O Z Z Z Z Z) Z ?_|refine aa (aj O Z Z Z Z Z) Z ?_
 refine jf [147,20,0,2,4,5,6] Z (jn (ak Z (fun z147=>?_) (fun z147=>?_)))
 refine ae (js Z (jo Z (aB ?_)))
 refine js Z (jr ?_)
 rw[hrd,if_neg (fun hh=>xI z147 ⟨by omega,hh.2.1,hh.2.2⟩)]
 refine⟨.inl Z,_,(ap 2 911 2 true 0 Z Z Z).trans ((ap 2 912 2 true 1 Z Z Z).trans ((ap 2 913 2 true 2 Z Z Z).trans (ap 2 914 2 true 3 Z Z Z))),_,Z,[911,912,913,914],by decide,Z,Z,Z⟩
 refine af (ae (js Z (jo Z (aB ?_))))
 refine js Z (jr ?_)
 have hy:=vq z147
 rw[hrd,if_pos ⟨by have:=hy.1;omega,hy.2.1,hy.2.2⟩]
 refine⟨.inl Z,_,cY,_,Z,[901,902,903,904],by decide,Z,Z,Z⟩
end Go.Al
