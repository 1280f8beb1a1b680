/- Threads of jumps, idle jumps, the optimiser: walked. -/
import Derived.Laws.StructEq
import Derived.Test.YtkendpichnklaaaGreatDoorG
import Derived.Test.YtkendpichnklaaaGreatDoorH
import Derived.Test.YtkendpichnklaaaGreatDoorF
import Derived.Test.YtkendpichnklaaaGreatDoorQ
set_option linter.unusedVariables false
set_option linter.unusedSimpArgs false
set_option maxRecDepth 10000
set_option maxHeartbeats 4000000
open Go.Proofs
namespace Go.Al
variable{L:Nat}(h1:4096≤L)(h2:L≤1073741824)
theorem tR {σ:Sg}{s:St}{o:Oper}{x y:Operand}{t yt:Nat}(hσ:SgOk σ){a b c d:Int}{r:Bool}(ho:o.op= .binOp .neq t x y yt)(hs1:Al.Operand.short x=true)(hs2:Al.Operand.short y=true)(hx:ev s x=some (.agg [.d (.int .i64 a),.d (.int .i64 b)]))(hy:ev s y=some (.agg [.d (.int .i64 c),.d (.int .i64 d)]))
    (hE: ∀w,(eqGuard .neq t x y (.agg #[.int .i64 a,.int .i64 b]) (.agg #[.int .i64 c,.int .i64 d])).run σ.P w= .ok () w∧(binOp .neq t (.agg #[.int .i64 a,.int .i64 b]) (.agg #[.int .i64 c,.int .i64 d])).run σ.P w= .ok (.bool r) w):Val σ s o (eB r):=fun Γ eq m F e w hR=>by
 subst eq
 have hp:=hR.ev hσ.lo hs1 hx
 have hq:=hR.ev hσ.lo hs2 hy
 obtain⟨h1,h2⟩:=hE w
 generalize he:e.eval x=p at hp
 generalize hf:e.eval y=q at hq
 refine⟨.bool r,?_,.c (.d .bool)⟩
 have key : ∀{n k:Int} {v:Value},RA Γ.L w (Γ.ok F) m (.agg [.d (.int .i64 n),.d (.int .i64 k)]) v→v= .agg #[.int .i64 n,.int .i64 k]:=fun h=>by
  cases h with
  | agg h => cases h with
    | cons a1 h=>cases h with
      | cons a2 h=>
        cases h
        cases a1 with
        | d a1=>cases a1;cases a2 with
          | d a2=>cases a2;rfl
 rw[key hp]at he
 rw[key hq]at hf
 simp[execOp,ho,he,hf,h1,h2]
theorem eqN{x y:Operand}{a b c d:Int}(w:World):(eqGuard .neq 73 x y (.agg #[.int .i64 a,.int .i64 b]) (.agg #[.int .i64 c,.int .i64 d])).run Tryz.prog w= .ok () w∧(binOp .neq 73 (.agg #[.int .i64 a,.int .i64 b]) (.agg #[.int .i64 c,.int .i64 d])).run Tryz.prog w= .ok (.bool (!(decide (a=c)&&decide (b=d)))) w:=by
 refine⟨run_eqGuard_agg w _ _ _ _ _ _ Tryz.eqGuardType73,?_⟩
 rw[run_neq_struct,run_equalIn_agg w 9999 73 _ _ Tryz.underlying73 Tryz.stoodInHeld73]
 by_cases h1:a=c<;>by_cases h2:b=d<;>simp[go_sem,Tryz.underlying73,h1,h2]
theorem iB{a:An}{k:Nat}:(bif (bif decide ((k:Int)<a.code.length)then decide ((a.code.getD k default).op=5)else false)then !cT a.pts k else false)=eK a k:=by
 unfold eK cH
 rw[Int.toNat_natCast,decide_eq_true (show(0:Int)≤k by omega)]
 by_cases h:(k:Int)<a.code.length
 rw[decide_eq_true h,decide_eq_true (show(k:Int)≤(a.code.length:Int)-1 by omega)]
 cases decide ((a.code.getD k default).op=5)<;>cases cT a.pts k<;>rfl
 rw[decide_eq_false h,decide_eq_false (show¬(k:Int)≤(a.code.length:Int)-1 by omega)];rfl
theorem pi{a:An}{k:Nat}:(bif (bif decide ((k:Int)<a.code.length)then decide ((a.code.getD k default).op=11)else false)then !cT a.pts k else false)=qQ a k:=by
 unfold qQ cH
 rw[Int.toNat_natCast,decide_eq_true (show(0:Int)≤k by omega)]
 by_cases h:(k:Int)<a.code.length
 rw[decide_eq_true h,decide_eq_true (show(k:Int)≤(a.code.length:Int)-1 by omega)]
 cases decide ((a.code.getD k default).op=11)<;>cases cT a.pts k<;>rfl
 rw[decide_eq_false h,decide_eq_false (show¬(k:Int)≤(a.code.length:Int)-1 by omega)];rfl
theorem we{xs:List (List D)}{i j:Nat}{d:List D}(h:j=i):xs.set j d=xs.set i d:=by rw[h]
theorem qx{xs:List (List D)}{i j:Nat}{d:List D}(h:j=i)(hl:i<xs.length):(xs.set i d)[j]? = some d:=by rw[h,List.getElem?_set_self hl]
theorem qf{xs:List (List D)}{i j:Nat}{d e:List D}(h:j=i):(xs.set i d).set j e=xs.set i e:=by rw[h,List.set_set]
theorem pB{c:List In}{i j:Nat}(hj:j=i)(h:i<c.length):(c.map In.cells)[j]? = some (c.getD i default).cells:=by rw[hj,List.getElem?_map,List.getElem?_eq_getElem h,au h];rfl
theorem oZ{a:An}{k:Nat}:(bif (bif (bif decide ((a.code.getD k default).op=5)then decide ((a.code.getD k default).a=(k:Int)+1)else false)then !cT a.pts k else false)then decide ((1:Int)<(a.code.length:Int))else false)=w8 a k:=by
 unfold w8
 rw[show decide ((1:Int)<(a.code.length:Int))=decide (1<a.code.length)from decide_eq_decide.2 (by omega)]
 cases decide ((a.code.getD k default).op=5)<;>cases decide ((a.code.getD k default).a=(k:Int)+1)<;>cases cT a.pts k<;>cases decide (1<a.code.length)<;>rfl
theorem tj{a:An}{k:Nat}(hv:bB a=true): ∀x∈dB a k 1 [],-1000000≤x.a∧x.a≤1000000:=fun x hx=>by
 have h:=(w6.1 hv).1
 have hm:x∈a.code:=by
  simp only[dB,List.append_nil,List.mem_append]at hx
  rcases hx with hx|hx
  exact List.mem_of_mem_take hx
  exact List.mem_of_mem_drop hx
 exact cv (h x hm)
theorem tb{n i j:Nat}(hj:j=i)(h:i<n):(List.replicate (n:Int).toNat [D.bool false])[j]? = some (bL false):=by
 rw[hj,Int.toNat_natCast];simp[List.getElem?_replicate,h]
theorem ta{n i j:Nat}(hj:j=i):(List.replicate (n:Int).toNat [D.bool false]).set j [D.bool true]=(gT n i).map bL:=by
 rw[hj,Int.toNat_natCast,gT,List.map_set,List.map_replicate]
theorem o9{xs ys:List In}:MQ h1 h2 45 [cn xs,cn ys] [] (Plain (eB (decide (xs=ys)))):=by
 refine av ?_ Z
 refine jB 26 h1 h2 Tryz.func45 Z fun O hF=>?_
 have hl:xs.length≤L:=by simpa[As.fact,A.fact,M.fact,D.fact,Ds.fact]using hF.1.1
 have hl2:ys.length≤L:=by simpa[As.fact,A.fact,M.fact,D.fact,Ds.fact]using hF.2.1.1
 refine af (js Z (jn (aa (af (js Z ?_)))))
 first|refine bP Z ?_|refine js Z ?_|refine aR Z Z ?_
 refine js Z ?_
 first|refine bP Z ?_|refine js Z ?_|refine aR Z Z ?_
 refine js Z (jf [10,4,0,1] Z (jn (ao Z (fun z10=>?_) (fun z10=>?_))))
 refine af (js Z (jr ?_))
 refine aD Z ?_
 rw[decide_eq_false (fun e=>by subst e;simp at z10)]
 refine ac (aa (af (js Z (jn (ah (al (X:=Nat) (fun i=>⟨[(0,cn xs),(1,cn ys),(5,eI i)],[]⟩) (fun i=>i≤xs.length∧∀j,j<i→xs[j]? = ys[j]?) (fun i=>xs.length-i) 0 (Ent.to ⟨Z,Z,Z,aj⟩ Z) ?_ (fun i hi=>?_)))))))
 exact⟨co _,fun j hj=>absurd hj (Nat.not_lt_zero j)⟩
 refine aa (af (ag Z ?_))
 first|refine bP Z ?_|refine js Z ?_|refine aR Z Z ?_
 refine js Z (jf [14,0,1,5] Z (jn (ao Z (fun z14=>?_) (fun z14=>?_))))
 refine ac (aa (ah (aa ?_)))
 have hil:i<xs.length:=by have:=bZ z14;omega
 have hly:xs.length=ys.length:=by simp at z10;omega
 have hiy:i<ys.length:=by omega
 refine gK [_,_,_,_,_,_,_,_,_] [aN,aN,ar [0,1],ar [0,1,2],aN,aN,ar [4,5],ar [4,5,6],ar (rg 0 8)] [] [_] (kc Z (kc Z (ai (vN Z) (kc Z (kc Z (kc Z (ai (vN Z) (kc Z (ai (tR O Z Z Z Z Z eqN) trivial))))))))) ?_
 refine jw [25,14,0,1,5] Z (ld ?_)
 refine ao Z (fun z25=>?_) (fun z25=>?_)
 refine af (js Z (jr ?_))
 refine aD Z ?_
 rw[decide_eq_false (fun e=>by subst e;simp at z25)]
 refine ac (ab (js Z ?_))
 first|refine ji Z ?_|refine aR Z Z ?_
 refine js Z (jf [5,25,14,0,1] Z (jn ?_))
 refine⟨i+1,Ent.to ⟨Z,Z,Z,aj⟩ Z,⟨by omega,fun j hj=>?_⟩,by omega⟩
 rcases Nat.lt_or_ge j i with h|h
 exact hi.2 j h
 obtain rfl:j=i:=by omega
 have h9:xs.getD j default=ys.getD j default:=by
  have h8:(xs.getD j default).op=(ys.getD j default).op∧(xs.getD j default).a=(ys.getD j default).a:=by simpa using z25
  cases hx:xs.getD j default;cases hy:ys.getD j default
  rw[hx,hy]at h8;obtain⟨h8,h7⟩:=h8;cases h8;cases h7;rfl
 rw[au hil,au hiy]at h9
 rw[List.getElem?_eq_getElem hil,List.getElem?_eq_getElem hiy,h9]
 refine aM (af (js Z (jr ?_)))
 refine aD Z ?_
 have hin:i=xs.length:=by have:=cS z14;omega
 have hly:xs.length=ys.length:=by simp at z10;omega
 have e:xs=ys:=List.ext_getElem? fun j=>by
  rcases Nat.lt_or_ge j i with h|h
  ·
   exact hi.2 j h
  ·
   rw[List.getElem?_eq_none (by omega),List.getElem?_eq_none (by omega)]
 rw[decide_eq_true e]
variable{a:An}
theorem wx{z:Int}(hz:0≤z)(hin: ∀x∈a.code,aE x=true):MQ h1 h2 73 [ptr a.data,eI z] [] (Plain (eI (cF a z))):=by
 refine av ?_ Z
 refine jB 49 h1 h2 Tryz.func73 Z fun O hF=>?_
 have hl:a.code.length≤L:=by simpa[As.fact,A.fact,M.fact,D.fact,Ds.fact]using hF.1.2.2.1.1
 refine af (js Z (bm (bp Z ?_)))
 first|refine bP Z ?_|refine js Z ?_|refine aR Z Z ?_
 refine js Z (jf [5,4,0,1] Z (bm (ag Z (jn (aa (af (js Z (jn (ah (al (X:=Nat×Nat) (fun x=>⟨[(0,ptr a.data),(1,eI z),(5,eI a.code.length),(6,eI (x.1:Nat)),(7,eI (x.2:Nat))],[]⟩) (fun x=>x.2≤a.code.length∧j1 a (a.code.length-x.2) (x.1:Nat)=j1 a a.code.length z) (fun x=>a.code.length-x.2) (z.toNat,0) (Ent.to ⟨Z,Z,Z,congrArg (fun z=>some (eI z)) (Int.toNat_of_nonneg hz).symm,Z,aj⟩ Z) ?_ (fun x hi=>?_)))))))))))
 exact⟨co _,by show j1 a (a.code.length-0) ((z.toNat:Nat):Int)=_;rw[Nat.sub_zero,Int.toNat_of_nonneg hz]⟩
 refine aa (af (bp Z (jf [17,0,1,5,6,7] Z (aX 9 Z Z Z (fun hx=>aF hx Z (aF hx Z (aF hx Z (aF hx Z (aF hx Z (ed hx (vN Z) Z (aF hx Z (aF hx Z (aF hx Z (AN.nil)))))))))) Z Z ?_))))
 first|refine ak (aI O Z Z Z Z Z) Z ?_|refine ak (aK O Z Z Z Z Z) Z ?_|refine ak (Val.pickB O Z Z Z Z Z) Z ?_
 refine js Z (jf [28,0,1,5,6,7] Z (aX 4 Z Z Z (fun hx=>aF hx Z (aF hx Z (cd O hx Z Z Z Z (sN (a:=a) (k:=((x.1:Nat):Int)) h1 h2) (ae Z) Z Z Z Z Z Z Z (B0:=32000) Z (aF hx Z (AN.nil))))) Z Z ?_))
 first|refine ak (aI O Z Z Z Z Z) Z ?_|refine ak (aK O Z Z Z Z Z) Z ?_|refine ak (Val.pickB O Z Z Z Z Z) Z ?_
 refine jf [33,0,1,5,6,7] Z (jn (ao Z (fun z33=>?_) (fun z33=>?_)))
 refine ac (aa (ah (aa (af ?_))))
 have hJ:eK a (x.1:Nat)=true:=by rw[←iB];exact z33
 have hkl:x.1<a.code.length:=by have:=(eh hJ).2.1;omega
 have hop:(a.code.getD x.1 default).op=5:=by have h9:=(eh hJ).2.2.1;rwa[Int.toNat_natCast]at h9
 have hja:=fi (hin _ (gc hkl)) (.inl hop)
 refine bb Z (jf [38,33,0,1,5,6,7] Z (jn (ao Z (fun z38=>?_) (fun z38=>?_))))
 refine af (ag Z (jr ?_))
 refine aD Z ?_
 have e:x.2=a.code.length:=by have:=bZ z38;omega
 have h9:=hi.2
 rw[e,Nat.sub_self,j1,if_pos hJ]at h9
 rw[show cF a z=z by unfold cF;rw[←h9];rfl]
 refine ac (ab (bp Z (js Z ?_)))
 first|refine fO Z Z ?_|refine er Z Z ?_|refine aR Z Z ?_
 refine bb Z (jf [6,38,33,0,1,5,7] Z (jn (ab (js Z ?_))))
 first|refine ji Z ?_|refine aR Z Z ?_
 refine js Z (jf [7,6,38,33,0,1,5] Z (jn ?_))
 have hne: ¬((x.2:Nat):Int)=a.code.length:=cS z38
 obtain⟨m,hm⟩: ∃m,a.code.length-x.2=m+1:=⟨a.code.length-x.2-1,by omega⟩
 have h9:=hi.2
 rw[hm,j1,if_pos hJ]at h9
 refine⟨((a.code.getD x.1 default).a.toNat,x.2+1),Ent.to ⟨Z,Z,Z,congrArg (fun z=>some (eI z)) (Int.toNat_of_nonneg hja.1).symm,Z,aj⟩ Z,⟨by show x.2+1≤_;omega,?_⟩,by show a.code.length-(x.2+1)<a.code.length-x.2;omega⟩
 show j1 a (a.code.length-(x.2+1)) (((a.code.getD x.1 default).a.toNat:Nat):Int)=_
 rw[show a.code.length-(x.2+1)=m by omega,Int.toNat_of_nonneg hja.1,←h9]
 show _=j1 a m (a.code.getD ((x.1:Nat):Int).toNat default).a
 rw[Int.toNat_natCast]
 refine aM (af (ag Z (jr ?_)))
 refine aD Z ?_
 have hJ:eK a (x.1:Nat)=false:=by rw[←iB];exact z33
 have h9:=hi.2
 rw[iM (m:=0) (co _) (fun j hj=>absurd hj (Nat.not_lt_zero j)) hJ]at h9
 rw[show cF a z=(x.1:Nat) by unfold cF;rw[←h9];rfl]
theorem mS{a:An}{x:In}{f:Nat}(hj:bI x=true)(hf:cF a x.a=f)(h:(bif decide (x.op=5)then(bif (bif decide ((f:Int)<a.code.length)then decide ((a.code.getD f default).op=11)else false)then !cT a.pts f else false)else false)=true):fq a x=⟨11,0⟩:=by
 rw[pi]at h
 unfold fq
 rw[if_pos hj,hf,if_pos]
 revert h
 cases hd:decide (x.op=5)with
 | true=>exact fun h=>⟨bZ hd,h⟩
 | false=>exact fun h=>by cases h
theorem mR{a:An}{x:In}{f:Nat}(hj:bI x=true)(hf:cF a x.a=f)(h:(bif decide (x.op=5)then(bif (bif decide ((f:Int)<a.code.length)then decide ((a.code.getD f default).op=11)else false)then !cT a.pts f else false)else false)=false):fq a x=⟨x.op,f⟩:=by
 rw[pi]at h
 unfold fq
 rw[if_pos hj,hf,if_neg]
 rintro⟨h5,h9⟩
 rw[decide_eq_true h5,h9]at h;cases h
theorem wz(hv:bB a=true):MQ h1 h2 41 [ptr a.data] [] (Rows (gM (cp a)) (jd (cp a))):=by
 refine bd (jB 85 h1 h2 Tryz.func41 Z fun O hF=>?_)
 have hA:=eF hv
 have h80:=hA.len
 have hcl:(cp a).code.length=a.code.length:=by simp[cp]
 refine af (jl Z (aA ?_))
 refine bm (js Z (aC O (B0:=9000) Z Z Z Z (qb (a:=a) h1 h2) (ae Z) Z Z Z Z Z Z (aA ?_)))
 refine jf [8,2,0] Z (jl Z (aA ?_))
 refine jo Z (aA ?_)
 refine jn (aa (af (js Z (jn (ah (al (X:=Nat) (fun i=>⟨[(0,ptr a.data),(2,.c (.pt 2 0 0)),(3,.c (.pt 3 0 0)),(4,eI i)],[(2,.box [.d .nils,.d .nils,.d .nils,.d .nils]),(3,.box [.rs 901 0 a.pre.length,.rs 902 0 a.post.length,.rs 903 0 (cp a).code.length,.rs 904 0 a.pts.length]),(901,bA a.pre),(902,bA a.post),(903,.row true 2 ((e6 (fq a) a.code i).map In.cells)),(904,cK a.pts)]⟩) (fun i=>i≤a.code.length) (fun i=>a.code.length-i) 0 ((((((aq [2,3,9000,9001,9002,9003] (e':=[(0,_),(2,_),(3,_),(4,_)]) Z Z ⟨Z,Z,Z,Z,aj⟩ Z).trans (am 9000 901 Z Z)).trans (am 9001 902 Z Z)).trans (am 9002 903 Z Z)).trans (am 9003 904 Z Z)).trans (Ent.to ⟨Z,Z,Z,Z,aj⟩ (by rw[hcl,kx];rfl))) ?_ (fun i hi=>?_)))))))
 exact co _
 refine aa (af (bp Z (js Z ?_)))
 first|refine bP Z ?_|refine js Z ?_|refine aR Z Z ?_
 refine js Z (jf [15,0,2,3,4] Z (jn (ao Z (fun z15=>?_) (fun z15=>?_))))
 refine ac (aa (ah (aa (af ?_))))
 have hil:i<a.code.length:=by have:=bZ z15;omega
 have hix:=hA.code _ (gc hil)
 have hul:=j6 (f:=(fq a)) (l:=a.code) (i:=i)
 refine bp Z (js Z ?_)
 first|refine fO Z Z ?_|refine er Z Z ?_|refine aR Z Z ?_
 refine js Z (jf [24,15,0,2,3,4] Z (ba Z (uq (x:=(a.code.getD i default)) h1 h2) 26000 Z (js Z (jf [26,15,0,2,3,4] Z (jn (ao Z (fun z26=>?_) (fun z26=>?_)))))))
 refine aM (ab (js Z ?_))
 first|refine ji Z ?_|refine aR Z Z ?_
 refine js Z (jf [4,26,15,0,2,3] Z (jn ?_))
 have e9:e6 (fq a) a.code (i+1)=e6 (fq a) a.code i:=iL hil (by unfold fq;rw[if_neg (by simpa using z26)])
 rw[←e9]
 refine⟨i+1,(aq [2,3,901,902,903,904] (e':=[(0,_),(2,_),(3,_),(4,_)]) Z Z ⟨Z,Z,Z,Z,aj⟩ Z).trans (Ent.to ⟨Z,Z,Z,Z,aj⟩ Z),by omega,by omega⟩
 refine ac (af ?_)
 have hj:bI (a.code.getD i default)=true:=by simpa using z26
 have hja:=fi hix (w4.1 hj)
 have hfi:=mo hA.code hja
 refine bp Z (ag Z ?_)
 first|refine fO Z Z ?_|refine er Z Z ?_|refine aR Z Z ?_
 refine ag Z (jf [35,27,26,15,0,2,3,4] Z (ba Z (wx (a:=a) (z:=(a.code.getD i default).a) h1 h2 hja.1 hA.code) 37000 Z ?_))
 obtain⟨f,hf⟩: ∃f:Nat,cF a (a.code.getD i default).a=f:=⟨(cF a (a.code.getD i default).a).toNat,by omega⟩
 rw[hf]
 refine js Z (jf [5,26,15,0,2,3,4] Z (bm (bp Z (ak (c6 O Z Z (by omega)) Z (js Z (jf [42,40,5,26,15,0,2,3,4] Z (bc (bl (ex:=(a.code.getD i default).cells) (xs':=(((e6 (fq a) a.code i).map In.cells).set i (In.cells ⟨(a.code.getD i default).op,(f:Int)⟩))) O Z Z Z Z Z Z Z Z Z Z Z Z Z Z (cE hil (by simp)) (we (by simp))) Z (aA ?_))))))))
 refine aA ?_
 refine jf [5,26,15,0,2,3,4] Z (bm (bp Z (js Z ?_)))
 first|refine bP Z ?_|refine js Z ?_|refine aR Z Z ?_
 refine ag Z (jf [50,5,26,15,0,2,3,4] Z (aX 9 Z Z Z (fun hx=>aF hx Z (aF hx Z (aF hx Z (aF hx Z (aF hx Z (ed hx (vN Z) Z (aF hx Z (aF hx Z (aF hx Z (AN.nil)))))))))) Z Z ?_))
 first|refine ak (aI O Z Z Z Z Z) Z ?_|refine ak (aK O Z Z Z Z Z) Z ?_|refine ak (Val.pickB O Z Z Z Z Z) Z ?_
 refine js Z (jf [61,5,26,15,0,2,3,4] Z (aX 4 Z Z Z (fun hx=>aF hx Z (aF hx Z (cd O hx Z Z Z Z (sN (a:=a) (k:=(f:Int)) h1 h2) (ae Z) Z Z Z Z Z Z Z (B0:=65000) Z (aF hx Z (AN.nil))))) Z Z ?_))
 first|refine ak (aI O Z Z Z Z Z) Z ?_|refine ak (aK O Z Z Z Z Z) Z ?_|refine ak (Val.pickB O Z Z Z Z Z) Z ?_
 refine js Z (jf [6,5,26,15,0,2,3,4] Z (bm (bp Z (js Z ?_))))
 first|refine fO Z Z ?_|refine er Z Z ?_|refine aR Z Z ?_
 refine bp Z (jf [76,6,5,26,15,0,2,3,4] Z (aX 1 Z Z Z (fun hx=>aF hx Z (AN.nil)) Z Z ?_))
 first|refine ak (aI O Z Z Z Z Z) Z ?_|refine ak (aK O Z Z Z Z Z) Z ?_|refine ak (Val.pickB O Z Z Z Z Z) Z ?_
 refine jf [78,5,26,15,0,2,3,4] Z (jn (ao Z (fun z78=>?_) (fun z78=>?_)))
 refine ab (bp Z (ak (c6 O Z Z (by omega)) Z (jf [83,82,78,5,26,15,0,2,3,4] Z (bc (bl (ex:=In.cells ⟨(a.code.getD i default).op,(f:Int)⟩) (xs':=(e6 (fq a) a.code (i+1)).map In.cells) O Z Z Z Z Z Z Z Z Z Z Z Z Z Z (qx (by simp) (by rw[aQ,hul];exact hil)) ((qf (by simp)).trans (l8 hil (by rw[mS hj hf z78];rfl)))) Z (aA ?_)))))
 refine aA ?_
 refine jf [78,5,26,15,0,2,3,4] Z (jn (ab (js Z ?_)))
 first|refine ji Z ?_|refine aR Z Z ?_
 refine js Z (jf [4,78,5,26,15,0,2,3] Z (jn ?_))
 refine⟨i+1,(aq [2,3,901,902,903,904] (e':=[(0,_),(2,_),(3,_),(4,_)]) Z Z ⟨Z,Z,Z,Z,aj⟩ Z).trans (Ent.to ⟨Z,Z,Z,Z,aj⟩ Z),by omega,by omega⟩
 refine ac (ab (js Z ?_))
 first|refine ji Z ?_|refine aR Z Z ?_
 refine js Z (jf [4,78,5,26,15,0,2,3] Z (jn ?_))
 have e9:(((e6 (fq a) a.code i).map In.cells).set i (In.cells ⟨(a.code.getD i default).op,(f:Int)⟩))=(e6 (fq a) a.code (i+1)).map In.cells:=l8 hil (by rw[mR hj hf z78])
 rw[e9]
 refine⟨i+1,(aq [2,3,901,902,903,904] (e':=[(0,_),(2,_),(3,_),(4,_)]) Z Z ⟨Z,Z,Z,Z,aj⟩ Z).trans (Ent.to ⟨Z,Z,Z,Z,aj⟩ Z),by omega,by omega⟩
 refine aM (af ?_)
 obtain rfl:i=a.code.length:=by have:=cS z15;omega
 rw[iA]
 refine js Z (jo Z (aA ?_))
 refine jr ?_
 refine⟨.inl Z,_,bt,_,Z,[901,902,903,904],by decide,Z,Z,Z⟩
theorem wy(hv:bB a=true):MQ h1 h2 44 [ptr a.data] [] (Rows (gM (qS a)) (jd (qS a))):=by
 refine bd (jB 48 h1 h2 Tryz.func44 Z fun O hF=>?_)
 have h80:=(w6.1 hv).2.2.1
 refine af (jl Z (aA ?_))
 refine bm (js Z (aC O (B0:=8000) Z Z Z Z (qb (a:=a) h1 h2) (ae Z) Z Z Z Z Z Z (aA ?_)))
 refine jf [7,2,0] Z (jl Z (aA ?_))
 refine jo Z (aA ?_)
 refine jn (aa (af (bp Z ?_)))
 first|refine bP Z ?_|refine js Z ?_|refine aR Z Z ?_
 first|refine ji Z ?_|refine aR Z Z ?_
 refine js Z (jf [4,3,7,2,0] Z (jn (ah (al (X:=Nat×An) (fun x=>⟨[(2,.c (.pt 2 0 0)),(3,.c (.pt 3 0 0)),(4,eI ((x.1:Int)-1))],[(2,.box [.d .nils,.d .nils,.d .nils,.d .nils]),(3,.box [.rs 901 0 x.2.pre.length,.rs 902 0 x.2.post.length,.rs 903 0 x.2.code.length,.rs 904 0 x.2.pts.length]),(901,bA x.2.pre),(902,bA x.2.post),(903,cQ x.2.code),(904,cK x.2.pts)]⟩) (fun x=>bB x.2=true∧x.1≤x.2.code.length∧lV x.1 x.2=qS a) (fun x=>x.1) (a.code.length,a) ((((((aq [2,3,8000,8001,8002,8003] (e':=[(2,_),(3,_),(4,_)]) Z Z ⟨Z,Z,Z,aj⟩ Z).trans (am 8000 901 Z Z)).trans (am 8001 902 Z Z)).trans (am 8002 903 Z Z)).trans (am 8003 904 Z Z)).trans (Ent.to ⟨Z,Z,Z,aj⟩ Z)) ?_ (fun x hi=>?_)))))
 exact⟨hv,cm _,Z⟩
 refine aa (af (ag Z (jn (ao Z (fun z15=>?_) (fun z15=>?_)))))
 refine ac (aa (ah (af ?_)))
 obtain⟨hb,hjl,hE⟩:=hi
 obtain⟨m,hm⟩: ∃m,x.1=m+1:=⟨x.1-1,by have:=bZ z15;omega⟩
 rw[hm]at hjl hE
 have hbb:=w6.1 hb
 have hml:m<x.2.code.length:=by omega
 have hb80:=hbb.2.2.1
 have hmx:=hbb.1 _ (gc hml)
 obtain⟨s1,s2,s3,s4⟩:=oh hb hml
 rw[show((x.1:Int)-1)=(m:Nat) by omega]
 refine bb Z (ak (c6 O Z Z (by omega)) Z (ak (aW O (ex:=(x.2.code.getD m default).cells) Z Z Z Z (pB (by simp) hml) Z) Z (jf [22,15,14,2,3,4] Z (jl Z (aA ?_)))))
 refine jo Z (aA ?_)
 refine bm (bp Z (jf [26,5,22,15,14,2,3,4] Z (aX 5 Z Z Z (fun hx=>aF hx Z (aF hx Z (aF hx Z (ed hx (vF Z) Z (aF hx Z (AN.nil)))))) Z Z ?_)))
 first|refine ak (aI O Z Z Z Z Z) Z ?_|refine ak (aK O Z Z Z Z Z) Z ?_|refine ak (Val.pickB O Z Z Z Z Z) Z ?_
 refine js Z (jf [33,5,22,15,14,2,3,4] Z (aX 3 Z Z Z (fun hx=>aF hx Z (cd O hx Z Z Z Z (sN (a:=x.2) (k:=(m:Int)) h1 h2) (.cons (.c (.pb Z (.cons (.whole Z (aQ _).symm) (.cons (.whole Z (aQ _).symm) (.cons (.whole Z (aQ _).symm) (.cons (.whole Z (aQ _).symm) .nil)))))) (.cons (.c .d) .nil)) Z Z Z Z Z Z Z (B0:=36000) Z (aF hx Z (AN.nil)))) Z Z ?_))
 first|refine ak (aI O Z Z Z Z Z) Z ?_|refine ak (aK O Z Z Z Z Z) Z ?_|refine ak (Val.pickB O Z Z Z Z Z) Z ?_
 refine js Z (jf [38,5,22,15,14,2,3,4] Z (aX 4 Z Z Z (fun hx=>aF hx Z (aF hx Z (ed hx (c6 (c:=x.2.code.length≤9223372036854775807) (v:=eI (x.2.code.length:Nat)) O Z Z (by omega)) Z (aF hx Z (AN.nil))))) Z Z ?_))
 first|refine ak (aI O Z Z Z Z Z) Z ?_|refine ak (aK O Z Z Z Z Z) Z ?_|refine ak (Val.pickB O Z Z Z Z Z) Z ?_
 refine jf [43,5,22,15,14,2,3,4] Z (jn (ao Z (fun z43=>?_) (fun z43=>?_)))
 refine ab (js Z (bc (HS.lit O Z Z Z) Z (aA ?_)))
 refine aC O (B0:=47000) Z Z Z Z (uv (a:=x.2) (k:=m) (n:=1) (b:=[]) h1 h2 (by omega) hb80 (by simp) (tj hb) (eF hb).pts) (.cons (.c (.pb Z (.cons (.whole Z (aQ _).symm) (.cons (.whole Z (aQ _).symm) (.cons (.whole Z (aQ _).symm) (.cons (.whole Z (aQ _).symm) .nil)))))) (.cons (.c .d) (.cons (.c .d) (.cons (.c (.whole Z Z)) .nil)))) Z Z Z Z Z Z (aA ?_)
 refine jf [46,43,5,22,15,14,2,3,4] Z (jo Z (aA ?_))
 refine jn (ab (js Z ?_))
 first|refine ji Z ?_|refine aR Z Z ?_
 refine js Z (jf [4,46,43,5,22,15,14,2,3] Z (jn ?_))
 have hid:j5 x.2 m=bU x.2 m 1 []:=if_pos (by rw[←oZ];exact z43)
 rw[hid]at s1 s2
 refine⟨(m,bU x.2 m 1 []),(((((aq [2,3,47000,47001,47002,47003] (e':=[(2,_),(3,_),(4,_)]) Z Z ⟨Z,Z,Z,aj⟩ Z).trans (am 47000 901 Z Z)).trans (am 47001 902 Z Z)).trans (am 47002 903 Z Z)).trans (am 47003 904 Z Z)).trans (Ent.to ⟨Z,Z,Z,aj⟩ Z),⟨s1,s2,by rw[←hE,←hid];rfl⟩,by show m<x.1;omega⟩
 refine ac (ab (js Z ?_))
 first|refine ji Z ?_|refine aR Z Z ?_
 refine js Z (jf [4,43,5,22,15,14,2,3] Z (jn ?_))
 have hid:j5 x.2 m=x.2:=if_neg (by rw[←oZ,z43];decide)
 refine⟨(m,x.2),(aq [2,3,901,902,903,904] (e':=[(2,_),(3,_),(4,_)]) Z Z ⟨Z,Z,Z,aj⟩ Z).trans (Ent.to ⟨Z,Z,Z,aj⟩ Z),⟨hb,by show m≤x.2.code.length;omega,by rw[←hE];show lV m x.2=lV m (j5 x.2 m);rw[hid]⟩,by show m<x.1;omega⟩
 refine aM (af (js Z (jo Z (aA ?_))))
 refine jr ?_
 have h0:x.1=0:=by have:=cS z15;omega
 have hE:qS a=x.2:=by rw[←hi.2.2,h0];rfl
 rw[hE]
 refine⟨.inl Z,_,bt,_,Z,[901,902,903,904],by decide,Z,Z,Z⟩
theorem uO(hv:bB a=true):MQ h1 h2 25 [aAn a] [] (Rows (.tup [gM (qS a),eB true]) (jd (qS a))):=by
 refine bd (jB 60 h1 h2 Tryz.func25 Z fun O hF=>?_)
 have h80:=(w6.1 hv).2.2.1
 have h1c:=(w6.1 hv).2.1
 refine af (jx Z (aA ?_))
 refine bw (Ent.freeze 1 (e':=[(1,_),(0,_)]) Z (.cons Z (.c (.box (cs:=a.data) Z (aV Z))) (fe [0] Z)) (.skip .nil)) ?_
 refine aA ?_
 refine jf [1] Z (jl Z (aA ?_))
 refine js Z (jn (aa (af (js Z (ba Z ((va (a:=a) h1 h2).plain (u:=eB true) (by rw[hv])) 10000 Z (js Z (jf [10,3,2,1] Z (jn (ao Z (fun z10=>?_) (fun z10=>?_))))))))))
 cases z10
 refine ac (af (js Z (jf [12,3,2,1] Z (aC O (B0:=14000) Z Z Z Z (vj (a:=a) h1 h2 (by omega) (by omega)) (ae Z) Z Z Z Z Z Z (aA ?_)))))
 refine jf [13,3,2,1] Z (jl Z (aA ?_))
 refine jo Z (aA ?_)
 refine jn (aa (af (ag Z ?_)))
 first|refine bP Z ?_|refine js Z ?_|refine aR Z Z ?_
 first|refine ji Z ?_|refine aR Z Z ?_
 refine js Z (jf [5,4,13,3,2,1] Z (jn (ah (al (X:=Nat×An) (fun x=>⟨[(2,.c (.pt 2 0 0)),(4,.c (.pt 4 0 0)),(5,eI ((x.1:Int)-1))],[(2,.box [.d .nils,.d .nils,.d .nils,.d .nils]),(4,.box [.rs 901 0 x.2.pre.length,.rs 902 0 x.2.post.length,.rs 903 0 x.2.code.length,.rs 904 0 x.2.pts.length]),(901,bA x.2.pre),(902,bA x.2.post),(903,cQ x.2.code),(904,cK x.2.pts)]⟩) (fun x=>bB x.2=true∧x.1≤x.2.code.length∧lV x.1 x.2=qS a) (fun x=>x.1) (a.code.length,a) ((((((aq [2,4,14000,14001,14002,14003] (e':=[(2,_),(4,_),(5,_)]) Z Z ⟨Z,Z,Z,aj⟩ Z).trans (am 14000 901 Z Z)).trans (am 14001 902 Z Z)).trans (am 14002 903 Z Z)).trans (am 14003 904 Z Z)).trans (Ent.to ⟨Z,Z,Z,aj⟩ Z)) ?_ (fun x hi=>?_)))))
 exact⟨hv,cm _,Z⟩
 refine aa (af (ag Z (jn (ao Z (fun z19=>?_) (fun z19=>?_)))))
 refine ac (aa (ah (af ?_)))
 obtain⟨hb,hjl,hE⟩:=hi
 obtain⟨m,hm⟩: ∃m,x.1=m+1:=⟨x.1-1,by have:=bZ z19;omega⟩
 rw[hm]at hjl hE
 have hbb:=w6.1 hb
 have hml:m<x.2.code.length:=by omega
 have hb80:=hbb.2.2.1
 have hmx:=hbb.1 _ (gc hml)
 obtain⟨s1,s2,s3,s4⟩:=oh hb hml
 rw[show((x.1:Int)-1)=(m:Nat) by omega]
 refine bb Z (ak (c6 O Z Z (by omega)) Z (ak (aW O (ex:=(x.2.code.getD m default).cells) Z Z Z Z (pB (by simp) hml) Z) Z (jf [26,19,18,2,4,5] Z (jl Z (aA ?_)))))
 refine jo Z (aA ?_)
 refine bm (bp Z (jf [30,6,26,19,18,2,4,5] Z (aX 5 Z Z Z (fun hx=>aF hx Z (aF hx Z (aF hx Z (ed hx (vF Z) Z (aF hx Z (AN.nil)))))) Z Z ?_)))
 first|refine ak (aI O Z Z Z Z Z) Z ?_|refine ak (aK O Z Z Z Z Z) Z ?_|refine ak (Val.pickB O Z Z Z Z Z) Z ?_
 refine js Z (jf [37,6,26,19,18,2,4,5] Z (aX 4 Z Z Z (fun hx=>aF hx Z (aF hx Z (cd O hx Z Z Z Z (p9 (a:=x.2) (k:=(m:Int)) h1 h2) (.cons (.agg (.cons (.whole Z (aQ _).symm) (.cons (.whole Z (aQ _).symm) (.cons (.whole Z (aQ _).symm) (.cons (.whole Z (aQ _).symm) .nil))))) (.cons (.c .d) .nil)) Z Z Z Z Z Z Z (B0:=41000) Z (ed hx ((V Z).cast (v':=eB (!cT x.2.pts m)) (congrArg eB iE)) Z (AN.nil))))) Z Z ?_))
 first|refine ak (aI O Z Z Z Z Z) Z ?_|refine ak (aK O Z Z Z Z Z) Z ?_|refine ak (Val.pickB O Z Z Z Z Z) Z ?_
 refine js Z (jf [43,6,26,19,18,2,4,5] Z (aX 4 Z Z Z (fun hx=>aF hx Z (aF hx Z (ed hx (c6 (c:=x.2.code.length≤9223372036854775807) (v:=eI (x.2.code.length:Nat)) O Z Z (by omega)) Z (aF hx Z (AN.nil))))) Z Z ?_))
 first|refine ak (aI O Z Z Z Z Z) Z ?_|refine ak (aK O Z Z Z Z Z) Z ?_|refine ak (Val.pickB O Z Z Z Z Z) Z ?_
 refine jf [48,6,26,19,18,2,4,5] Z (jn (ao Z (fun z48=>?_) (fun z48=>?_)))
 refine af (ag Z ?_)
 first|refine bP Z ?_|refine js Z ?_|refine aR Z Z ?_
 refine jf [51,48,6,26,19,18,2,4,5] Z (bc (fo O Z Z Z Z Z Z Z Z Z (by first|omega|(simp at *;omega)) (by first|omega|(simp at *;omega)) (by first|omega|(simp at *;omega)) (by first|omega|(dsimp only;omega)|(simp only[aS]at *;omega)) (by first|omega|(simp at *;omega)) Z Z Z) Z (aA ?_))
 refine js Z (jf [7,48,6,26,19,18,2,4,5] Z (bm (ag Z (ak (c6 O Z Z (by omega)) Z (jf [55,7,48,6,26,19,18,2,4,5] Z (bc (bl (ex:=bL false) (xs':=(gT x.2.code.length m).map bL) O Z Z Z Z Z Z Z Z Z Z Z Z Z Z (tb (by simp) hml) (ta (by simp))) Z (aA ?_)))))))
 refine aA ?_
 refine jn (ab (ag Z (aC O (B0:=59000) Z Z Z Z (ut (a:=x.2) (d:=gT x.2.code.length m) h1 h2 ⟨kC,(DpOk.of hb).c80,(DpOk.of hb).jmp,(DpOk.of hb).pts⟩) (.cons (.agg (.cons (.whole Z (aQ _).symm) (.cons (.whole Z (aQ _).symm) (.cons (.whole Z (aQ _).symm) (.cons (.whole Z (aQ _).symm) .nil))))) (.cons (.c (.whole Z (by simp[kC]))) .nil)) Z Z Z Z Z Z (aA ?_))))
 rw[su (DpOk.of hb) hml]
 refine jf [58,55,7,48,6,26,19,18,2,4,5] Z (jo Z (aA ?_))
 refine jn (ab (js Z ?_))
 first|refine ji Z ?_|refine aR Z Z ?_
 refine js Z (jf [5,58,55,7,48,6,26,19,18,2,4] Z (jn ?_))
 have hid:j5 x.2 m=bU x.2 m 1 []:=if_pos (by rw[←oZ];exact z48)
 rw[hid]at s1 s2
 refine⟨(m,bU x.2 m 1 []),(((((aq [2,4,59000,59001,59002,59003] (e':=[(2,_),(4,_),(5,_)]) Z Z ⟨Z,Z,Z,aj⟩ Z).trans (am 59000 901 Z Z)).trans (am 59001 902 Z Z)).trans (am 59002 903 Z Z)).trans (am 59003 904 Z Z)).trans (Ent.to ⟨Z,Z,Z,aj⟩ Z),⟨s1,s2,by rw[←hE,←hid];rfl⟩,by show m<x.1;omega⟩
 refine ac (ab (js Z ?_))
 first|refine ji Z ?_|refine aR Z Z ?_
 refine js Z (jf [5,48,6,26,19,18,2,4] Z (jn ?_))
 have hid:j5 x.2 m=x.2:=if_neg (by rw[←oZ,z48];decide)
 refine⟨(m,x.2),(aq [2,4,901,902,903,904] (e':=[(2,_),(4,_),(5,_)]) Z Z ⟨Z,Z,Z,aj⟩ Z).trans (Ent.to ⟨Z,Z,Z,aj⟩ Z),⟨hb,by show m≤x.2.code.length;omega,by rw[←hE];show lV m x.2=lV m (j5 x.2 m);rw[hid]⟩,by show m<x.1;omega⟩
 refine aM (af (js Z (jo Z (aA ?_))))
 refine js Z (jr ?_)
 have h0:x.1=0:=by have:=cS z19;omega
 have hE:qS a=x.2:=by rw[←hi.2.2,h0];rfl
 rw[hE]
 refine⟨.inl Z,_,bt,_,Z,[901,902,903,904],by decide,Z,Z,Z⟩
set_option maxHeartbeats 8000000
theorem pM{n k:Nat}:cH 0 ((n:Int)-1) (k:Int)=decide ((k:Int)<n):=by
 unfold cH
 rw[decide_eq_true (show(0:Int)≤k by omega),Bool.true_and]
 exact decide_eq_decide.2 (by omega)
open Classical in
noncomputable def ui(a:An)(z:Int)(m:Nat)(v:Int):Bool:=decide (∃j,j<m∧di a j z=v)
theorem tm{a:An}{z v:Int}{m:Nat}:(fc (pX a z m) v).getD (.bool false)= .bool (ui a z m v):=by
 unfold ui
 rcases ml (a:=a) (z:=z) (v:=v) (m:=m)with⟨h,j,hj,e⟩|⟨h,hn⟩
 rw[h,decide_eq_true (show∃j,j<m∧di a j z=v from⟨j,hj,e⟩)];rfl
 rw[h,decide_eq_false (fun⟨j,hj,e⟩=>hn j hj e)];rfl
theorem uH{a:An}{z v:Int}{m:Nat}(h:ui a z m v=false):fc (pX a z m) v=none∧∀j,j<m→di a j z≠v:=by
 rcases ml (a:=a) (z:=z) (v:=v) (m:=m)with⟨_,j,hj,e⟩|h9
 exact absurd (show∃j,j<m∧di a j z=v from⟨j,hj,e⟩) (by unfold ui at h;exact cS h)
 exact h9
theorem tl{a:An}{z v:Int}{m:Nat}(h:ui a z m v=true): ∃j,j<m∧di a j z=v:=by
 unfold ui at h;exact bZ h
theorem wo{p:Bool}{f n:Nat}(h:((bif p then decide ((f:Int)<(n:Int))else false)==true)=true):f<n:=by
 cases p with
 | false=>cases h
 | true=>
  have:=bZ (show decide ((f:Int)<(n:Int))=true by simpa using h)
  omega
theorem yz:(Tryz.prog).underlying 88=some (.map 2 4):=by kernel_rfl
theorem yA:Tryz.prog.underlying 2=some (.int .i64):=by kernel_rfl
theorem zKb:(Tryz.prog.info? 4).bind (·.zero)=some (D.val (.bool false)):=by kernel_rfl
theorem pg{p q r s:Bool}:(bif (bif (bif p then q else false)then r else false)then s else false)=(bif p then(bif (bif q then r else false)then s else false)else false):=by
 cases p<;>rfl
theorem uP(hv:bB a=true):MQ h1 h2 22 [aAn a] [] (Rows (.tup [gM (cp a),eB true]) (jd (cp a))):=by
 refine bd (jB 100 h1 h2 Tryz.func22 Z fun O hF=>?_)
 have hA:=eF hv
 have h80:=hA.len
 have h1c:=(w6.1 hv).2.1
 have hcl:(cp a).code.length=a.code.length:=by simp[cp]
 have hl:a.code.length≤L:=by omega
 refine af (jx Z (aA ?_))
 refine bw (Ent.freeze 1 (e':=[(1,_),(0,_)]) Z (.cons Z (.c (.box (cs:=a.data) Z (aV Z))) (fe [0] Z)) (.skip .nil)) ?_
 refine aA ?_
 refine jf [1] Z (jl Z (aA ?_))
 refine js Z (jn (aa (af (js Z (ba Z ((va (a:=a) h1 h2).plain (u:=eB true) (by rw[hv])) 11000 Z (js Z (jf [11,3,2,1] Z (jn (ao Z (fun z11=>?_) (fun z11=>?_))))))))))
 cases z11
 refine ac (af (js Z (jf [13,3,2,1] Z (aC O (B0:=15000) Z Z Z Z (vj (a:=a) h1 h2 (by omega) (by omega)) (ae Z) Z Z Z Z Z Z (aA ?_)))))
 refine jf [14,3,2,1] Z (jl Z (aA ?_))
 refine jo Z (aA ?_)
 refine jn (aa (af (ag Z ?_)))
 first|refine bP Z ?_|refine js Z ?_|refine aR Z Z ?_
 refine js Z (jn (ah (al (X:=Nat) (fun i=>⟨[(1,ptr a.data),(2,.c (.pt 2 0 0)),(4,.c (.pt 4 0 0)),(16,cn a.code),(17,eI a.code.length),(18,eI i)],[(2,.box [.d .nils,.d .nils,.d .nils,.d .nils]),(4,.box [.rs 901 0 a.pre.length,.rs 902 0 a.post.length,.rs 903 0 (cp a).code.length,.rs 904 0 a.pts.length]),(901,bA a.pre),(902,bA a.post),(903,.row true 2 ((e6 (fq a) a.code i).map In.cells)),(904,cK a.pts)]⟩) (fun i=>i≤a.code.length) (fun i=>a.code.length-i) 0 ((((((aq [2,4,15000,15001,15002,15003] (e':=[(1,_),(2,_),(4,_),(16,_),(17,_),(18,_)]) Z Z ⟨Z,Z,Z,Z,Z,Z,aj⟩ Z).trans (am 15000 901 Z Z)).trans (am 15001 902 Z Z)).trans (am 15002 903 Z Z)).trans (am 15003 904 Z Z)).trans (Ent.to ⟨Z,Z,Z,Z,Z,Z,aj⟩ (by rw[hcl,kx];rfl))) ?_ (fun i hi=>?_))))
 exact co _
 refine af (js Z (jn (aa (ao Z (fun z19=>?_) (fun z19=>?_)))))
 refine ac (aa (ah (af ?_)))
 have hil:i<a.code.length:=by have:=bZ z19;omega
 have hix:=hA.code _ (gc hil)
 have hul:=j6 (f:=(fq a)) (l:=a.code) (i:=i)
 refine js Z ?_
 first|refine fO Z Z ?_|refine er Z Z ?_|refine aR Z Z ?_
 refine js Z (jf [22,20,19,1,2,4,16,17,18] Z (jl Z (aA ?_)))
 refine js Z (jf [5,6,22,19,1,2,4,16,17,18] Z (jo Z (aA ?_)))
 refine jn (aa (af (js Z (ba Z (uu (x:=(a.code.getD i default)) h1 h2) 25000 Z (js Z (jf [25,5,6,22,19,1,2,4,16,17,18] Z (jn (ao Z (fun z25=>?_) (fun z25=>?_)))))))))
 refine aM (ab ?_)
 first|refine ji Z ?_|refine aR Z Z ?_
 refine js Z (jn ?_)
 have e9:e6 (fq a) a.code (i+1)=e6 (fq a) a.code i:=iL hil (by unfold fq;rw[if_neg (by simpa using z25)])
 rw[←e9]
 refine⟨i+1,(aq [2,4,901,902,903,904] (e':=[(1,_),(2,_),(4,_),(16,_),(17,_),(18,_)]) Z Z ⟨Z,Z,Z,Z,Z,Z,aj⟩ Z).trans (Ent.to ⟨Z,Z,Z,Z,Z,Z,aj⟩ Z),by omega,by omega⟩
 refine ac (af ?_)
 have hj:bI (a.code.getD i default)=true:=by simpa using z25
 have hja:=fi hix (w4.1 hj)
 have hfi:=mo hA.code hja
 refine ag Z (jf [27,25,5,6,22,19,1,2,4,16,17,18] Z (bc (HS.makeMap O Z Z Z Z) Z (aA ?_)))
 refine aA ?_
 refine ag Z (jf [8,7,25,5,6,22,19,1,2,4,16,17,18] Z (jn (aa ?_)))
 obtain⟨f,hf⟩: ∃f:Nat,cF a (a.code.getD i default).a=f:=⟨(cF a (a.code.getD i default).a).toNat,by omega⟩
 refine bu ⟨[(1,ptr a.data),(2,.c (.pt 2 0 0)),(4,.c (.pt 4 0 0)),(16,cn a.code),(17,eI a.code.length),(18,eI i),(5,eI i),(6,.c (.pt 6 0 0)),(7,eI (f:Nat))],[(2,.box [.d .nils,.d .nils,.d .nils,.d .nils]),(4,.box [.rs 901 0 a.pre.length,.rs 902 0 a.post.length,.rs 903 0 (cp a).code.length,.rs 904 0 a.pts.length]),(901,bA a.pre),(902,bA a.post),(903,.row true 2 ((e6 (fq a) a.code i).map In.cells)),(904,cK a.pts),(6,.box [.d (.int .i64 (a.code.getD i default).op),.d (.int .i64 (a.code.getD i default).a)])]⟩ ?_ ?_
 refine ah (al (X:=Nat×Nat) (fun y=>⟨[(1,ptr a.data),(2,.c (.pt 2 0 0)),(4,.c (.pt 4 0 0)),(16,cn a.code),(17,eI a.code.length),(18,eI i),(5,eI i),(6,.c (.pt 6 0 0)),(7,eI (y.2:Nat)),(8,.c (.mp 28))],[(2,.box [.d .nils,.d .nils,.d .nils,.d .nils]),(4,.box [.rs 901 0 a.pre.length,.rs 902 0 a.post.length,.rs 903 0 (cp a).code.length,.rs 904 0 a.pts.length]),(901,bA a.pre),(902,bA a.post),(903,.row true 2 ((e6 (fq a) a.code i).map In.cells)),(904,cK a.pts),(6,.box [.d (.int .i64 (a.code.getD i default).op),.d (.int .i64 (a.code.getD i default).a)]),(28,mN (pX a (a.code.getD i default).a y.1))]⟩) (fun y=>di a y.1 (a.code.getD i default).a=(y.2:Nat)∧(∀k,k<y.1→eK a (di a k (a.code.getD i default).a)=true)∧(∀p q,p<q→q<y.1→di a p (a.code.getD i default).a≠di a q (a.code.getD i default).a)) (fun y=>a.code.length-y.1) (0,(a.code.getD i default).a.toNat) ((aq [2,4,901,902,903,904,6,28] (e':=[(1,_),(2,_),(4,_),(16,_),(17,_),(18,_),(5,_),(6,_),(7,_),(8,_)]) Z Z ⟨Z,Z,Z,Z,Z,Z,Z,Z,Z,Z,aj⟩ Z).trans (Ent.to ⟨Z,Z,Z,Z,Z,Z,Z,Z,congrArg (fun z=>some (eI z)) (Int.toNat_of_nonneg hja.1).symm,Z,aj⟩ Z)) ?_ (fun y hi1=>?_))
 exact⟨(Int.toNat_of_nonneg hja.1).symm,fun k hk=>absurd hk (Nat.not_lt_zero k),fun p q _ hq=>absurd hq (Nat.not_lt_zero q)⟩
 refine aa (af (bb Z ?_))
 first|refine bP Z ?_|refine js Z ?_|refine aR Z Z ?_
 refine jf [32,29,1,2,4,16,17,18,5,6,7,8] Z (ba Z ((u9 (k:=((y.2:Nat):Int)) (n:=a.code.length) h1 h2 (by omega)).plain (u:=eB (decide (((y.2:Nat):Int)<a.code.length))) (congrArg eB pM)) 34000 Z (js Z (jf [34,1,2,4,16,17,18,5,6,7,8] Z (aX 7 Z Z Z (fun hx=>aF hx Z (aF hx Z (aF hx Z (ed hx (vN Z) Z (aF hx Z (aF hx Z (aF hx Z (AN.nil)))))))) Z Z ?_))))
 first|refine ak (aI O Z Z Z Z Z) Z ?_|refine ak (aK O Z Z Z Z Z) Z ?_|refine ak (Val.pickB O Z Z Z Z Z) Z ?_
 refine js Z (jf [43,1,2,4,16,17,18,5,6,7,8] Z (aX 4 Z Z Z (fun hx=>aF hx Z (aF hx Z (cd O hx Z Z Z Z (p9 (a:=a) (k:=((y.2:Nat):Int)) h1 h2) (ae Z) Z Z Z Z Z Z Z (B0:=47000) Z (ed hx ((V Z).cast (v':=eB (!cT a.pts y.2)) (congrArg eB iE)) Z (AN.nil))))) Z Z ?_))
 first|refine ak (aI O Z Z Z Z Z) Z ?_|refine ak (aK O Z Z Z Z Z) Z ?_|refine ak (Val.pickB O Z Z Z Z Z) Z ?_
 refine jf [48,1,2,4,16,17,18,5,6,7,8] Z (jn (ao Z (fun z48=>?_) (fun z48=>?_)))
 refine ac (ah (aa (af (ag Z (ak ((nN (kt:=2) (et:=4) (q:=.i64) (z:=.bool false) (es:=pX a (a.code.getD i default).a y.1) (k:=((y.2:Nat):Int)) O Z Z Z yz yA zKb Z Z Z Z).cast (v':=eB (ui a (a.code.getD i default).a y.1 y.2)) (congrArg (fun d=>A.c (.d d)) tm)) Z (jf [51,48,1,2,4,16,17,18,5,6,7,8] Z (jn (ao Z (fun z51=>?_) (fun z51=>?_)))))))))
 refine af (bb Z (jf [7,51,48,1,2,4,16,17,18,5,6,8] Z (jn (aM ?_))))
 obtain⟨k,hk,hke⟩:=tl z51
 have hJ:eK a ((y.2:Nat):Int)=true:=by rw[←iB];exact z48
 have hcc:=mU (a:=a) (z:=(a.code.getD i default).a) hk (hke.trans hi1.1.symm) (fun q hq=>hi1.2.1 q hq)
 have hff:(a.code.getD i default).a=(f:Nat):=by rw[←hf];exact(gG hcc).symm
 exact⟨Z,(aq [2,4,901,902,903,904,6] (e':=[(1,_),(2,_),(4,_),(16,_),(17,_),(18,_),(5,_),(6,_),(7,_)]) Z Z ⟨Z,Z,Z,Z,Z,Z,Z,Z,Z,aj⟩ Z).trans (Ent.to ⟨Z,Z,Z,Z,Z,Z,Z,Z,congrArg (fun z=>some (eI z)) hff,aj⟩ Z)⟩
 refine ac (af (ag Z (bc (HS.mapUpdate (kt:=2) (et:=4) (q:=.i64) (es:=pX a (a.code.getD i default).a y.1) (k:=((y.2:Nat):Int)) (v:=.bool true) O Z Z Z Z yz yA Z Z Z Z Z) Z (aA ?_))))
 refine aA ?_
 refine jf [51,48,1,2,4,16,17,18,5,6,7,8] Z (jn (ab (ag Z ?_)))
 have hJ:eK a ((y.2:Nat):Int)=true:=by rw[←iB];exact z48
 have hyl:y.2<a.code.length:=by have:=(eh hJ).2.1;omega
 have hyo:(a.code.getD y.2 default).op=5:=by have h9:=(eh hJ).2.2.1;rwa[Int.toNat_natCast]at h9
 have hya:=fi (hA.code _ (gc hyl)) (.inl hyo)
 refine js Z ?_
 first|refine fO Z Z ?_|refine er Z Z ?_|refine aR Z Z ?_
 refine bb Z (jf [7,51,48,1,2,4,16,17,18,5,6,8] Z (jn ?_))
 obtain⟨hg,hgn⟩:=uH z51
 obtain⟨q1,q2,q3⟩:=hi1
 have hup:=tv (a:=a) (z:=(a.code.getD i default).a) (m:=y.1) (by rw[q1];exact hg)
 rw[q1]at hup
 have p2: ∀k,k<y.1+1→eK a (di a k (a.code.getD i default).a)=true:=fun k hk=>by
  rcases Nat.lt_or_ge k y.1 with h9|h9
  ·
   exact q2 k h9
  ·
   rw[show k=y.1 by omega,q1];exact hJ
 have p3: ∀p q,p<q→q<y.1+1→di a p (a.code.getD i default).a≠di a q (a.code.getD i default).a:=fun p q hpq hq=>by
  rcases Nat.lt_or_ge q y.1 with h9|h9
  ·
   exact q3 p q hpq h9
  ·
   rw[show q=y.1 by omega,q1];exact hgn p (by omega)
 have hmm:=ky p2 p3
 refine⟨(y.1+1,(a.code.getD y.2 default).a.toNat),(aq [2,4,901,902,903,904,6,28] (e':=[(1,_),(2,_),(4,_),(16,_),(17,_),(18,_),(5,_),(6,_),(7,_),(8,_)]) Z Z ⟨Z,Z,Z,Z,Z,Z,Z,Z,Z,Z,aj⟩ Z).trans (Ent.to ⟨Z,Z,Z,Z,Z,Z,Z,Z,congrArg (fun z=>some (eI z)) (Int.toNat_of_nonneg hya.1).symm,Z,aj⟩ (by rw[hup];rfl)),⟨?_,p2,p3⟩,by show a.code.length-(y.1+1)<a.code.length-y.1;omega⟩
 show di a (y.1+1) (a.code.getD i default).a=(((a.code.getD y.2 default).a.toNat:Nat):Int)
 rw[Int.toNat_of_nonneg hya.1,rT,q1]
 show(a.code.getD ((y.2:Nat):Int).toNat default).a=_
 rw[Int.toNat_natCast]
 refine aM ?_
 have hJ:eK a (di a y.1 (a.code.getD i default).a)=false:=by rw[hi1.1,←iB];exact z48
 have hff:((y.2:Nat):Int)=(f:Nat):=by rw[←hf,uK hi1.2.1 hi1.2.2 hJ,hi1.1]
 exact⟨Z,(aq [2,4,901,902,903,904,6] (e':=[(1,_),(2,_),(4,_),(16,_),(17,_),(18,_),(5,_),(6,_),(7,_)]) Z Z ⟨Z,Z,Z,Z,Z,Z,Z,Z,Z,aj⟩ Z).trans (Ent.to ⟨Z,Z,Z,Z,Z,Z,Z,Z,congrArg (fun z=>some (eI z)) hff,aj⟩ Z)⟩
 refine af (bp Z (jf [65,1,2,4,16,17,18,5,6,7] Z (aX 5 Z Z Z (fun hx=>aF hx Z (aF hx Z (aF hx Z (ed hx (bK O Z Z Z Z Z Z Z Z) Z (cd O hx Z Z Z Z ((u9 (k:=(f:Int)) (n:=a.code.length) h1 h2 (by omega)).plain (u:=eB (decide ((f:Int)<a.code.length))) (congrArg eB pM)) (ae Z) Z Z Z Z Z Z Z (B0:=71000) Z (AN.nil)))))) Z Z ?_)))
 first|refine ak (aI O Z Z Z Z Z) Z ?_|refine ak (aK O Z Z Z Z Z) Z ?_|refine ak (Val.pickB O Z Z Z Z Z) Z ?_
 refine js Z (jf [72,1,2,4,16,17,18,5,6,7] Z (aX 7 Z Z Z (fun hx=>aF hx Z (aF hx Z (aF hx Z (ed hx (ax O Z Z Z Z Z Z Z Z (bJ (wo hx))) Z (aF hx Z (aF hx Z (aF hx Z (AN.nil)))))))) Z Z ?_))
 first|refine ak (aI O Z Z Z Z Z) Z ?_|refine ak (aK O Z Z Z Z Z) Z ?_|refine ak (Val.pickB O Z Z Z Z Z) Z ?_
 refine js Z (jf [81,1,2,4,16,17,18,5,6,7] Z (aX 4 Z Z Z (fun hx=>aF hx Z (aF hx Z (cd O hx Z Z Z Z (p9 (a:=a) (k:=(f:Int)) h1 h2) (ae Z) Z Z Z Z Z Z Z (B0:=85000) Z (ed hx ((V Z).cast (v':=eB (!cT a.pts f)) (congrArg eB iE)) Z (AN.nil))))) Z Z ?_))
 first|refine ak (aI O Z Z Z Z Z) Z ?_|refine ak (aK O Z Z Z Z Z) Z ?_|refine ak (Val.pickB O Z Z Z Z Z) Z ?_
 refine jf [86,1,2,4,16,17,18,5,6,7] Z (jn (ao Z (fun z86=>?_) (fun z86=>?_)))
 refine ab (bp Z (ak (c6 O Z Z (by omega)) Z (jf [91,90,86,1,2,4,16,17,18,5,6,7] Z (bc (bl (ex:=(a.code.getD i default).cells) (xs':=(e6 (fq a) a.code (i+1)).map In.cells) O Z Z Z Z Z Z Z Z Z Z Z Z Z Z (cE hil (by simp)) (ge hil (by simp) (by rw[mS hj hf (pg ▸ z86)];rfl))) Z (aA ?_)))))
 refine aA ?_
 refine jf [86,1,2,4,16,17,18,5,6,7] Z (jn (ab ?_))
 first|refine ji Z ?_|refine aR Z Z ?_
 refine js Z (jn ?_)
 refine⟨i+1,(aq [2,4,901,902,903,904] (e':=[(1,_),(2,_),(4,_),(16,_),(17,_),(18,_)]) Z Z ⟨Z,Z,Z,Z,Z,Z,aj⟩ Z).trans (Ent.to ⟨Z,Z,Z,Z,Z,Z,aj⟩ Z),by omega,by omega⟩
 refine ab (bp Z (ak (c6 O Z Z (by omega)) Z (js Z (jf [97,95,86,1,2,4,16,17,18,5,6,7] Z (bc (bl (ex:=(a.code.getD i default).cells) (xs':=(e6 (fq a) a.code (i+1)).map In.cells) O Z Z Z Z Z Z Z Z Z Z Z Z Z Z (cE hil (by simp)) (ge hil (by simp) (by rw[mR hj hf (pg ▸ z86)];rfl))) Z (aA ?_))))))
 refine aA ?_
 refine jf [86,1,2,4,16,17,18,5,6,7] Z (jn (ab ?_))
 first|refine ji Z ?_|refine aR Z Z ?_
 refine js Z (jn ?_)
 refine⟨i+1,(aq [2,4,901,902,903,904] (e':=[(1,_),(2,_),(4,_),(16,_),(17,_),(18,_)]) Z Z ⟨Z,Z,Z,Z,Z,Z,aj⟩ Z).trans (Ent.to ⟨Z,Z,Z,Z,Z,Z,aj⟩ Z),by omega,by omega⟩
 refine aM (af ?_)
 obtain rfl:i=a.code.length:=by have:=cS z19;omega
 rw[iA]
 refine js Z (jo Z (aA ?_))
 refine js Z (jr ?_)
 refine⟨.inl Z,_,bt,_,Z,[901,902,903,904],by decide,Z,Z,Z⟩
set_option maxHeartbeats 8000000
theorem sB{p q r s:Bool}(h:(bif (bif (bif p then q else false)then r else false)then s else false)=true):p=true:=by
 cases p
 cases h
 rfl
theorem uR(hv:bB a=true)(hL:1048576<L):MQ h1 h2 7 [aAn a] [] (Rows (.tup [gM (e7 a),eB true]) (jd (e7 a))):=by
 refine bd (jB 39 h1 h2 Tryz.func7 Z fun O hF=>?_)
 have h80:=(w6.1 hv).2.2.1
 have h1c:=(w6.1 hv).2.1
 refine af (jx Z (aA ?_))
 refine bw (Ent.freeze 1 (e':=[(1,_),(0,_)]) Z (.cons Z (.c (.box (cs:=a.data) Z (aV Z))) (fe [0] Z)) (.skip .nil)) ?_
 refine aA ?_
 refine jf [1] Z (jl Z (aA ?_))
 refine js Z (jn (aa (af (js Z (ba Z ((va (a:=a) h1 h2).plain (u:=eB true) (by rw[hv])) 8000 Z (js Z (jf [8,3,2,1] Z (jn (ao Z (fun z8=>?_) (fun z8=>?_))))))))))
 cases z8
 refine ac (af (js Z (jf [10,3,2,1] Z (aC O (B0:=12000) Z Z Z Z (vj (a:=a) h1 h2 (by omega) (by omega)) (ae Z) Z Z Z Z Z Z (aA ?_)))))
 refine jf [11,3,2,1] Z (jl Z (aA ?_))
 refine jo Z (aA ?_)
 refine jn (ah (al (X:=An) (fun b=>⟨[(2,.c (.pt 2 0 0)),(4,.c (.pt 4 0 0))],[(2,.box [.d .nils,.d .nils,.d .nils,.d .nils]),(4,.box [.rs 901 0 b.pre.length,.rs 902 0 b.post.length,.rs 903 0 b.code.length,.rs 904 0 b.pts.length]),(901,bA b.pre),(902,bA b.post),(903,cQ b.code),(904,cK b.pts)]⟩) (fun b=>bB b=true∧e7 b=e7 a) (fun b=>qR b) a ((((((aq [2,4,12000,12001,12002,12003] (e':=[(2,_),(4,_)]) Z Z ⟨Z,Z,aj⟩ Z).trans (am 12000 901 Z Z)).trans (am 12001 902 Z Z)).trans (am 12002 903 Z Z)).trans (am 12003 904 Z Z)).trans (Ent.to ⟨Z,Z,aj⟩ Z)) ?_ (fun b hi=>?_)))
 exact⟨hv,Z⟩
 refine ah (af ?_)
 obtain⟨hb,hE⟩:=hi
 have v1:=n8 hb
 have v2:=(mq v1).1
 have v3:=(ke (cm _) v2).1
 have v4:=(gb hb).1
 refine js Z (aP O Z Z Z Z (uc (a:=b) h1 h2 hb hL) (.cons (.agg (.cons (.whole Z (aQ _).symm) (.cons (.whole Z (aQ _).symm) (.cons (.whole Z (aQ _).symm) (.cons (.whole Z (aQ _).symm) .nil))))) .nil) Z Z Z Z Z (B0:=14000) Z (js Z (jf [5,2,4] Z (bm (js Z (aC O (B0:=17000) Z Z Z Z (uP (a:=b) h1 h2 hb) (.cons (.agg (.cons (.whole Z (aQ _).symm) (.cons (.whole Z (aQ _).symm) (.cons (.whole Z (aQ _).symm) (.cons (.whole Z (aQ _).symm) .nil))))) .nil) Z Z Z Z Z Z (aA ?_)))))))
 refine bb Z (jf [17,5,2,4] Z (jo Z (aA ?_)))
 refine bm (js Z (aC O (B0:=22000) Z Z Z Z (uZ (a:=(cp b)) h1 h2 v1) (.cons (.agg (.cons (.whole Z (aQ _).symm) (.cons (.whole Z (aQ _).symm) (.cons (.whole Z (aQ _).symm) (.cons (.whole Z (aQ _).symm) .nil))))) .nil) Z Z Z Z Z Z (aA ?_)))
 refine bb Z (jf [22,17,5,2,4] Z (jo Z (aA ?_)))
 refine bm (js Z (aC O (B0:=27000) Z Z Z Z (xY (a:=(c8 (cp b))) h1 h2 v2) (.cons (.agg (.cons (.whole Z (aQ _).symm) (.cons (.whole Z (aQ _).symm) (.cons (.whole Z (aQ _).symm) (.cons (.whole Z (aQ _).symm) .nil))))) .nil) Z Z Z Z Z Z (aA ?_)))
 refine bb Z (jf [27,22,17,5,2,4] Z (jo Z (aA ?_)))
 refine bm (js Z (aC O (B0:=32000) Z Z Z Z (uO (a:=(bT (c8 (cp b)))) h1 h2 v3) (.cons (.agg (.cons (.whole Z (aQ _).symm) (.cons (.whole Z (aQ _).symm) (.cons (.whole Z (aQ _).symm) (.cons (.whole Z (aQ _).symm) .nil))))) .nil) Z Z Z Z Z Z (aA ?_)))
 refine bb Z (jf [32,27,22,17,5,2,4] Z (jo Z (aA ?_)))
 refine bm ?_
 rw[show qS (bT (c8 (cp b)))=ct b from Z]
 refine js Z (aP O Z Z Z Z (uc (a:=ct b) h1 h2 v4 hL) (.cons (.agg (.cons (.whole Z (aQ _).symm) (.cons (.whole Z (aQ _).symm) (.cons (.whole Z (aQ _).symm) (.cons (.whole Z (aQ _).symm) .nil))))) .nil) Z Z Z Z Z (B0:=36000) Z (js Z (ak (Val.seq (p:=ga (ct b)) (q:=ga b) O Z Z Z Z Z Z) Z (jf [37,32,27,22,17,2,4] Z (jn (ao Z (fun z37=>?_) (fun z37=>?_)))))))
 refine af (js Z (jo Z (aA ?_)))
 refine js Z (jr ?_)
 have hq:ct b=b:=(m4 hb).1 (bZ z37)
 have ho:e7 a=ct b:=by rw[←hE,na hq,hq]
 rw[ho]
 refine⟨.inl Z,_,bt,_,Z,[32000,32001,32002,32003],by decide,Z,Z,Z⟩
 refine ac ?_
 have hne:ct b≠b:=fun e=>absurd ((m4 hb).2 e) (cS z37)
 refine⟨ct b,(((((aq [2,4,32000,32001,32002,32003] (e':=[(2,_),(4,_)]) Z Z ⟨Z,Z,aj⟩ Z).trans (am 32000 901 Z Z)).trans (am 32001 902 Z Z)).trans (am 32002 903 Z Z)).trans (am 32003 904 Z Z)).trans (Ent.to ⟨Z,Z,aj⟩ Z),⟨v4,(nb hb hne).trans hE⟩,oY hb hne⟩
theorem uS(hv:bB a=false):MQ h1 h2 7 [aAn a] [] (Rows (.tup [.agg [.d .nils,.d .nils,.d .nils,.d .nils],eB false]) []):=by
 refine bd (jB 39 h1 h2 Tryz.func7 Z fun O hF=>?_)
 refine af (jx Z (aA ?_))
 refine bw (Ent.freeze 1 (e':=[(1,_),(0,_)]) Z (.cons Z (.c (.box (cs:=a.data) Z (aV Z))) (fe [0] Z)) (.skip .nil)) ?_
 refine aA ?_
 refine jf [1] Z (jl Z (aA ?_))
 refine js Z (jn (aa (af (js Z (ba Z ((va (a:=a) h1 h2).plain (u:=eB false) (by rw[hv])) 8000 Z (js Z (jf [8,3,2,1] Z (jn (ao Z (fun z8=>?_) (fun z8=>?_))))))))))
 refine af (js Z (jf [9,3,2,1] Z (jo Z (aA ?_))))
 refine js Z (jr ?_)
 refine⟨.inl Z,_,bt,_,Z,[],by decide,Z,Z,Z⟩
 cases z8
theorem wA(hv:bB a=true):MQ h1 h2 15 [ptr a.data] [] (Rows (gM (e7 a)) (jd (e7 a))):=by
 refine bd (jB 42 h1 h2 Tryz.func15 Z fun O hF=>?_)
 have h80:=(w6.1 hv).2.2.1
 have h1c:=(w6.1 hv).2.1
 refine af (jl Z (aA ?_))
 refine bm (js Z (jf [8,2] Z (aC O (B0:=10000) Z Z Z Z (qb (a:=a) h1 h2) (ae Z) Z Z Z Z Z Z (aA ?_))))
 refine jf [9,2] Z (jl Z (aA ?_))
 refine jo Z (aA ?_)
 refine jn (ah (al (X:=An) (fun b=>⟨[(2,.c (.pt 2 0 0)),(3,.c (.pt 3 0 0))],[(2,.box [.d .nils,.d .nils,.d .nils,.d .nils]),(3,.box [.rs 901 0 b.pre.length,.rs 902 0 b.post.length,.rs 903 0 b.code.length,.rs 904 0 b.pts.length]),(901,bA b.pre),(902,bA b.post),(903,cQ b.code),(904,cK b.pts)]⟩) (fun b=>bB b=true∧e7 b=e7 a) (fun b=>qR b) a ((((((aq [2,3,10000,10001,10002,10003] (e':=[(2,_),(3,_)]) Z Z ⟨Z,Z,aj⟩ Z).trans (am 10000 901 Z Z)).trans (am 10001 902 Z Z)).trans (am 10002 903 Z Z)).trans (am 10003 904 Z Z)).trans (Ent.to ⟨Z,Z,aj⟩ Z)) ?_ (fun b hi=>?_)))
 exact⟨hv,Z⟩
 refine ah (af ?_)
 obtain⟨hb,hE⟩:=hi
 have v1:=n8 hb
 have v2:=(mq v1).1
 have v3:=(ke (cm _) v2).1
 have v4:=(gb hb).1
 refine aC O (B0:=11000) Z Z Z Z (wz (a:=b) h1 h2 hb) (.cons (.c (.pb Z (.cons (.whole Z (aQ _).symm) (.cons (.whole Z (aQ _).symm) (.cons (.whole Z (aQ _).symm) (.cons (.whole Z (aQ _).symm) .nil)))))) .nil) Z Z Z Z Z Z (aA ?_)
 refine jl Z (aA ?_)
 refine jo Z (aA ?_)
 refine bm (aC O (B0:=12000) Z Z Z Z (wX (a:=(cp b)) h1 h2 (eF v1)) (.cons (.c (.pb Z (.cons (.whole Z (aQ _).symm) (.cons (.whole Z (aQ _).symm) (.cons (.whole Z (aQ _).symm) (.cons (.whole Z (aQ _).symm) .nil)))))) .nil) Z Z Z Z Z Z (aA ?_))
 refine jl Z (aA ?_)
 refine jo Z (aA ?_)
 refine bm (aC O (B0:=13000) Z Z Z Z (c68 (a:=(c8 (cp b))) h1 h2 (eF v2)) (.cons (.c (.pb Z (.cons (.whole Z (aQ _).symm) (.cons (.whole Z (aQ _).symm) (.cons (.whole Z (aQ _).symm) (.cons (.whole Z (aQ _).symm) .nil)))))) .nil) Z Z Z Z Z Z (aA ?_))
 refine jl Z (aA ?_)
 refine jo Z (aA ?_)
 refine bm (aC O (B0:=14000) Z Z Z Z (wy (a:=(bT (c8 (cp b)))) h1 h2 v3) (.cons (.c (.pb Z (.cons (.whole Z (aQ _).symm) (.cons (.whole Z (aQ _).symm) (.cons (.whole Z (aQ _).symm) (.cons (.whole Z (aQ _).symm) .nil)))))) .nil) Z Z Z Z Z Z (aA ?_))
 refine jl Z (aA ?_)
 refine jo Z (aA ?_)
 refine jn (aa (af ?_))
 rw[show qS (bT (c8 (cp b)))=ct b from Z]
 refine bp Z (jf [17,15,7,13,6,12,5,11,4,10,2,3] Z (aP O Z Z Z Z (o9 (xs:=(ct b).code) (ys:=b.code) h1 h2) (.cons (.c (.whole Z (aQ _).symm)) (.cons (.c (.whole Z (aQ _).symm)) .nil)) Z Z Z Z Z (B0:=19000) Z (js Z (jf [19,7,13,6,12,5,11,4,10,2,3] Z (aX 5 Z Z Z (fun hx=>aF hx Z (aF hx Z (aF hx Z (aF hx Z (cd O hx Z Z Z Z (o9 (xs:=(cp b).code) (ys:=b.code) h1 h2) (.cons (.c (.whole Z (aQ _).symm)) (.cons (.c (.whole Z (aQ _).symm)) .nil)) Z Z Z Z Z Z Z (B0:=25000) Z (AN.nil)))))) Z Z ?_)))))
 first|refine ak (aI O Z Z Z Z Z) Z ?_|refine ak (aK O Z Z Z Z Z) Z ?_|refine ak (Val.pickB O Z Z Z Z Z) Z ?_
 refine js Z (jf [26,7,13,6,12,5,11,4,10,2,3] Z (aX 5 Z Z Z (fun hx=>aF hx Z (aF hx Z (aF hx Z (aF hx Z (cd O hx Z Z Z Z (o9 (xs:=(c8 (cp b)).code) (ys:=b.code) h1 h2) (.cons (.c (.whole Z (aQ _).symm)) (.cons (.c (.whole Z (aQ _).symm)) .nil)) Z Z Z Z Z Z Z (B0:=32000) Z (AN.nil)))))) Z Z ?_))
 first|refine ak (aI O Z Z Z Z Z) Z ?_|refine ak (aK O Z Z Z Z Z) Z ?_|refine ak (Val.pickB O Z Z Z Z Z) Z ?_
 refine js Z (jf [33,7,13,6,12,5,11,4,10,2,3] Z (aX 5 Z Z Z (fun hx=>aF hx Z (aF hx Z (aF hx Z (aF hx Z (cd O hx Z Z Z Z (o9 (xs:=(bT (c8 (cp b))).code) (ys:=b.code) h1 h2) (.cons (.c (.whole Z (aQ _).symm)) (.cons (.c (.whole Z (aQ _).symm)) .nil)) Z Z Z Z Z Z Z (B0:=39000) Z (AN.nil)))))) Z Z ?_))
 first|refine ak (aI O Z Z Z Z Z) Z ?_|refine ak (aK O Z Z Z Z Z) Z ?_|refine ak (Val.pickB O Z Z Z Z Z) Z ?_
 refine jf [39,7,13,6,12,5,11,4,10,2,3] Z (jn (ao Z (fun z39=>?_) (fun z39=>?_)))
 refine af (js Z (jo Z (aA ?_)))
 refine jr ?_
 have hq:=(kB hb (bZ (sB z39))).1
 have ho:e7 a=ct b:=by rw[←hE,na hq,hq]
 rw[ho]
 refine⟨.inl Z,_,bt,_,Z,[14000,14001,14002,14003],by decide,Z,Z,Z⟩
 refine ac (ab (js Z (jo Z (aA ?_))))
 refine jn ?_
 have hne:ct b≠b:=fun e=>by
  obtain⟨_,e1,e2,e3⟩:=kB hb (by rw[e])
  have w1:(cp b).code=b.code:=by rw[e1]
  have w2:(c8 (cp b)).code=b.code:=by rw[e1,e2]
  have w3:(bT (c8 (cp b))).code=b.code:=by rw[e1,e2,e3]
  have w0:(ct b).code=b.code:=by rw[e]
  rw[decide_eq_true w0,decide_eq_true w1,decide_eq_true w2,decide_eq_true w3]at z39
  cases z39
 refine⟨ct b,(((((aq [2,3,14000,14001,14002,14003] (e':=[(2,_),(3,_)]) Z Z ⟨Z,Z,aj⟩ Z).trans (am 14000 901 Z Z)).trans (am 14001 902 Z Z)).trans (am 14002 903 Z Z)).trans (am 14003 904 Z Z)).trans (Ent.to ⟨Z,Z,aj⟩ Z),⟨v4,(nb hb hne).trans hE⟩,oY hb hne⟩
theorem uQ{L:Nat}(h1:4096≤L)(h2:L≤1073741824){a:An}(hv:bB a=true):MC Tryz.prog L 15 [ptr a.data] [] (Plain (aAn (e7 a))):=(wA h1 h2 hv).frozen (.v (.agg (.cons (.whole rfl (aQ _).symm) (.cons (.whole rfl (aQ _).symm) (.cons (.whole rfl (aQ _).symm) (.cons (.whole rfl (aQ _).symm) .nil))))))
theorem uT(hv:bB a=true):MQ h1 h2 5 [aAn a] [] (Plain (.tup [aAn (e7 a),eB true])):=by
 refine MC.data (jB 8 h1 h2 Tryz.func5 Z fun O hF=>?_)
 refine af (jx Z (aA ?_))
 refine bw (Ent.freeze 1 (e':=[(1,_),(0,_)]) Z (.cons Z (.c (.box (cs:=a.data) Z (aV Z))) (fe [0] Z)) (.skip .nil)) ?_
 refine aA ?_
 refine jf [1] Z (jl Z (aA ?_))
 refine js Z (jn (aa (af (ba Z ((yM (a:=a) h1 h2).plain (u:=eB true) (by rw[hv])) 5000 Z (js Z (jn (ao Z (fun z5=>?_) (fun z5=>?_))))))))
 cases z5
 refine ac (af (cj O Z Z Z Z (uQ (a:=a) h1 h2 hv) (ae Z) Z Z Z Z (B0:=8000) Z Z (jf [7,4,3,2,1] Z (jo Z (aA ?_)))))
 refine js Z (jr ?_)
 refine aD Z ?_
 exact .tup (.cons (.agg (aV Z)) (.cons (.c .d) .nil))
theorem uU(hv:bB a=false):MQ h1 h2 5 [aAn a] [] (Plain (.tup [aAn ⟨[],[],[],[]⟩,eB false])):=by
 refine MC.data (jB 8 h1 h2 Tryz.func5 Z fun O hF=>?_)
 refine af (jx Z (aA ?_))
 refine bw (Ent.freeze 1 (e':=[(1,_),(0,_)]) Z (.cons Z (.c (.box (cs:=a.data) Z (aV Z))) (fe [0] Z)) (.skip .nil)) ?_
 refine aA ?_
 refine jf [1] Z (jl Z (aA ?_))
 refine js Z (jn (aa (af (ba Z ((yM (a:=a) h1 h2).plain (u:=eB false) (by rw[hv])) 5000 Z (js Z (jn (ao Z (fun z5=>?_) (fun z5=>?_))))))))
 refine af (js Z (jf [6,4,3,2,1] Z (jo Z (aA ?_))))
 refine js Z (jr ?_)
 refine aD Z ?_
 exact .tup (.cons (.agg (.cons .nils (.cons .nils (.cons .nils (.cons .nils .nil))))) (.cons (.c .d) .nil))
 cases z5
end Go.Al
