/- Instructions as text: written and read, walked. -/
import Derived.Test.YtdjlfclghdofoaaGreatDoorE
import Derived.Test.YtdjlfclghdofoaaGreatDoorD
import Derived.WalkKit
import Derived.Deep.QuietTactic
import Derived.BigQuiet
import Derived.Test.YtdjlfclghdofoaaGreatDoorH
import Derived.Lib.Join
import Derived.BigCall
set_option linter.unusedVariables false
set_option linter.unusedSimpArgs false
set_option maxRecDepth 10000
set_option maxHeartbeats 4000000
open Go.Proofs
/- The bytes of a package, in plain Lean. -/
namespace Go.Al
variable{L:Nat}(h1:4096≤L)(h2:L≤1073741824)
open Go.Lib
structure Pk where
  nm:bQ
  an:An
  pf:List (List Nd)
end Go.Al
/- A slice of texts, read in a world. -/
namespace Go.Al
variable{L:Nat}(h1:4096≤L)(h2:L≤1073741824)
open Go.Proofs Go.RowKit
theorem oz{L:Nat}{w:World}{ok:Nat→Prop}{m:Nat→Loc}{ls:List bQ}{v:Value}(h:RA L w ok m (.c (.d (strs ls))) v) :
    (ls=[]∧∃base cap,v= .slice base 0 cap)∨(∃b off cap,v= .slice (some ⟨b,off,none⟩) ls.length cap∧b<w.heap.size∧ls.length≤cap∧∀(j:Nat) s,ls[j]? = some s→w.cell? ⟨b,off+j,none⟩=some (.string (bS s))∧s.length≤L):=by
 cases h with
 | c h => cases h with
  | d h =>
    generalize hx:strs ls=x at h
    unfold strs at hx
    cases h with
    | slc0=>
      injection hx with h1 h2
      exact .inl ⟨List.map_eq_nil_iff.1 h2,_,_,Z⟩
    | slc h1 h2 h3 h4 h5 h6=>
      injection hx with e1 e2
      subst e1;subst e2
      rw[cV]at h1 h2 ⊢
      refine .inr ⟨_,_,_,Z,h5,h2,fun j s hj=>?_⟩
      have hf:(ls.map fun p=>[sD p]).flatten[j*1+0]? = some (sD s):=eH (sz:=1) h3 (e:=[sD s]) (by rw[List.getElem?_map,hj];rfl) Z
      rw[Nat.mul_one,Nat.add_zero]at hf
      obtain⟨u,hu,hr⟩:=h6.get rfl hf
      cases hr with
      | str hs=>exact⟨hu,by rw[bE]at hs;exact hs⟩
    | _=>cases hx
theorem lc(s:bQ):Lib.strCells (bS s)=Lib.byteCells s:=by
 unfold Lib.strCells Lib.byteCells
 rw[fQ]
variable{xs:List Int}
theorem tf{v:Int}:MQ h1 h2 139 [bt xs,eI v] [] (Plain (eI (ns (fun x=>decide (x=v)) xs))):=by
 refine aF ?_ Z
 refine jB 19 h1 h2 Tryz.func139 Z fun O hF=>?_
 have hl:xs.length≤L:=by simpa[As.fact,A.fact,M.fact,D.fact,Ds.fact]using hF.1.1
 refine ac (js Z (jn (aj (ac (js Z ?_)))))
 first|refine cW Z ?_|refine js Z ?_|refine bP Z Z ?_
 refine js Z (jn (au (aK (X:=Nat) (fun i=>⟨[(0,bt xs),(1,eI v),(6,bt xs),(7,eI xs.length),(8,eI i)],[]⟩) (fun i=>i≤xs.length∧∀j (h:j<xs.length),j<i→(fun x=>decide (x=v)) xs[j]=false) (fun i=>xs.length-i) 0 (Ent.to ⟨Z,Z,Z,Z,Z,aD⟩ Z) ?_ (fun i hi=>?_))))
 exact⟨fK _,fun j h hj=>absurd hj (Nat.not_lt_zero j)⟩
 refine ac (js Z (jn (aj (ab Z (fun z9=>?_) (fun z9=>?_)))))
 refine al (aj (au (ac ?_)))
 have hil:i<xs.length:=by have:=aB z9;omega
 refine aa Z (bc (bi Z (ae (bG O Z Z Z Z Z Z Z Z (gj hil)) Z (aa Z (jf [16,5,10,9,0,1,6,7,8] Z (jn (ab Z (fun z16=>?_) (fun z16=>?_))))))))
 refine ac (aa Z (jr ?_))
 refine aO Z ?_
 rw[aH hil]at z16
 rw[lB hil hi.2 (decide_eq_true (aB z16).symm)]
 refine al (ag ?_)
 first|refine ji Z ?_|refine bP Z Z ?_
 refine js Z (jn ?_)
 refine⟨i+1,Ent.to ⟨Z,Z,Z,Z,Z,aD⟩ Z,⟨by omega,fun j h hj=>?_⟩,by omega⟩
 by_cases e:j=i
 subst e;rw[aH h]at z16;exact decide_eq_false fun e=>bo z16 e.symm
 exact hi.2 j h (by omega)
 refine bL (ac (js Z (jr ?_)))
 refine aO Z ?_
 have h9:=bo z9
 rw[lA (fun j hj=>hi.2 j hj (by omega))]
theorem th{v:Int}:MQ h1 h2 109 [bt xs,eI v] [] (Plain (eB (xs.contains v))):=by
 refine aF ?_ Z
 refine jB 9 h1 h2 Tryz.func109 Z fun O hF=>?_
 refine ac (js Z (bc (aa Z (jf [6,5,4] Z (aS Z (tf (xs:=xs) (v:=v) h1 h2) 8000 Z (aa Z (jf [4] Z (jr ?_))))))))
 refine aO Z ?_
 refine congrArg eB (Eq.trans (oe (p:=fun x=>decide (x=v)) (l:=xs)) ?_)
 rw[List.contains_eq_any_beq]
 exact List.any_congr Z fun x=>decide_eq_decide.2 ⟨fun e=>e.symm,fun e=>e.symm⟩
theorem qw{x:Int}:MQ h1 h2 72 [eI x] [] (Plain (eB (jR x))):=by
 refine aF ?_ Z
 refine jB 6 h1 h2 Tryz.func72 Z fun O hF=>?_
 refine ac (js Z (bc (bg (da O Z Z Z Z Z Z Z Z Z Z Z) Z (ax ?_))))
 refine az (aI [3] (e':=[(0,_),(3,_)]) Z Z ⟨Z,Z,aD⟩ Z) (az (Ent.freeze 3 (e':=[(0,_),(3,_)]) Z (.cons Z (.keep Z) (.cons Z (.c (.row Z Z)) .nil)) (.skip .nil)) ?_)
 refine ax ?_
 refine js Z (jf [4,3] Z (aS Z (th (xs:=[0,1,2,4,5,6,9]) (v:=x) h1 h2) 6000 Z (js Z (jf [2] Z (jr ?_)))))
 refine aO Z ?_
 rfl
theorem nS:MQ h1 h2 73 [] [] (Plain (.c (.d (strs qH)))):=by
 refine MC.data (jB 2 h1 h2 Tryz.func73 Z fun O hF=>?_)
 refine ac (js Z (bc (bg (da O Z Z Z Z Z Z Z Z Z Z Z) Z (js Z (jr ?_)))))
 refine aO Z ?_
 exact .v (.c (.whole Z Z))
theorem rk{k:Nat}{a:Int}(hk:k<12)(ha: -1000000000≤a∧a≤1000000000):MQ h1 h2 33 [.agg [.d (.int .i64 (k:Nat)),.d (.int .i64 a)]] [] (Plain (fz (et (⟨(k:Int),a⟩:In)))):=by
 refine aF ?_ Z
 refine jB 21 h1 h2 Tryz.func33 Z fun O hF=>?_
 have hol:=mE (o:=(k:Int)) (by omega) (by omega)
 have hal:=mG ha
 have hkw:qH.getD k default=mQ (k:Int):=rfl
 refine ac (jx Z (ax ?_))
 refine az (Ent.freeze 1 (e':=[(1,_),(0,_)]) Z (.cons Z (.c (.box (cs:=[.int .i64 (k:Nat),.int .i64 a]) Z (aQ Z))) (fe [0] Z)) (.skip .nil)) ?_
 refine ax ?_
 refine js Z (jn (aj (ac (aa Z (jf [4,2,1,0] Z (aS Z (qw (x:=(k:Int)) h1 h2) 6000 Z (jn (ab Z (fun z5=>?_) (fun z5=>?_)))))))))
 refine aj (jw [4,1,0] Z (hZ [_,_,_,_,_,_,_,_,_,_,_] [pe [] 0,pn [] 0 2,pn [1] 0 2,pn [0,1,2] 1 2,pn (rg 0 4) 1 2,pn (rg 0 5) 1 2,pn [] 0 1,pn [6] 0 1,pe [0,6,7] 1,pn (rg 0 9) 2 2,pn (rg 0 10) 2 2] [0,8] [_,_,_] (ai (d9 O (B0:=7000) Z Z Z Z (nS h1 h2) (ak Z) Z Z Z Z Z) (ai (kc Z (kc Z (V Z))) (ai (kc Z (kc Z (V Z))) (ai (ai (bG O Z Z Z Z Z Z Z Z (show(qH.map fun p=>[sD p])[((k:Nat):Int).toNat]? = some [sD (qH.getD k default)]from gj (show k<qH.length from hk))) (bG O Z Z Z Z Z Z Z Z (show(qH.map fun p=>[sD p])[((k:Nat):Int).toNat]? = some [sD (qH.getD k default)]from gj (show k<qH.length from hk)))) (ai (kc Z (V Z)) (ai (ai (iH (p:=qH.getD k default) (q:=[32]) O Z Z Z Z Z Z (by rw[hkw];show(mQ (k:Int)).length+1≤L;omega) (by show L≤_;omega)) (iH (p:=qH.getD k default) (q:=[32]) O Z Z Z Z Z Z (by rw[hkw];show(mQ (k:Int)).length+1≤L;omega) (by show L≤_;omega))) (ai (kc Z (V Z)) (ai (kc Z (V Z)) (ai (k8 O (B0:=15000) Z Z Z Z (qy (n:=a) h1 h2 (by omega) (by omega)) (ak Z) Z Z Z Z Z) (ai (iH (p:=(qH.getD k default++[32])) (q:=Lib.itoa a) O Z Z Z Z Z Z (by rw[cC,hkw];show _+1+_≤L;omega) (by show L≤_;omega)) (kc Z trivial))))))))))) ?_))
 refine jw [2,4,1,0] Z (dK ?_)
 refine pm ?_
 refine aO Z ?_
 rw[show et (⟨(k:Int),a⟩:In)=qH.getD k default++[32]++Lib.itoa a from if_pos z5]
 refine al (aj (jw [4,1,0] Z (hZ [_,_,_,_,_,_] [pe [] 0,pn [] 0 1,pn [1] 0 1,pn [0,1,2] 1 1,pn (rg 0 4) 1 1,pn (rg 0 5) 1 1] [0] [_,_] (ai (d9 O (B0:=17000) Z Z Z Z (nS h1 h2) (ak Z) Z Z Z Z Z) (ai (kc Z (V Z)) (ai (kc Z (V Z)) (ai (bG O Z Z Z Z Z Z Z Z (show(qH.map fun p=>[sD p])[((k:Nat):Int).toNat]? = some [sD (qH.getD k default)]from gj (show k<qH.length from hk))) (kc Z (kc Z trivial)))))) ?_)))
 refine jw [2,4,1,0] Z (dK ?_)
 refine pm ?_
 refine aO Z ?_
 rw[show et (⟨(k:Int),a⟩:In)=qH.getD k default from if_neg (by simp[z5])]
theorem qx{L:Nat}(h1:4096≤L)(h2:L≤1073741824){x:In}(h:aw x=true):MC Tryz.prog L 33 [.agg (x.cells.map .d)] [] (Plain (fz (et x))):=by
 obtain⟨⟨ho0,ho1⟩,ha,_⟩:=f5 h
 obtain⟨op,a⟩:=x
 obtain⟨k,rfl⟩: ∃k:Nat,op=k:=⟨op.toNat,by simp only at ho0;omega⟩
 exact rk h1 h2 (by simp only at ho1;omega) ha
end Go.Al
/- What the program's withNewlines answers. -/
namespace Go.Al
variable{L:Nat}(h1:4096≤L)(h2:L≤1073741824)
open Go.Proofs Go.RowKit
set_option maxRecDepth 1000000
def uM:Value→Nat
  | .int _ n=>n.toNat
  | _=>0
theorem na{c:UInt8}{ls:List bQ}{i:Nat}(h:i<ls.length):ct c (ls.take (i+1))=ct c (ls.take i)++(ls[i]++[c]):=by
 rw[List.take_succ_eq_append_getElem h,iF];simp[ct]
theorem oP{c:UInt8}{ls:List bQ}{i:Nat}:(ct c (ls.take i)).length≤(ct c ls).length:=by
 conv=>rhs;rw[←List.take_append_drop i ls,iF]
 rw[cC];omega
theorem pQ{w:World}{base:Option Addr}{cap:Nat}{ls:List bQ}(hc: ∀(j:Nat) s,ls[j]? = some s→∃b off,base=some ⟨b,off,none⟩∧b<w.heap.size∧w.cell? ⟨b,off+j,none⟩=some (.string (bS s)))
    (hl:(ct 10 ls).length≤1073741824) (hn:ls.length≤1073741824) :
    Calls Tryz.prog 34 #[.slice base ls.length cap] w fun e w'=>e= .returned (.string (bS (ct 10 ls)))∧Below w.heap.size w w':=by
  go_enter Tryz.func34,Tryz.ntmps34
  go_wp2_with fail
  go_loopw [8] (fun v wr=> ∃i:Nat,v= .int .i64 i∧i≤ls.length∧Lib.IsBuilderF 124 5 w.heap.size w.heap.size (Lib.byteCells (ct 10 (ls.take i))) wr∧Below w.heap.size w wr) (fun v _=>ls.length-uM v)
  case atStart=>exact⟨0,rfl,fK _,Lib.IsBuilderF.of (Lib.fresh_isBuilder 124 5 w),(Below.refl _ w).alloc (cJ _) _⟩
  case round=>
    obtain⟨i,rfl,hi,hB,hbw⟩:=hrel
    by_cases hlt:i<ls.length
    · obtain⟨b,off,rfl,hb,hcell⟩:=hc i ls[i] (by simp[hlt])
      have hcw:wr.cell? ⟨b,off+i,none⟩=some (.string (bS ls[i])):=(Same.cell (show Same w wr b from hbw.block b hb)).trans hcell
      have hct:=na (c:=10) hlt
      have hcl:=congrArg List.length hct
      have hcp:=oP (c:=10) (ls:=ls) (i:=i+1)
      rw[cC,cC,gU]at hcl
      have hov: ¬9223372036854775807<(bS ls[i]).size+1:=by rw[bE];omega
      have hap:bS ls[i]++({data:= #[10]}:ByteArray)=bS (ls[i]++[10]):=ou _ _
      go_wp2_with fail
      refine(Tryz.Builder_WriteString_f w.heap.size w.heap.size _ _ wr hB (by rw[Lib.byteCells_length,bE,cC,gU];omega) hbw.size).mono fun e W1 ⟨he,k1,b1⟩=>?_
      subst he
      go_wp2_with fail
      go_roundw
      case rel=>
        refine⟨i+1,by simp,by omega,Or.inr ?_,hbw.trans b1⟩
        rw[hct,Lib.byteCells_append,←lc]
        exact k1
      case measure=>
        simp[uM]
        omega
    · obtain rfl:i=ls.length:=by omega
      rw[List.take_length]at hB
      go_wp2_with fail
      refine(Tryz.Builder_String_any_f w.heap.size w.heap.size _ wr hB hbw.size).mono fun e W1 ⟨he,_,b1⟩=>?_
      subst he
      go_wp2_with fail
      go_ret
      exact⟨Z,hbw.trans b1⟩
theorem tj{ls:List bQ}(hl:(ct 10 ls).length≤L)(hn:ls.length≤L):MQ h1 h2 34 [.c (.d (strs ls))] [] (Plain (fz (ct 10 ls))):=by
 refine ix ⟨_,_,Tryz.func34,by kernel_rfl,Z⟩ fun w ok m vs h0 h5=>?_
 cases h5 with
 | cons a1 a2=>
  cases a2
  have key: ∀{base cap},(∀(j:Nat) s,ls[j]? = some s→∃b off,base=some ⟨b,off,none⟩∧b<w.heap.size∧w.cell? ⟨b,off+j,none⟩=some (.string (bS s)))→Calls Tryz.prog 34 #[.slice base ls.length cap] w (jQ fun x w'=>Frame w w' []∧∀ok' m',(∀b,w.heap.size≤b→ok' b)→RA L w' ok' m' (fz (ct 10 ls)) x):=fun hc=>
   Calls.mono (pQ hc (by omega) (by omega)) fun e w' ⟨he,hw⟩=>by
    subst he
    exact⟨.of_below hw,fun ok' m' _=>.c (.d (.str (by show(bS _).size≤L;rw[bE];exact hl)))⟩
  rcases oz a1 with⟨rfl,base,cap,rfl⟩|⟨b,off,cap,rfl,hb,hcap,hc⟩
  exact key (fun j s h=>by cases h)
  exact key fun j s h=>⟨b,off,Z,hb,(hc j s h).1⟩
def rP:Option In→In×Bool
  | none=>(⟨0,0⟩,false)
  | some x=>(x,true)
abbrev aRI(r:Option In):A:=.tup [.agg ((rP r).1.cells.map .d),eB (rP r).2]
theorem sW(w:bQ):ns (fun v=>decide (v=w)) qH=jk w:=by
 unfold ns jk
 cases h:qH.findIdx? (fun v=>decide (v=w))with
 | none=>
  rw[if_neg]
  rw[List.findIdx?_eq_none_iff]at h
  rw[List.any_eq_true]
  rintro⟨v,h1,h2⟩
  rw[h v h1]at h2;cases h2
 | some i=>
  have h2:=List.findIdx?_eq_some_iff_findIdx_eq.1 h
  rw[if_pos,h2.2]
  have h3:qH.findIdx (fun v=>decide (v=w))<qH.length:=by omega
  exact List.any_eq_true.2 (List.findIdx_lt_length.1 h3)
theorem qn{s:bQ}:rC s=if aw ⟨jk (Lib.cut s [32]).1,if jR (jk (Lib.cut s [32]).1)=true then(lu (lm (Lib.cut s [32]).2.1)).1 else 0⟩=true∧et ⟨jk (Lib.cut s [32]).1,if jR (jk (Lib.cut s [32]).1)=true then(lu (lm (Lib.cut s [32]).2.1)).1 else 0⟩=s then some ⟨jk (Lib.cut s [32]).1,if jR (jk (Lib.cut s [32]).1)=true then(lu (lm (Lib.cut s [32]).2.1)).1 else 0⟩else none:=rfl
theorem tc{ws:List bQ}{w:bQ}:MQ h1 h2 78 [.c (.d (strs ws)),fz w] [] (Plain (eI (ns (fun v=>decide (v=w)) ws))):=by
 refine aF ?_ Z
 refine jB 19 h1 h2 Tryz.func78 Z fun O hF=>?_
 have hl:ws.length≤L:=by have h:=hF;simp only[As.fact,A.fact,M.fact,D.fact,cV]at h;exact h.1.1
 refine ac (js Z (jn (aj (ac (js Z ?_)))))
 first|refine cW Z ?_|refine js Z ?_|refine bP Z Z ?_
 refine js Z (jn (au (aK (X:=Nat) (fun i=>⟨[(0,.c (.d (strs ws))),(1,fz w),(6,.c (.d (strs ws))),(7,eI ws.length),(8,eI i)],[]⟩) (fun i=>i≤ws.length∧∀j (h:j<ws.length),j<i→(fun v=>decide (v=w)) ws[j]=false) (fun i=>ws.length-i) 0 (Ent.to ⟨Z,Z,Z,Z,Z,aD⟩ Z) ?_ (fun i hi=>?_))))
 exact⟨fK _,fun j h hj=>absurd hj (Nat.not_lt_zero j)⟩
 refine ac (js Z (jn (aj (ab Z (fun z9=>?_) (fun z9=>?_)))))
 refine al (aj (au (ac ?_)))
 have hil:i<ws.length:=by have:=aB z9;omega
 refine aa Z (bc (bi Z (ae (bG O Z Z Z Z Z Z Z Z (gj hil)) Z (js Z (ae (Val.seq (p:=w) (q:=ws.getD i default) O Z Z Z Z Z Z) Z (jf [16,5,10,9,0,1,6,7,8] Z (jn (ab Z (fun z16=>?_) (fun z16=>?_)))))))))
 refine ac (aa Z (jr ?_))
 refine aO Z ?_
 rw[aH hil]at z16
 rw[lB hil hi.2 (decide_eq_true (aB z16).symm)]
 refine al (ag ?_)
 first|refine ji Z ?_|refine bP Z Z ?_
 refine js Z (jn ?_)
 refine⟨i+1,Ent.to ⟨Z,Z,Z,Z,Z,aD⟩ Z,⟨by omega,fun j h hj=>?_⟩,by omega⟩
 by_cases e:j=i
 subst e;rw[aH h]at z16;exact decide_eq_false fun e=>bo z16 e.symm
 exact hi.2 j h (by omega)
 refine bL (ac (js Z (jr ?_)))
 refine aO Z ?_
 have h9:=bo z9
 rw[lA (fun j hj=>hi.2 j hj (by omega))]
theorem td{s:bQ}(hL:1048576<L)(hs:s.length≤1048576):MQ h1 h2 36 [fz s] [] (Plain (aRI (rC s))):=by
 refine MC.data (jB 38 h1 h2 Tryz.func36 Z fun O hF=>?_)
 refine ac (jl Z (ax ?_))
 refine js Z (bc (js Z (af O Z Z Z Z (tu (s:=s) (sep:=[32]) h1 h2) (ak Z) Z Z Z Z (B0:=11000) Z Z (js Z ?_))))
 obtain⟨F,hF0⟩: ∃F,F=(Lib.cut s [32]).1:=⟨_,rfl⟩
 obtain⟨G,hG0⟩: ∃G,G=(Lib.cut s [32]).2.1:=⟨_,rfl⟩
 have hcl:=mJ s [32]
 rw[←hF0,←hG0]at hcl
 rw[←hF0,←hG0]
 refine aE Z (aa Z (jf [5,4,3,2,0] Z (bc (af O Z Z Z Z (nS h1 h2) (ak Z) Z Z Z Z (B0:=15000) Z Z (js Z (jf [15,14,5,3,2,0] Z (aS Z (tc (ws:=qH) (w:=F) h1 h2) 17000 Z ?_)))))))
 rw[sW]
 refine js Z (jf [17,5,3,2,0] Z (jl Z (ax ?_)))
 refine jo Z (ax ?_)
 refine jn (aj (ac (aa Z (jf [19,7,17,5,3,2,0] Z (aS Z (qw (x:=jk F) h1 h2) 21000 Z (jn ?_))))))
 obtain⟨a,ha⟩: ∃a:Int,a=if jR (jk F)=true then(lu (lm G)).1 else 0:=⟨_,rfl⟩
 refine ig ⟨[(0,fz s),(2,.c (.pt 2 0 0)),(7,.c (.pt 7 0 0))],[(2,.box [.d (.int .i64 0),.d (.int .i64 0)]),(7,.box [.d (.int .i64 (jk F)),.d (.int .i64 a)])]⟩ ?_ ?_
 refine ab Z (fun z20=>?_) (fun z20=>?_)
 refine ag (js Z (jf [22,19,7,17,3,2,0] Z (af O Z Z Z Z (tm (s:=G) h1 h2 (by omega)) (ak Z) Z Z Z Z (B0:=24000) Z Z (aE Z (jf [26,24,19,7,17,3,2,0] Z (jo Z (ax ?_)))))))
 refine jf [19,7,17,3,2,0] Z (jn ?_)
 exact⟨Z,Ent.to ⟨Z,Z,Z,aD⟩ (by rw[ha,if_pos z20])⟩
 refine al ?_
 exact⟨Z,Ent.to ⟨Z,Z,Z,aD⟩ (by rw[ha,if_neg (by rw[z20];decide)])⟩
 refine aj (ac (js Z (aS Z (c168 (x:=(⟨jk F,a⟩:In)) h1 h2) 29000 Z (aa Z (jf [30,0,2,7] Z (bz 4 Z Z Z (fun hx=>ba hx Z (fY O hx Z Z Z Z (qx (x:=(⟨jk F,a⟩:In)) h1 h2 (by simpa using hx)) (ak Z) Z Z Z Z Z Z Z (B0:=33000) Z (ba hx Z (dz hx (mL (p:=et (⟨jk F,a⟩:In)) (q:=s) O Z Z Z Z Z Z) Z (AN.nil))))) Z Z ?_))))))
 first|refine ae (bq O Z Z Z Z Z) Z ?_|refine ae (Val.pickB O Z Z Z Z Z) Z ?_|refine ae (aU O Z Z Z Z Z) Z ?_
 refine jf [35,0,2,7] Z (jn (ab Z (fun z35=>?_) (fun z35=>?_)))
 refine ac (js Z (jf [36,0,2,7] Z (jo Z (ax ?_))))
 refine js Z (jr ?_)
 refine aO Z ?_
 have hno:rC s=none:=by rw[qn,←hF0,←hG0,←ha,if_neg];intro hh;revert z35;simp[hh.1,hh.2]
 rw[hno]
 exact .tup (.cons (.agg (aQ Z)) (.cons (.c .d) .nil))
 refine al (ac (js Z (jf [37,0,2,7] Z (jo Z (ax ?_)))))
 refine js Z (jr ?_)
 refine aO Z ?_
 have hyes:rC s=some (⟨jk F,a⟩:In):=by rw[qn,←hF0,←hG0,←ha,if_pos];revert z35;cases h7:aw (⟨jk F,a⟩:In)<;>simp
 rw[hyes]
 exact .tup (.cons (.agg (aQ Z)) (.cons (.c .d) .nil))
end Go.Al
