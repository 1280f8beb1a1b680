/- The functions of the law. -/
import Derived.Test.YtnnbiajhcolfiaaGreatE
import Derived.Test.YtnnbiajhcolfiaaGreatG
import Derived.Test.YtnnbiajhcolfiaaGreatR
set_option linter.unusedVariables false
set_option linter.unusedSimpArgs false
set_option maxRecDepth 10000
set_option maxHeartbeats 4000000
open Go.Proofs
namespace Go.Al
variable {L : Nat} (h1 : 4096 ≤ L) (h2 : L ≤ 1073741824)
theorem ox {s : Sx} (h : sa s = true) : ck s.vars 4 = true := by
 unfold sa at h
 cases ha : ck s.vars 4 with
 | true => rfl
 | false => rw [ha] at h; simp at h
variable {vars : List Int}
theorem vv {t : Tm} (h : t.term = true) (hv : ck vars 4 = true) : MQ h1 h2 13 [cT t, cz vars] [] (Plain (eI (aT t vars))) := by
 refine aY ?_ Z
 refine jB 35 h1 h2 Tryz.func13 Z Z Z fun O hF => ?_
 have ht := lC h
 have hs := dV hv
 have hlen : t.xs.length ≤ vars.length := by omega
 refine ag (jx O Z (js O Z (bn (j3 O Z Z Z (jf [5,4,2,0,1] Z (jn (ah (ag (js O Z (jn (aq (aH (X := Nat) (fun i => ⟨[(1, cz vars), (2, .c (.pt 2 0 0)), (5, eI (t.c + dS (t.xs.take i) (vars.take i))), (6, eI i)], [(2, .box [.d (.int .i64 t.c), .d (cG t.xs)])]⟩) (fun i => i ≤ t.xs.length) (fun i => t.xs.length - i) 0 (Ent.to ⟨Z, Z, by show some (eI t.c) = _; simp [dS], Z, trivial⟩ Z) ?_ (fun i hi => ?_)))))))))))))
 exact dF _
 refine ah (ag (j3 O Z Z Z ?_))
 first | refine eK O Z ?_ | refine js O Z ?_ | refine fI O Z Z ?_
 refine j2 O Z Z (jf [14,1,2,5,6] Z (aw 4 Z Z Z (fun hx => ab hx Z Z Z (V O Z) Z Z ( ab hx Z Z Z (V O Z) Z Z ( ab hx Z Z Z (b9 O Z Z Z Z Z Z Z Z) Z Z ( ab hx Z Z Z (V O Z) Z Z ( AN.nil))))) Z Z ?_))
 first | refine aa (ar O Z Z Z Z Z) Z Z Z ?_ | refine aa (bi O Z Z Z Z Z) Z Z Z ?_ | refine aa (Val.pickB O Z Z Z Z Z) Z Z Z ?_
 refine jf [19,1,2,5,6] Z (jn (ae O Z Z (fun hc19 => ?_) (fun hc19 => ?_)))
 refine ak (ah (aq ?_))
 obtain ⟨hb1, hb2⟩ := AL hc19
 have hi2 := bz hb1
 have hd := ng ht.2.1 hs.1 hi (Nat.le_trans hi hlen)
 have hds := gS (xs := t.xs) (ys := vars) (i := i) (by omega) (by omega)
 have hn := zy.1 ht.1
 have hm := nd (zy.1 (List.all_eq_true.1 ht.2.1 _ (List.getElem_mem (show i < t.xs.length by omega)))) (zD.1 (List.all_eq_true.1 hs.1 _ (List.getElem_mem (show i < vars.length by omega))))
 rw [← aM (show i < t.xs.length by omega), ← aM (show i < vars.length by omega)] at hm
 refine fc O [_,_,_,_,_,_,_,_,_,_,_,_,_] [pn [] 0 0, pn [] 0 0, pn [1] 0 0, pn [] 0 0, pn [1,2,3] 0 0, pn (rg 1 4) 0 0, pn [] 0 0, pn [] 0 0, pn [6,7] 0 0, pn [6,7,8] 0 0, pn (rg 1 9) 0 0, pn (rg 0 11) 0 0, pn (rg 0 12) 0 0] [] [_] (kc O Z (kc O Z (kc O Z (kc O Z (ai (vN O Z) (kc O Z (kc O Z (kc O Z (ai (vN O Z) (kc O Z (ai (bc O Z Z (Int.le_trans (by decide) hm.1) (Int.le_trans hm.2 (by decide))) (ai (bc O Z Z (show (-9223372036854775808 : Int) ≤ t.c + dS (t.xs.take i) (vars.take i) + t.xs.getD i default * vars.getD i default by omega) (show t.c + dS (t.xs.take i) (vars.take i) + t.xs.getD i default * vars.getD i default ≤ 9223372036854775807 by omega)) (kc O Z trivial))))))))))))) ?_
 refine jw [5,19,1,2,6] Z (bK ?_)
 refine an (js O Z ?_)
 first | refine ji O Z ?_ | refine fI O Z Z ?_
 refine js O Z (jf [6,5,19,1,2] Z (jn ?_))
 refine ⟨i + 1, Ent.to ⟨Z, Z, ?_, Z, trivial⟩ Z, by omega, by omega⟩
 exact congrArg (fun z => some (eI z)) (by rw [hds]; show t.c + dS (t.xs.take i) (vars.take i) + t.xs.getD i default * vars.getD i default = _; omega)
 refine bH (ag (j2 O Z Z (jr ?_)))
 refine ⟨.inl Z, _, av, _, Z, ?_⟩
 have hn := zp hc19
 obtain rfl : i = t.xs.length := by
  rcases Nat.lt_or_ge i t.xs.length with hlt | hge
  exact absurd ⟨decide_eq_true (by omega), decide_eq_true (by omega)⟩ hn
  omega
 rw [lj (cN _)]; rfl
theorem y7 {ts : List Tm} (ht : ∀ t ∈ ts, t.term = true) (hv : ck vars 4 = true) : MQ h1 h2 11 [cW ts, cz vars] [] (Plain (eB (dg ts vars))) := by
 refine aY ?_ Z
 refine jB 19 h1 h2 Tryz.func11 Z Z Z fun O hF => ?_
 have hl : ts.length ≤ L := by have := hF; simp [As.fact, A.fact, M.fact, D.fact, Ds.fact] at this; omega
 refine ag (js O Z (jn (ah (ag (js O Z (jn (aq (aH (X := Nat) (fun i => ⟨[(0, cW ts), (1, cz vars), (5, eI i)], []⟩) (fun i => i ≤ ts.length ∧ ∀ j, j < i → 0 ≤ aT (ts.getD j default) vars) (fun i => ts.length - i) 0 (Ent.to ⟨Z, Z, Z, trivial⟩ Z) ?_ (fun i hi => ?_)))))))))
 exact ⟨dF _, fun j hj => absurd hj (Nat.not_lt_zero j)⟩
 refine ah (ag (j2 O Z Z ?_))
 first | refine eK O Z ?_ | refine js O Z ?_ | refine fI O Z Z ?_
 refine js O Z (jf [9,0,1,5] Z (jn (ae O Z Z (fun hc9 => ?_) (fun hc9 => ?_))))
 try simp only [cf] at hc9
 refine ak (ah (aq (ag (j2 O Z Z ?_))))
 first | refine r6 O Z Z ?_ | refine pq O Z Z ?_ | refine fI O Z Z ?_
 refine j2 O Z Z (jf [16,15,9,0,1,5] Z (aB O Z Z Z Z (vv (t := ts.getD i default) (vars := vars) h1 h2 (oo ht (by omega)) hv) (af Z) Z Z Z Z Z (B0 := 18000) Z (js O Z (jf [18,9,0,1,5] Z (jn (ae O Z Z (fun hc18 => ?_) (fun hc18 => ?_)))))))
 try simp only [cf] at hc18
 refine ag (js O Z (jr ?_))
 refine ⟨.inl Z, _, av, _, Z, ?_⟩
 rw [qW (i := i) (by omega) (by simpa using hc18)]
 try simp only [cf] at hc18
 refine ak (an (js O Z ?_))
 first | refine ji O Z ?_ | refine fI O Z Z ?_
 refine js O Z (jf [5,18,9,0,1] Z (jn ?_))
 refine ⟨i + 1, Ent.to ⟨Z, Z, Z, trivial⟩ Z, ⟨by omega, fun j hj => ?_⟩, by omega⟩
 rcases Nat.lt_or_ge j i with h | h
 exact hi.2 j h
 obtain rfl : j = i := by omega
 have := hc18; simp at this; exact this
 try simp only [cf] at hc9
 refine bH (ag (js O Z (jr ?_)))
 refine ⟨.inl Z, _, av, _, Z, ?_⟩
 obtain rfl : i = ts.length := by omega
 rw [oH hi.2]
end Go.Al
