/- Contracts of the program's functions for po; the types of the arguments. -/
import Derived.Test.YtikejfdfkemmmaaE
import Derived.Test.YtikejfdfkemmmaaC
import Derived.Test.YtikejfdfkemmmaaRows
set_option linter.unusedVariables false
set_option linter.unusedSimpArgs false
set_option maxRecDepth 10000
set_option maxHeartbeats 4000000
open Go.Proofs
namespace Go.Al
variable {L : Nat} (h1 : 4096 ≤ L) (h2 : L ≤ 1073741824)
structure CS where
  all : List (List Tm)
  has : List Bool
  right : List Bool
  flaw : Int
structure CSok (p : List Nd) (k : Nat) (z : CS) : Prop where
  all : z.all.length = k
  has : z.has.length = k
  right : z.right.length = k
  flaw : -1 ≤ z.flaw ∧ z.flaw < k
  ctx : ∀ j, j < k → z.has.getD j default = true → CtxOk (z.all.getD j default)
  good : ∀ j, j < k → z.right.getD j default = true → z.has.getD j default = true ∧ ma (p.getD j default) (z.all.getD j default) = true
abbrev bL (b : Bool) : List D := [.bool b]
structure Con where
  all : List (List Tm)
  has : List Bool
  flaw : Int
  ok : Bool
theorem g2 {a b : Bool} : (bif !a then true else !b) = !(a && b) := by cases a <;> cases b <;> rfl
abbrev lL (bs : List Bool) : B := .row true 1 (bs.map bL)
theorem o0 {n : Int} : MQ h1 h2 31 [eI n] [] (Plain (eI n)) := by
 refine aI ?_ Z
 refine jB 4 h1 h2 Try.func31 Z Z Z fun O hF => ?_
 refine ac (js O Z (aW (j2 O Z Z (jr ?_))))
 refine ⟨.inl Z, _, ap, _, Z, ?_⟩
 first | rfl | skip
theorem nl {k : Int} {n : Nat} (hn : n ≤ 1073741824) : MQ h1 h2 20 [eI k, eI n] [] (Plain (eB (bW 0 ((n : Int) - 1) k))) := by
 refine aI ?_ Z
 refine jB 10 h1 h2 Try.func20 Z Z Z fun O hF => ?_
 refine ac (js O Z (aW (j2 O Z Z (af O Z Z Z Z (o0 (n := n) h1 h2) (ab Z) Z Z Z Z Z (B0 := 8000) Z ?_))))
 first | refine ji O Z ?_ | refine bm O Z Z ?_
 refine af O Z Z Z Z (eK h1 h2) (ab Z) Z Z Z Z Z (B0 := 10000) Z (js O Z (jr ?_))
 refine ⟨.inl Z, _, ap, _, Z, ?_⟩
 first | rfl | skip
inductive Pf where
  | close (n : Nd)
  | tight (n : Nd) (a : Pf)
  | split (n : Nd) (a b : Pf)
structure Ex where
  es : List (Int × List Tm)
  flaw : Int
def fl (b : Nat → Bool) : Nat → Nat → Int → Int
  | _, 0, f => f
  | k, n + 1, f => fl b (k + 1) n (if b k = true ∧ f < 0 then (k : Int) else f)
structure Eqs (p : List Nd) (c0 : List Tm) (H : Nat → Bool) (A : Nat → List Tm) (R : Nat → Bool) : Prop where
  h0 : 0 < p.length → H 0 = true ∧ A 0 = c0
  h : ∀ j, 0 < j → j < p.length → H j = R (oF p j j).1.toNat
  a : ∀ j, 0 < j → j < p.length → H j = true → A j = oB (p.getD (oF p j j).1.toNat default) (A (oF p j j).1.toNat) (oF p j j).2
  r : ∀ j, j < p.length → R j = (H j && ma (p.getD j default) (A j))
end Go.Al
/- What the laws of the certificates share: the types of their arguments; what came in reads as it did. -/
namespace Go.Proofs.Ytikejfdfkemmmaa
open Go.ChangeShapes Go.WideShapes Go.ChangeAt Go.RowKit Go.Al

theorem ownK : ownKnob Try.prog.godebug = none := by kernel_rfl
theorem kidsK : Kids Try.prog (· < Try.prog.types.size) := kids_rows (by kernel_rfl) (by kernel_rfl)
theorem fullK : ∀ t e, t < Try.prog.types.size → Try.prog.underlying t = some (.slice e) → 0 < Try.prog.cellsOf e := slices_full_of Try.prog (by kernel_rfl)

theorem fits_all {α : Type} {es : List Ty} {g : α → List D} (hg : ∀ e, FitsL es e → ∃ a, e = g a) : ∀ {xs : List (List D)}, FitsA es xs → ∃ ys : List α, xs = ys.map g
 | _, .nil => ⟨[], rfl⟩
 | _, .cons h1 h2 => by
  obtain ⟨a, rfl⟩ := hg _ h1
  obtain ⟨ys, rfl⟩ := fits_all hg h2
  exact ⟨a :: ys, Z⟩
theorem fits_one {t : Ty} {e : List D} (h : FitsL [t] e) : ∃ d, e = [d] ∧ Fits t d := by
 cases h with
 | cons a h => cases h; exact ⟨_, rfl, a⟩
theorem rdl_rms {L : Nat} {w : World} {ok : Nat → Prop} {m : Nat → Go.Al.Loc} : ∀ {ds : List D} {vs : List Value} {F : List Nat}, RDL L w ok ds vs F → F = [] → RMs L w ok m (ds.map .d) vs
 | _, _, _, .nil, _ => .nil
 | _, _, _, .cons (F1 := F1) (F2 := F2) h1 h2, hF => by
  obtain ⟨rfl, rfl⟩ := List.append_eq_nil_iff.1 hF
  exact .cons (.d h1) (rdl_rms h2 Z)
section
variable {H : Type} {enc : TypeId × Value → H} {P : Program} {w w' : World}
theorem m6 (hs : ∀ b, b < w.heap.size → Same w w' b) {p : MemPlace} (hp : p.block < w.heap.size) : w.sameAt w' p := by
 cases p with
 | cell b o => exact (hs b hp).cell
 | map b => exact hs b hp
theorem trodAll_same (hs : ∀ b, b < w.heap.size → Same w w' b) {base : Nat} {sp : Nat → Bool} {held : Bool} : ∀ {ts : List TypeId} {vs : List Value} {ds : List (DataW H)} {ps : List MemPlace}, (∀ p ∈ ps, p.block < w.heap.size) → DataW.TrodAll enc P w base sp held ts vs ds ps → DataW.TrodAll enc P w' base sp held ts vs ds ps
 | [], [], [], _, _, h => h
 | _ :: _, _ :: _, _ :: _, _, hl, ⟨p, q, ⟨n, h1⟩, h2, e⟩ =>
  ⟨p, q, ⟨n, DataW.trod_carry n _ _ _ h1 (fun x hx => m6 hs (hl x (by rw [e]; exact List.mem_append_left _ hx)))⟩, trodAll_same hs (fun x hx => hl x (by rw [e]; exact List.mem_append_right _ hx)) h2, e⟩
theorem j6 (hf : Go.Al.Frame w w' []) (may : MemPlace → Prop) : w.keptBut w' may := by
 refine ⟨hf.os, hf.output, fun i hi => ?_⟩
 have h := hf.block i hi (by simp)
 unfold Same at h
 rw [h]
 cases hx : w.heap[i]? with
 | none => trivial
 | some o =>
  cases o with
  | cells c t fr => exact ⟨Z, Z, Z, fun _ _ => rfl⟩
  | map es clock => exact .inr ⟨Z, Z⟩
  | _ => rfl
theorem j5 (hf : Go.Al.Frame w w' []) {a : Addr} (ha : a.block < w.heap.size) : w'.frozen? a = w.frozen? a := by
 have h := hf.block a.block ha (by simp)
 unfold Same at h
 unfold World.frozen?
 rw [h]
theorem post_of_old {f : Func} {s : ChangeSpec} {apart fresh handsOn again : Bool} {args : Array Value} {v : Value} {ds gs : List (DataW H)} {before pa pv : List MemPlace}
    (hW : DataW.Whole enc P f.params.toList s.vars apart w args.toList ds gs before)
    (hres : ∀ (b : Nat) (sp : Nat → Bool) (hd : Bool), DataW.TrodAll enc P w' b sp hd f.resultTypes.toList (v.resultList f.resultTypes.size) (s.fn H (ds ++ gs)).results [])
    (hargs : ∀ sp : Nat → Bool, (∀ p ∈ before, sp p.block = true) → DataW.TrodAll enc P w' 0 sp true f.params.toList args.toList (s.fn H (ds ++ gs)).args pa)
    (hvars : ∀ sp : Nat → Bool, (∀ p ∈ before, sp p.block = true) → DataW.TrodVars enc P w' sp s.vars (s.fn H (ds ++ gs)).vars pv)
    (hps : before = pa ++ pv) (hf : Go.Al.Frame w w' [])
    (hok : ∀ (j : Nat) (t : TypeId) (r : Value), f.resultTypes[j]? = some t → (v.resultList f.resultTypes.size)[j]? = some r → Value.okWide P w' .any 0 t r) :
    s.post enc P f apart fresh handsOn again w args v w' := by
 have hlt := hW.lt
 have hold : ∀ p ∈ before, (fun b => decide (b < w.heap.size)) p.block = true := fun p hp => by simpa using hlt p hp
 refine ⟨ds, gs, before, [], pa, pv, hW, hres _ _ _, hargs _ hold, hvars _ hold, World.keptBut_mono (fun p hp => ⟨hp, ?_⟩) (j6 hf (· ∈ before)), fun _ => ?_⟩
 rw [hps, List.mem_append] at hp
 exact Or.inr hp
 obtain ⟨_, _, _, _, _, hz, hn⟩ := hW
 refine ⟨hok, _, _, ([] ++ pa) ++ pv, ⟨[] ++ pa, pv, trodAll_append (hargs _ (fun _ _ => rfl)) (hres _ _ _), hvars _ (fun _ _ => rfl), Z, ?_, ?_⟩, ?_⟩
 intro b off hp
 have hp' : MemPlace.cell b off ∈ before := by rw [hps]; simpa using hp
 rw [j5 hf (hlt _ hp')]
 exact hz b off hp'
 intro ha
 have := hn ha
 rw [hps] at this
 simpa using this
 intro p hp _
 rw [hps]
 simpa using hp
end

end Go.Proofs.Ytikejfdfkemmmaa
