/- Names: the document's functions. -/
import Derived.Test.YtkhlmpkodjoioaaDoorMr
import Derived.Test.YtkhlmpkodjoioaaDoorTy
import Derived.Test.YtkhlmpkodjoioaaDoorEn
import Derived.Test.YtkhlmpkodjoioaaDoorNm
set_option linter.unusedVariables false
set_option linter.unusedSimpArgs false
set_option maxRecDepth 10000
namespace Go.Proofs.YtkhlmpkodjoioaaDoor
theorem letter_spec (b : UInt8) (w : World) : Spec Tryd.prog 75 [.int .u8 b.toNat].toArray w (fun v w' => Ext [] w w' ∧ v = .bool (isLet b)) := by
  refine Spec.intro Tryd.func75 rfl rfl (Nat.le_of_ble_eq_true rfl) (Mok.start w) ?_
  focus
    refine rsr ?_
    refine oy rfl (yas rfl) ?_
    refine on ?_
    refine pn ?_
    refine rsr ?_
    refine oy rfl (ymv rfl) ?_
    refine oy rfl (ybI rfl rfl rfl) ?_
    refine oy rfl (ymv rfl) ?_
    refine xd (g := 5) rfl (fun c1 => ?_) (fun c1 => ?_)
    refine oyg rfl rfl rfl (ymv rfl) ?_
    refine oyg rfl rfl rfl (ybI rfl rfl rfl) ?_
    refine oy rfl (ypT rfl rfl) ?_
    refine oy rfl (ymv rfl) ?_
    refine xd (g := 9) rfl (fun c2 => ?_) (fun c2 => ?_)
    refine ln rfl rfl rfl rfl ?_
    refine ln rfl rfl rfl rfl ?_
    refine ln rfl rfl rfl rfl ?_
    refine lu rfl rfl rfl ?_
    refine lu rfl rfl rfl ?_
    refine ln rfl rfl rfl rfl ?_
    refine oy rfl (ypT rfl rfl) ?_
    refine oy rfl (ymv rfl) ?_
    refine ln rfl rfl rfl rfl ?_
    refine ln rfl rfl rfl rfl ?_
    refine oy rfl (ypT rfl rfl) ?_
    refine oy rfl (ymv rfl) ?_
    refine ln rfl rfl rfl rfl ?_
    refine ln rfl rfl rfl rfl ?_
    refine oy rfl (ypT rfl rfl) ?_
    refine oy rfl (ymv rfl) ?_
    refine ln rfl rfl rfl rfl ?_
    refine ln rfl rfl rfl rfl ?_
    refine oy rfl (ypT rfl rfl) ?_
    refine oy rfl (yas rfl) ?_
    refine on ?_
    refine pn ?_
    refine rt ?_
    refine ret_ rfl (fun hM => ?_)
    rotate_left
    refine oyg rfl rfl rfl (ymv rfl) ?_
    refine oyg rfl rfl rfl (ybI rfl rfl rfl) ?_
    refine oyg rfl rfl rfl (ymv rfl) ?_
    refine xd (g := 12) rfl (fun c3 => ?_) (fun c3 => by exfalso; omega)
    refine oyg rfl rfl rfl (ymv rfl) ?_
    refine oyg rfl rfl rfl (ybI rfl rfl rfl) ?_
    refine oyg rfl rfl rfl (ypT rfl rfl) ?_
    refine oy rfl (ypF rfl rfl) ?_
    refine oy rfl (ymv rfl) ?_
    refine xd (g := 17) rfl (fun c4 => by exfalso; omega) (fun c4 => ?_)
    refine oyg rfl rfl rfl (ymv rfl) ?_
    refine oyg rfl rfl rfl (ybI rfl rfl rfl) ?_
    refine oy rfl (ypF rfl rfl) ?_
    refine oy rfl (ymv rfl) ?_
    refine xd (g := 21) rfl (fun c5 => by exfalso; omega) (fun c5 => ?_)
    refine oyg rfl rfl rfl (ymv rfl) ?_
    refine oyg rfl rfl rfl (ybI rfl rfl rfl) ?_
    refine oy rfl (ypF rfl rfl) ?_
    refine oy rfl (ymv rfl) ?_
    refine xd (g := 25) rfl (fun c6 => by exfalso; omega) (fun c6 => ?_)
    refine oyg rfl rfl rfl (ymv rfl) ?_
    refine oyg rfl rfl rfl (ybI rfl rfl rfl) ?_
    refine oy rfl (ypF rfl rfl) ?_
    refine oy rfl (yas rfl) ?_
    refine on ?_
    refine pn ?_
    refine rt ?_
    refine ret_ rfl (fun hM => ?_)
    rotate_left
    refine ln rfl rfl rfl rfl ?_
    refine ln rfl rfl rfl rfl ?_
    refine oy rfl (ypF rfl rfl) ?_
    refine oy rfl (ymv rfl) ?_
    refine oyg rfl rfl rfl (ymv rfl) ?_
    refine oyg rfl rfl rfl (ybI rfl rfl rfl) ?_
    refine oyg rfl rfl rfl (ymv rfl) ?_
    refine xd (g := 12) rfl (fun c7 => ?_) (fun c7 => ?_)
    refine oyg rfl rfl rfl (ymv rfl) ?_
    refine oyg rfl rfl rfl (ybI rfl rfl rfl) ?_
    refine oyg rfl rfl rfl (ypT rfl rfl) ?_
    refine oy rfl (ypF rfl rfl) ?_
    refine oy rfl (ymv rfl) ?_
    refine xd (g := 17) rfl (fun c8 => ?_) (fun c8 => ?_)
    refine ln rfl rfl rfl rfl ?_
    refine ln rfl rfl rfl rfl ?_
    refine oy rfl (ypT rfl rfl) ?_
    refine oy rfl (ymv rfl) ?_
    refine ln rfl rfl rfl rfl ?_
    refine ln rfl rfl rfl rfl ?_
    refine oy rfl (ypT rfl rfl) ?_
    refine oy rfl (ymv rfl) ?_
    refine ln rfl rfl rfl rfl ?_
    refine ln rfl rfl rfl rfl ?_
    refine oy rfl (ypT rfl rfl) ?_
    refine oy rfl (yas rfl) ?_
    refine on ?_
    refine pn ?_
    refine rt ?_
    refine ret_ rfl (fun hM => ?_)
    rotate_left
    refine oyg rfl rfl rfl (ymv rfl) ?_
    refine oyg rfl rfl rfl (ybI rfl rfl rfl) ?_
    refine oy rfl (ypF rfl rfl) ?_
    refine oy rfl (ymv rfl) ?_
    refine xd (g := 21) rfl (fun c9 => by exfalso; omega) (fun c9 => ?_)
    refine oyg rfl rfl rfl (ymv rfl) ?_
    refine oyg rfl rfl rfl (ybI rfl rfl rfl) ?_
    refine oy rfl (ypF rfl rfl) ?_
    refine oy rfl (ymv rfl) ?_
    refine xd (g := 25) rfl (fun c10 => ?_) (fun c10 => ?_)
    refine ln rfl rfl rfl rfl ?_
    refine ln rfl rfl rfl rfl ?_
    refine oy rfl (ypT rfl rfl) ?_
    refine oy rfl (yas rfl) ?_
    refine on ?_
    refine pn ?_
    refine rt ?_
    refine ret_ rfl (fun hM => ?_)
    rotate_left
    refine oyg rfl rfl rfl (ymv rfl) ?_
    refine oyg rfl rfl rfl (ybI rfl rfl rfl) ?_
    refine oy rfl (ypF rfl rfl) ?_
    refine oy rfl (yas rfl) ?_
    refine on ?_
    refine pn ?_
    refine rt ?_
    refine ret_ rfl (fun hM => ?_)
    rotate_left
    refine ln rfl rfl rfl rfl ?_
    refine ln rfl rfl rfl rfl ?_
    refine oyg rfl rfl rfl (ypF rfl rfl) ?_
    refine oy rfl (ypF rfl rfl) ?_
    refine oy rfl (ymv rfl) ?_
    refine oyg rfl rfl rfl (ymv rfl) ?_
    refine oyg rfl rfl rfl (ybI rfl rfl rfl) ?_
    refine oy rfl (ypF rfl rfl) ?_
    refine oy rfl (ymv rfl) ?_
    refine xd (g := 21) rfl (fun c11 => ?_) (fun c11 => ?_)
    refine ln rfl rfl rfl rfl ?_
    refine ln rfl rfl rfl rfl ?_
    refine oy rfl (ypT rfl rfl) ?_
    refine oy rfl (ymv rfl) ?_
    refine ln rfl rfl rfl rfl ?_
    refine ln rfl rfl rfl rfl ?_
    refine oy rfl (ypT rfl rfl) ?_
    refine oy rfl (yas rfl) ?_
    refine on ?_
    refine pn ?_
    refine rt ?_
    refine ret_ rfl (fun hM => ?_)
    rotate_left
    refine oyg rfl rfl rfl (ymv rfl) ?_
    refine oyg rfl rfl rfl (ybI rfl rfl rfl) ?_
    refine oy rfl (ypF rfl rfl) ?_
    refine oy rfl (ymv rfl) ?_
    refine xd (g := 25) rfl (fun c12 => by exfalso; omega) (fun c12 => ?_)
    refine oyg rfl rfl rfl (ymv rfl) ?_
    refine oyg rfl rfl rfl (ybI rfl rfl rfl) ?_
    refine oy rfl (ypF rfl rfl) ?_
    refine oy rfl (yas rfl) ?_
    refine on ?_
    refine pn ?_
    refine rt ?_
    refine ret_ rfl (fun hM => ?_)
    rotate_left
  all_goals refine ⟨hM.ext, ?_⟩
  all_goals simp only [ret1, isLet]
  all_goals congr 1
  all_goals first | exact (decide_eq_true (by omega)).symm | (rw [decide_eq_decide]; omega)

def labR (s : List UInt8) (T base : Nat) (v : Value) (w : World) : Prop :=
  match labels s with
  | some l => ∃ sv, v = .tuple #[sv, .int .i64 0] ∧ Own ES w base T sv l
  | none => v = .tuple #[.slice none 0 0, .int .i64 14]
theorem labR_none {s : List UInt8} {T base : Nat} {w : World} (h : labels s = none) : labR s T base (ret1 [.slice none 0 0, .int .i64 14]) w := by unfold labR; rw [h]; rfl
theorem labR_some {s : List UInt8} {T base : Nat} {w : World} {v : Value} {l : List (List UInt8)} (h : labels s = some l) (ho : Own ES w base T v l) : labR s T base (ret1 [v, .int .i64 0]) w := by unfold labR; rw [h]; exact ⟨v, rfl, ho⟩
theorem DocLabels_spec (s : List UInt8) (w : World) (hs : s.length ≤ 4294967296) : Spec Tryd.prog 40 [.string (sOf s)].toArray w (fun v w' => Ext [] w w' ∧ labR s 9 w.heap.size v w') := by
  refine Spec.intro Tryd.func40 rfl rfl (Nat.le_of_ble_eq_true rfl) (Mok.start w) ?_
  focus
    refine rsr ?_
    refine oy rfl (yas rfl) ?_
    refine oy rfl (yas rfl) ?_
    refine on ?_
    refine pn ?_
    refine rs_ ?_
    refine rsr ?_
    refine oy rfl (ymv rfl) ?_
    refine oy rfl (ybE rfl rfl) ?_
    refine on ?_
    refine pn ?_
    refine rcd rfl (fun c1 => ?_) (fun c1 => ?_)
    refine rsr ?_
    refine oy rfl (yas rfl) ?_
    refine oy rfl (yas rfl) ?_
    refine on ?_
    refine pn ?_
    refine rt ?_
    refine pr ?_
    refine ret_ rfl (fun hM => ?_)
    rotate_left
    refine rk ?_
    refine pn ?_
    refine rsr ?_
    refine oy rfl (yas rfl) ?_
    refine on ?_
    refine pn ?_
    refine rsr ?_
    refine oy rfl (yas rfl) ?_
    refine on ?_
    refine pn ?_
    refine rs_ ?_
    refine rsr ?_
    refine oy rfl (yas rfl) ?_
    refine on ?_
    refine pn ?_
    refine rb ?_
    rotate_left
  · refine ⟨hM.ext, ?_⟩
    exact labR_some (l := []) (by unfold labels; rw [if_pos c1]) (Own.nil ..)
  · have h0 := c1
    have hlab : ∀ r, scan [] [] s = r → r = none ∨ s = [] ∨ 254 < s.length → labels s = none := fun r hr h => by
      unfold labels; rw [if_neg h0]; split
      · rfl
      · rename_i h1; rcases h with h | h | h
        · rw [hr, h]
        · exact absurd (.inl h) h1
        · exact absurd (.inr h) h1
    refine onil ES 9 ?_
    refine loop [4, 5, 6] [0] (fun vs H => ∃ (out : List (List UInt8)) (ov : Value) (f i : Nat), vs = [ov, .int .i64 f, .int .i64 i] ∧ H = [ow ES 9 ov out] ∧ f ≤ i ∧ i ≤ s.length ∧ out.length ≤ i ∧
      scan [] [] s = scan ((s.take i).drop f) out (s.drop i)) (fun vs => s.length - intAt vs 2) rfl rfl (List.Sublist.refl _) ⟨[], _, 0, 0, rfl, rfl, Nat.le_refl _, Nat.zero_le _, Nat.le_refl _, by simp⟩ ?_
    rintro _ _ w' ⟨out, ov, f, i, rfl, rfl, hfi, hil, hol, hsc⟩
    focus
      refine rs_ ?_
      refine rsr ?_
      refine oy rfl (ymv rfl) ?_
      refine oy rfl (ymv rfl) ?_
      refine oy rfl (yln rfl) ?_
      refine oy rfl (ybI rfl rfl rfl) ?_
      refine on ?_
      refine pn ?_
      refine rcd rfl (fun c1 => ?_) (fun c1 => ?_)
      refine rk ?_
      refine pn ?_
      refine rs_ ?_
      refine rb ?_
      refine rsr ?_
      refine oy rfl (ymv rfl) ?_
      refine oy rfl (ymv rfl) ?_
      refine oy rfl (ysiN rfl rfl (by omega)) ?_
      refine oy rfl (ybI rfl rfl rfl) ?_
      refine on ?_
      refine pn ?_
      refine rcd rfl (fun c2 => ?_) (fun c2 => ?_)
      refine rs_ ?_
      refine rsr ?_
      refine oy rfl (ymv rfl) ?_
      refine oy rfl (ymv rfl) ?_
      refine oy rfl (ybI rfl rfl rfl) ?_
      refine oy rfl (ymv rfl) ?_
      refine xd (g := 22) rfl (fun c3 => ?_) (fun c3 => ?_)
      refine ln rfl rfl rfl rfl ?_
      refine ln rfl rfl rfl rfl ?_
      refine ln rfl rfl rfl rfl ?_
      refine ln rfl rfl rfl rfl ?_
      refine oy rfl (ypT rfl rfl) ?_
      refine on ?_
      refine pn ?_
      refine rcT rfl ?_
      refine rsr ?_
      refine oy rfl (yas rfl) ?_
      refine oy rfl (yas rfl) ?_
      refine on ?_
      refine pn ?_
      refine rt ?_
      refine pr ?_
      refine pbr ?_
      refine pr ?_
      refine pr ?_
      refine pbr ?_
      refine pr ?_
      refine ret_ rfl (fun hM => ?_)
      rotate_left
      refine oyg rfl rfl rfl (ymv rfl) ?_
      refine oyg rfl rfl rfl (ymv rfl) ?_
      refine oyg rfl rfl rfl (ybW rfl rfl rfl (by omega)) ?_
      refine oyg rfl rfl rfl (ybI rfl rfl rfl) ?_
      refine oy rfl (ypF rfl rfl) ?_
      refine on ?_
      refine pn ?_
      refine rcd rfl (fun c4 => ?_) (fun c4 => ?_)
      refine rsr ?_
      refine oy rfl (yas rfl) ?_
      refine oy rfl (yas rfl) ?_
      refine on ?_
      refine pn ?_
      refine rt ?_
      refine pr ?_
      refine pbr ?_
      refine pr ?_
      refine pr ?_
      refine pbr ?_
      refine pr ?_
      refine ret_ rfl (fun hM => ?_)
      rotate_left
      refine rk ?_
      refine pn ?_
      refine rsr ?_
      refine oy rfl (ymv rfl) ?_
      refine oy rfl (ymv rfl) ?_
      refine oy rfl (ymv rfl) ?_
      refine oy rfl (ymv rfl) ?_
      refine oy rfl (ys3N rfl rfl rfl (by omega)) ?_
      refine l0 ?_
      refine oli ES [_] rfl rfl rfl rfl rfl (fun g1 w1 l1 => ?_)
      refine l0 ?_
      refine oapl 0 rfl rfl rfl rfl rfl rfl (by simp only [List.length_append, List.length_take, List.length_drop, List.length_cons, List.length_nil]; omega) rfl (fun v6 w6 => ?_)
      refine oy rfl (yas rfl) ?_
      refine on ?_
      refine pn ?_
      refine rr ?_
      refine oy rfl (ymv rfl) ?_
      refine oy rfl (ybW rfl rfl rfl (by omega)) ?_
      refine oy rfl (yas rfl) ?_
      refine on ?_
      refine pbn ?_
      refine pn ?_
      refine rr ?_
      refine oy rfl (ymv rfl) ?_
      refine oy rfl (ybW rfl rfl rfl (by omega)) ?_
      refine oy rfl (yas rfl) ?_
      refine on ?_
      refine pn ?_
      rotate_left
      refine rsr ?_
      refine oy rfl (ymv rfl) ?_
      refine oy rfl (ymv rfl) ?_
      refine oy rfl (ysiN rfl rfl (by omega)) ?_
      refine l0 ?_
      refine ocd rfl rfl (fun hM => letter_spec _ _) (fun w7 => ?_)
      refine oy rfl (yno rfl) ?_
      refine on ?_
      refine pn ?_
      refine rc rfl (fun c8 => ?_) (fun c8 => ?_)
      refine rsr ?_
      refine oy rfl (yas rfl) ?_
      refine oy rfl (yas rfl) ?_
      refine on ?_
      refine pn ?_
      refine rt ?_
      refine pbr ?_
      refine pr ?_
      refine pr ?_
      refine pbr ?_
      refine pr ?_
      refine ret_ rfl (fun hM => ?_)
      rotate_left
      refine rk ?_
      refine pbn ?_
      refine pn ?_
      refine rr ?_
      refine oy rfl (ymv rfl) ?_
      refine oy rfl (ybW rfl rfl rfl (by omega)) ?_
      refine oy rfl (yas rfl) ?_
      refine on ?_
      refine pn ?_
      rotate_left
      refine re ?_
      refine pe ?_
      refine pe ?_
      refine pbe ?_
      refine pn ?_
      refine rs_ ?_
      refine rsr ?_
      refine oy rfl (ymv rfl) ?_
      refine oy rfl (ymv rfl) ?_
      refine oy rfl (yln rfl) ?_
      refine oy rfl (ybI rfl rfl rfl) ?_
      refine oy rfl (ymv rfl) ?_
      refine xd (g := 46) rfl (fun c9 => ?_) (fun c9 => ?_)
      refine ln rfl rfl rfl rfl ?_
      refine ln rfl rfl rfl rfl ?_
      refine oy rfl (ypT rfl rfl) ?_
      refine oy rfl (ymv rfl) ?_
      refine ln rfl rfl rfl rfl ?_
      refine ln rfl rfl rfl rfl ?_
      refine ln rfl rfl rfl rfl ?_
      refine ln rfl rfl rfl rfl ?_
      refine oy rfl (ypT rfl rfl) ?_
      refine on ?_
      refine pn ?_
      refine rcT rfl ?_
      refine rsr ?_
      refine oy rfl (yas rfl) ?_
      refine oy rfl (yas rfl) ?_
      refine on ?_
      refine pn ?_
      refine rt ?_
      refine pr ?_
      refine ret_ rfl (fun hM => ?_)
      rotate_left
      refine oyg rfl rfl rfl (ymv rfl) ?_
      refine oyg rfl rfl rfl (ybE rfl rfl) ?_
      refine oy rfl (ypF rfl rfl) ?_
      refine oy rfl (ymv rfl) ?_
      refine xd (g := 50) rfl (fun c10 => ?_) (fun c10 => ?_)
      refine ln rfl rfl rfl rfl ?_
      refine ln rfl rfl rfl rfl ?_
      refine ln rfl rfl rfl rfl ?_
      refine ln rfl rfl rfl rfl ?_
      refine oy rfl (ypT rfl rfl) ?_
      refine on ?_
      refine pn ?_
      refine rcT rfl ?_
      refine rsr ?_
      refine oy rfl (yas rfl) ?_
      refine oy rfl (yas rfl) ?_
      refine on ?_
      refine pn ?_
      refine rt ?_
      refine pr ?_
      refine ret_ rfl (fun hM => ?_)
      rotate_left
      refine oyg rfl rfl rfl (ymv rfl) ?_
      refine oyg rfl rfl rfl (yln rfl) ?_
      refine oyg rfl rfl rfl (ybW rfl rfl rfl (by omega)) ?_
      refine oyg rfl rfl rfl (ybI rfl rfl rfl) ?_
      refine oy rfl (ypF rfl rfl) ?_
      refine on ?_
      refine pn ?_
      refine rcd rfl (fun c11 => ?_) (fun c11 => ?_)
      refine rsr ?_
      refine oy rfl (yas rfl) ?_
      refine oy rfl (yas rfl) ?_
      refine on ?_
      refine pn ?_
      refine rt ?_
      refine pr ?_
      refine ret_ rfl (fun hM => ?_)
      rotate_left
      refine rk ?_
      refine pn ?_
      refine rsr ?_
      refine oy rfl (ymv rfl) ?_
      refine oy rfl (yas rfl) ?_
      refine oy rfl (yas rfl) ?_
      refine on ?_
      refine pn ?_
      refine rt ?_
      refine ret_ rfl (fun hM => ?_)
      rotate_left
    · refine ⟨hM.ext, labR_none (hlab _ hsc (.inl ?_))⟩
      rw [scan_dot (by omega) (Int.ofNat_inj.1 c2), if_pos (by omega)]
    · refine ⟨hM.ext, labR_none (hlab _ hsc (.inl ?_))⟩
      rw [scan_dot (by omega) (Int.ofNat_inj.1 c2), if_pos (by omega)]
    · refine round (vs := [_, .int .i64 (i + 1 : Nat), .int .i64 (i + 1 : Nat)]) rfl rfl (List.Sublist.refl _) ⟨_, _, i + 1, i + 1, rfl, rfl, Nat.le_refl _, by omega, by simp; omega, ?_⟩ (by simp [intAt]; omega)
      rw [hsc, scan_dot (by omega) (Int.ofNat_inj.1 c2), if_neg (by omega), (cut_nil (by omega)).2 (Nat.le_refl _)]
    · refine ⟨hM.ext, labR_none (hlab _ hsc (.inl ?_))⟩
      rw [scan_let hfi (by omega) (fun h => c2 (by rw [h]; rfl)), if_neg (by simpa using c8)]
    · refine round (vs := [_, _, .int .i64 (i + 1 : Nat)]) rfl rfl (List.Sublist.refl _) ⟨out, ov, f, i + 1, rfl, rfl, by omega, by omega, by omega, ?_⟩ (by simp [intAt]; omega)
      rw [hsc, scan_let hfi (by omega) (fun h => c2 (by rw [h]; rfl)), if_pos (by simpa using c8)]
    · refine ⟨hM.ext, labR_none (hlab _ hsc (.inl ?_))⟩
      rw [scan_end (by omega), if_neg (by omega)]
    · exact ⟨hM.ext, labR_none (hlab _ hsc (.inr (.inl c10)))⟩
    · exact ⟨hM.ext, labR_none (hlab _ hsc (.inr (.inr (by omega))))⟩
    · refine ⟨hM.ext, labR_some (l := out) ?_ (hM.owned 0 rfl)⟩
      unfold labels
      rw [if_neg h0, if_neg (by intro h; rcases h with h | h; exact c10 h; omega), hsc, scan_end (by omega), if_pos (by omega)]
end Go.Proofs.YtkhlmpkodjoioaaDoor
