/- Messages: small functions of the program. -/
import Derived.Test.YtkhlmpkodjoioaaDoorN7
set_option linter.unusedVariables false
set_option linter.unusedSimpArgs false
set_option maxRecDepth 10000
namespace Go.Proofs.YtkhlmpkodjoioaaDoor
theorem within_spec (a l h : Int) (w : World) : Spec Tryd.prog 56 [.int .i64 a, .int .i64 l, .int .i64 h].toArray w (fun v w' => Ext [] w w' ∧ v = .bool (decide (l ≤ a ∧ a ≤ h))) := by
  refine Spec.intro Tryd.func56 rfl rfl (Nat.le_of_ble_eq_true rfl) (Mok.start w) ?_
  focus
    refine rsr ?_
    refine oy rfl (yas rfl) ?_
    refine on ?_
    refine pn ?_
    refine rsr ?_
    refine oy rfl (ymv rfl) ?_
    refine oy rfl (ymv rfl) ?_
    refine oy rfl (ybI rfl rfl rfl) ?_
    refine oy rfl (ymv rfl) ?_
    refine xd (g := 10) rfl (fun c1 => ?_) (fun c1 => ?_)
    refine oyg rfl rfl rfl (ymv rfl) ?_
    refine oyg rfl rfl rfl (ymv rfl) ?_
    refine oyg rfl rfl rfl (ybI rfl rfl rfl) ?_
    refine oy rfl (ypT rfl rfl) ?_
    refine oy rfl (yas rfl) ?_
    refine on ?_
    refine pn ?_
    refine rt ?_
    refine ret_ rfl (fun hM => ?_)
    rotate_left
    refine ln rfl rfl rfl rfl ?_
    refine ln rfl rfl rfl rfl ?_
    refine ln rfl rfl rfl rfl ?_
    refine oy rfl (ypF rfl rfl) ?_
    refine oy rfl (yas rfl) ?_
    refine on ?_
    refine pn ?_
    refine rt ?_
    refine ret_ rfl (fun hM => ?_)
    rotate_left
  all_goals
    refine ⟨hM.ext, ?_⟩
    simp only [ret1]
    congr 1
  · rw [decide_eq_decide]; omega
  · exact (decide_eq_false (by omega)).symm
def bitN (b : Bool) (n : Int) : Int := if b then n else 0
theorem bit_spec (b : Bool) (n : Int) (w : World) : Spec Tryd.prog 53 [.bool b, .int .i64 n].toArray w (fun v w' => Ext [] w w' ∧ v = .int .i64 (bitN b n)) := by
  refine Spec.intro Tryd.func53 rfl rfl (Nat.le_of_ble_eq_true rfl) (Mok.start w) ?_
  cases b
  · focus
      refine rsr ?_
      refine oy rfl (yas rfl) ?_
      refine on ?_
      refine pn ?_
      refine rs_ ?_
      refine rsr ?_
      refine oy rfl (ymv rfl) ?_
      refine on ?_
      refine pn ?_
      refine rcF rfl ?_
      refine rk ?_
      refine pn ?_
      refine rsr ?_
      refine oy rfl (yas rfl) ?_
      refine on ?_
      refine pn ?_
      refine rt ?_
      refine ret_ rfl (fun hM => ?_)
      rotate_left
    exact ⟨hM.ext, rfl⟩
  · focus
      refine rsr ?_
      refine oy rfl (yas rfl) ?_
      refine on ?_
      refine pn ?_
      refine rs_ ?_
      refine rsr ?_
      refine oy rfl (ymv rfl) ?_
      refine on ?_
      refine pn ?_
      refine rcT rfl ?_
      refine rsr ?_
      refine oy rfl (ymv rfl) ?_
      refine oy rfl (yas rfl) ?_
      refine on ?_
      refine pn ?_
      refine rt ?_
      refine pr ?_
      refine ret_ rfl (fun hM => ?_)
      rotate_left
    exact ⟨hM.ext, rfl⟩
theorem bit18_spec (b : Bool) (n : Int) (w : World) : Spec Tryd.prog 50 [.bool b, .int .i64 n].toArray w (fun v w' => Ext [] w w' ∧ v = .int .i64 (bitN b n)) := by
  refine Spec.intro Tryd.func50 rfl rfl (Nat.le_of_ble_eq_true rfl) (Mok.start w) ?_
  cases b
  · focus
      refine rsr ?_
      refine oy rfl (yas rfl) ?_
      refine on ?_
      refine pn ?_
      refine rs_ ?_
      refine rsr ?_
      refine oy rfl (ymv rfl) ?_
      refine on ?_
      refine pn ?_
      refine rcF rfl ?_
      refine rk ?_
      refine pn ?_
      refine rsr ?_
      refine oy rfl (yas rfl) ?_
      refine on ?_
      refine pn ?_
      refine rt ?_
      refine ret_ rfl (fun hM => ?_)
      rotate_left
    exact ⟨hM.ext, rfl⟩
  · focus
      refine rsr ?_
      refine oy rfl (yas rfl) ?_
      refine on ?_
      refine pn ?_
      refine rs_ ?_
      refine rsr ?_
      refine oy rfl (ymv rfl) ?_
      refine on ?_
      refine pn ?_
      refine rcT rfl ?_
      refine rsr ?_
      refine oy rfl (ymv rfl) ?_
      refine oy rfl (yas rfl) ?_
      refine on ?_
      refine pn ?_
      refine rt ?_
      refine pr ?_
      refine ret_ rfl (fun hM => ?_)
      rotate_left
    exact ⟨hM.ext, rfl⟩
theorem number_spec (n k : Nat) (w : World) (hk : k ≤ 8) (hn : n ≤ 9223372036854775807) : Spec Tryd.prog 49 [.int .i64 n, .int .i64 k].toArray w (fun v w' => Ext [] w w' ∧ v = .string (sOf (beN n k))) := by
  refine Spec.intro Tryd.func49 rfl rfl (Nat.le_of_ble_eq_true rfl) (Mok.start w) ?_
  focus
    refine rsr ?_
    refine oy rfl (yas rfl) ?_
    refine on ?_
    refine pn ?_
    refine rsr ?_
    refine oy rfl (yas rfl) ?_
    refine on ?_
    refine pn ?_
    refine rs_ ?_
    refine rsr ?_
    refine oy rfl (yas rfl) ?_
    refine on ?_
    refine pn ?_
    refine rb ?_
    rotate_left
  refine loop [0, 5, 6] [1] (fun vs H => ∃ (m i : Nat) (s : List UInt8), vs = [.int .i64 m, .string (sOf s), .int .i64 i] ∧ H = [] ∧ i ≤ k ∧ s.length = i ∧ beN n k = beN m (k - i) ++ s) (fun vs => k - intAt vs 2) rfl rfl (List.Sublist.refl _) ⟨n, 0, [], rfl, rfl, Nat.zero_le _, rfl, by simp⟩ ?_
  rintro _ _ w' ⟨m, i, s, rfl, rfl, hi, hsl, hbe⟩
  focus
    refine rs_ ?_
    refine rsr ?_
    refine oy rfl (ymv rfl) ?_
    refine oy rfl (ymv rfl) ?_
    refine oy rfl (ybI rfl rfl rfl) ?_
    refine on ?_
    refine pn ?_
    refine rcd rfl (fun c1 => ?_) (fun c1 => ?_)
    refine rk ?_
    refine pn ?_
    refine rs_ ?_
    refine rb ?_
    refine rsr ?_
    refine oy rfl (ymv rfl) ?_
    refine oy rfl (ycU rfl) ?_
    refine l0 ?_
    refine oli EB [_] rfl rfl rfl rfl rfl (fun g2 w2 l2 => ?_)
    refine oy rfl (ycB rfl (sl_own 0 rfl)) ?_
    refine oy rfl (ymv rfl) ?_
    refine oy rfl (yba rfl rfl (by simp only [List.length_append, List.length_take, List.length_drop, List.length_cons, List.length_nil]; omega)) ?_
    refine oy rfl (yas rfl) ?_
    refine on ?_
    refine pn ?_
    refine rr ?_
    refine oy rfl (ymv rfl) ?_
    refine oy rfl (yshr 8 256 rfl rfl rfl (by decide)) ?_
    refine oy rfl (yas rfl) ?_
    refine on ?_
    refine pbn ?_
    refine pn ?_
    refine rr ?_
    refine oy rfl (ymv rfl) ?_
    refine oy rfl (ybW rfl rfl rfl (by omega)) ?_
    refine oy rfl (yas rfl) ?_
    refine on ?_
    refine pn ?_
    rotate_left
    refine re ?_
    refine pe ?_
    refine pe ?_
    refine pbe ?_
    refine pn ?_
    refine rsr ?_
    refine oy rfl (ymv rfl) ?_
    refine oy rfl (yas rfl) ?_
    refine on ?_
    refine pn ?_
    refine rt ?_
    refine ret_ rfl (fun hM => ?_)
    rotate_left
  · refine round rfl rfl (List.nil_sublist _) ⟨m / 256, i + 1, [UInt8.ofNat m] ++ s, rfl, rfl, by omega, by simp [hsl]; try omega, ?_⟩ (show k - (i + 1) < k - i by omega)
    have h3 : k - i = k - (i + 1) + 1 := by omega
    rw [hbe, h3, beN, List.append_assoc]
  · refine ⟨hM.ext, ?_⟩
    have h0 : k - i = 0 := by omega
    rw [hbe, h0, beN, List.nil_append]
    rfl
end Go.Proofs.YtkhlmpkodjoioaaDoor
