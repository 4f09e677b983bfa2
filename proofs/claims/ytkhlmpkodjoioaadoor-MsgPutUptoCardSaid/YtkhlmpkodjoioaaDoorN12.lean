/- Bytes that are put behind each other: num; names in a table. -/
import Derived.Test.YtkhlmpkodjoioaaDoorN11
import Derived.Test.YtkhlmpkodjoioaaDoorBu
set_option linter.unusedVariables false
set_option linter.unusedSimpArgs false
set_option maxRecDepth 10000
namespace Go.Proofs.YtkhlmpkodjoioaaDoor
def intZ (vs : List Value) (j : Nat) : Int := match vs[j]? with | some (.int _ n) => n | _ => 0
theorem beN_take : ∀ (k n j : Nat), j < k → (beN n k).take (j + 1) = (beN n k).take j ++ [UInt8.ofNat (n / 2 ^ (8 * (k - 1 - j)))] := by
  intro k
  induction k with
  | zero => intro n j h; omega
  | succ k ih =>
    intro n j h
    have hl := beN_len (n / 256) k
    rcases Nat.lt_or_ge j k with hj | hj
    · rw [beN, List.take_append_of_le_length (by omega), List.take_append_of_le_length (by omega), ih (n / 256) j hj, Nat.div_div_eq_div_mul]
      have : 256 * 2 ^ (8 * (k - 1 - j)) = 2 ^ (8 * (k + 1 - 1 - j)) := by
        rw [show 256 = 2 ^ 8 by rfl, ← Nat.pow_add]; congr 1; omega
      rw [this]
    · have : j = k := by omega
      subst this
      rw [List.take_of_length_le (by rw [beN_len]; omega), beN, List.take_append_of_le_length (by omega), List.take_of_length_le (by omega)]
      simp
theorem num_spec {v : Value} {xs : List UInt8} (n k : Nat) (w : World) (hE : Ent [ow EB 5 v xs] [] w) (hn : n ≤ 4611686018427387904) (hk : k ≤ 4) (hk1 : 1 ≤ k) (hx : xs.length ≤ 1000000000) :
    Spec Tryd.prog 52 [v, .int .i64 n, .int .i64 k].toArray w (fun v' w' => ∃ c', Mok ⟨blks [ow EB 5 v xs], w, [c']⟩ w' ∧ c' = ow EB 5 v' (xs ++ beN n k)) := by
  have hM0 : Mok ⟨blks [ow EB 5 v xs], w, [ow EB 5 v xs]⟩ w := hE.mok
  generalize hS : blks [ow EB 5 v xs] = S at hM0 ⊢
  refine Spec.intro Tryd.func52 rfl rfl (Nat.le_of_ble_eq_true rfl) hM0 ?_
  focus
    refine rsr ?_
    refine oy rfl (yas rfl) ?_
    refine on ?_
    refine pn ?_
    refine rs_ ?_
    refine rsr ?_
    refine oy rfl (ymv rfl) ?_
    refine oy rfl (ybW rfl rfl rfl (by omega)) ?_
    refine oy rfl (ybW rfl rfl rfl (by omega)) ?_
    refine oy rfl (yas rfl) ?_
    refine on ?_
    refine pn ?_
    refine rb ?_
    rotate_left
  refine loop [0, 7] [1] (fun vs H => ∃ (j : Nat) (bv : Value), vs = [bv, .int .i64 (8 * (k : Int) - 8 - 8 * j)] ∧ H = [ow EB 5 bv (xs ++ (beN n k).take j)] ∧ j ≤ k) (fun vs => (intZ vs 1 + 8).toNat) rfl rfl (List.Sublist.refl _)
    ⟨0, v, by simp; omega, by simp, Nat.zero_le _⟩ ?_
  rintro _ _ w' ⟨j, bv, rfl, rfl, hj⟩
  have hl := beN_len n k
  by_cases hjk : j < k
  · have e1 : 8 * (k : Int) - 8 - 8 * j = ((8 * (k - 1 - j) : Nat) : Int) := by omega
    rw [e1]
    focus
      refine rs_ ?_
      refine rsr ?_
      refine oy rfl (ymv rfl) ?_
      refine oy rfl (ybI rfl rfl rfl) ?_
      refine on ?_
      refine pn ?_
      refine rcT rfl ?_
      refine rk ?_
      refine pn ?_
      refine rs_ ?_
      refine rb ?_
      refine rr ?_
      refine oy rfl (ymv rfl) ?_
      refine oy rfl (ymv rfl) ?_
      refine oy rfl (ymv rfl) ?_
      refine oy rfl (yshv rfl rfl (by omega)) ?_
      refine oy rfl (ycU rfl) ?_
      refine l0 ?_
      refine oli EB [_] rfl rfl rfl rfl rfl (fun g1 w1 l1 => ?_)
      refine l0 ?_
      refine oapl 0 rfl rfl rfl rfl rfl rfl (by simp only [List.length_append, List.length_take, List.length_drop, List.length_cons, List.length_nil]; omega) rfl (fun v2 w2 => ?_)
      refine oy rfl (yas rfl) ?_
      refine on ?_
      refine pbn ?_
      refine pn ?_
      refine rr ?_
      refine oy rfl (ymv rfl) ?_
      refine oy rfl (ybW rfl rfl rfl (by omega)) ?_
      refine oy rfl (yas rfl) ?_
      refine on ?_
      refine pn ?_
      rotate_left
    have e2 : ((8 * (k - 1 - j) : Nat) : Int) - 8 = 8 * (k : Int) - 8 - 8 * ((j + 1 : Nat) : Int) := by omega
    rw [e2]
    refine round rfl rfl (List.Sublist.refl _) ⟨j + 1, _, rfl, ?_, by omega⟩ ?_
    · rw [beN_take k n j hjk, List.append_assoc]; rfl
    · simp [intZ]
      omega
  · focus
      refine rs_ ?_
      refine rsr ?_
      refine oy rfl (ymv rfl) ?_
      refine oy rfl (ybI rfl rfl rfl) ?_
      refine on ?_
      refine pn ?_
      refine rcd rfl (fun c1 => by exfalso; omega) (fun c1 => ?_)
      refine re ?_
      refine pe ?_
      refine pe ?_
      refine pbe ?_
      refine pn ?_
      refine rsr ?_
      refine oy rfl (ymv rfl) ?_
      refine oy rfl (yas rfl) ?_
      refine on ?_
      refine pn ?_
      refine rt ?_
      refine ret_ rfl (fun hM => ?_)
      rotate_left
    refine ⟨_, hM, ?_⟩
    have h0 : j = k := by omega
    subst h0
    rw [List.take_of_length_le (by omega)]
    rfl
end Go.Proofs.YtkhlmpkodjoioaaDoor
