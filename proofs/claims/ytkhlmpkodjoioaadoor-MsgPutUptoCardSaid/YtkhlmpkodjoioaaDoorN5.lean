/- Records: the document's DocTarget, DocSerial; numbers. -/
import Derived.Test.YtkhlmpkodjoioaaDoorN4
set_option linter.unusedVariables false
set_option linter.unusedSimpArgs false
set_option maxRecDepth 10000
namespace Go.Proofs.YtkhlmpkodjoioaaDoor
theorem right_mx {r : Rec} (h : rightRec r = true) (ht : r.type = 15) : 2 < r.data.length := by
  simp only [rightRec, Bool.and_eq_true] at h
  have h1 := h.2
  simp only [rightData, ht] at h1
  simp at h1
  exact h1.1
theorem right_soa {r : Rec} (h : rightRec r = true) (ht : r.type = 6) : 20 < r.data.length := by
  simp only [rightRec, Bool.and_eq_true] at h
  have h1 := h.2
  simp only [rightData, ht] at h1
  simp at h1
  omega
def targetN (r : Rec) : List UInt8 × Nat :=
  if rightRec r = false then ([], 2) else if r.type = 2 ∨ r.type = 5 ∨ r.type = 6 then ((getN r.data 0).1, 0) else if r.type = 15 then ((getN (r.data.drop 2) 0).1, 0) else ([], 8)
theorem Right18_is {r : Rec} {b : Bool} (h : rightRec r = b) (w : World) (hn : r.name.length ≤ 4294967296) (hd : r.data.length ≤ 4294967296) : Spec Tryd.prog 33 [r.val].toArray w (fun v w' => Ext [] w w' ∧ v = .bool b) := h ▸ Right18_spec r w hn hd
theorem DocTarget_spec (r : Rec) (w : World) (hn : r.name.length ≤ 4294967296) (hd : r.data.length ≤ 4294967296) : Spec Tryd.prog 29 [r.val].toArray w (fun v w' => Ext [] w w' ∧ v = wire2 (targetN r)) := by
  refine Spec.intro Tryd.func29 rfl rfl (Nat.le_of_ble_eq_true rfl) (Mok.start w) ?_
  by_cases hr : rightRec r = true
  · have hmx := right_mx hr
    by_cases ht : r.type = 15
    · have hmx := hmx ht
      focus
        refine rsr ?_
        refine l0 ?_
        refine obx rfl rfl (fun g1 w1 l1 => ?_)
        refine oy rfl (yas rfl) ?_
        refine oy rfl (yas rfl) ?_
        refine on ?_
        refine pn ?_
        refine rs_ ?_
        refine rsr ?_
        refine oy rfl (ylS 0 rfl rfl rfl) ?_
        refine l0 ?_
        refine ocd rfl rfl (fun hM => Right18_is hr _ hn hd) (fun w2 => ?_)
        refine oy rfl (yno rfl) ?_
        refine on ?_
        refine pn ?_
        refine rcF rfl ?_
        refine rk ?_
        refine pn ?_
        refine rsr ?_
        refine oy rfl (yfa rfl) ?_
        refine oy rfl (yld 0 rfl rfl rfl) ?_
        refine oy rfl (yas rfl) ?_
        refine on ?_
        refine pn ?_
        refine rs_ ?_
        refine rsr ?_
        refine oy rfl (yfa rfl) ?_
        refine oy rfl (yld 0 rfl rfl rfl) ?_
        refine oy rfl (ybI rfl rfl rfl) ?_
        refine on ?_
        refine pn ?_
        refine rcd rfl (fun c3 => ?_) (fun c3 => by exfalso; omega)
        refine rr ?_
        refine oy rfl (ymv rfl) ?_
        refine oy rfl (ys2N rfl rfl (by omega)) ?_
        refine oy rfl (yas rfl) ?_
        refine on ?_
        refine pn ?_
        refine rs_ ?_
        refine rsr ?_
        refine oy rfl (yfa rfl) ?_
        refine oy rfl (yld 0 rfl rfl rfl) ?_
        refine oy rfl (ybI rfl rfl rfl) ?_
        refine oy rfl (ymv rfl) ?_
        refine xd (g := 21) rfl (fun c4 => ?_) (fun c4 => by exfalso; omega)
        refine oyg rfl rfl rfl (yfa rfl) ?_
        refine oyg rfl rfl rfl (yld 0 rfl rfl rfl) ?_
        refine oyg rfl rfl rfl (ybI rfl rfl rfl) ?_
        refine oy rfl (ypT rfl rfl) ?_
        refine oy rfl (ymv rfl) ?_
        refine xd (g := 26) rfl (fun c5 => ?_) (fun c5 => by exfalso; omega)
        refine oyg rfl rfl rfl (yfa rfl) ?_
        refine oyg rfl rfl rfl (yld 0 rfl rfl rfl) ?_
        refine oyg rfl rfl rfl (ybI rfl rfl rfl) ?_
        refine oy rfl (ypT rfl rfl) ?_
        refine oy rfl (ymv rfl) ?_
        refine xd (g := 31) rfl (fun c6 => by exfalso; omega) (fun c6 => ?_)
        refine ln rfl rfl rfl rfl ?_
        refine ln rfl rfl rfl rfl ?_
        refine ln rfl rfl rfl rfl ?_
        refine oy rfl (ypF rfl rfl) ?_
        refine on ?_
        refine pn ?_
        refine rcF rfl ?_
        refine rk ?_
        refine pn ?_
        refine rsr ?_
        refine oy rfl (ymv rfl) ?_
        refine l0 ?_
        refine ocd rfl rfl (fun hM => DocGet_spec _ 0 _ (by simp only [List.length_drop]; omega) (by omega)) (fun w7 => ?_)
        refine oy rfl (ymv rfl) ?_
        refine oy rfl (yex rfl rfl) ?_
        refine oy rfl (yex rfl rfl) ?_
        refine oy rfl (yex rfl rfl) ?_
        refine oy rfl (yas rfl) ?_
        refine oy rfl (yas rfl) ?_
        refine oy rfl (yas rfl) ?_
        refine on ?_
        refine pn ?_
        refine rsr ?_
        refine oy rfl (ymv rfl) ?_
        refine oy rfl (yas rfl) ?_
        refine oy rfl (yas rfl) ?_
        refine on ?_
        refine pn ?_
        refine rt ?_
        refine ret_ rfl (fun hM => ?_)
        rotate_left
      all_goals refine ⟨hM.ext, ?_⟩
      all_goals simp_all [ret1, targetN, wire2]
    · focus
        refine rsr ?_
        refine l0 ?_
        refine obx rfl rfl (fun g1 w1 l1 => ?_)
        refine oy rfl (yas rfl) ?_
        refine oy rfl (yas rfl) ?_
        refine on ?_
        refine pn ?_
        refine rs_ ?_
        refine rsr ?_
        refine oy rfl (ylS 0 rfl rfl rfl) ?_
        refine l0 ?_
        refine ocd rfl rfl (fun hM => Right18_is hr _ hn hd) (fun w2 => ?_)
        refine oy rfl (yno rfl) ?_
        refine on ?_
        refine pn ?_
        refine rcF rfl ?_
        refine rk ?_
        refine pn ?_
        refine rsr ?_
        refine oy rfl (yfa rfl) ?_
        refine oy rfl (yld 0 rfl rfl rfl) ?_
        refine oy rfl (yas rfl) ?_
        refine on ?_
        refine pn ?_
        refine rs_ ?_
        refine rsr ?_
        refine oy rfl (yfa rfl) ?_
        refine oy rfl (yld 0 rfl rfl rfl) ?_
        refine oy rfl (ybI rfl rfl rfl) ?_
        refine on ?_
        refine pn ?_
        refine rcd rfl (fun c3 => by exfalso; omega) (fun c3 => ?_)
        refine rk ?_
        refine pn ?_
        refine rs_ ?_
        refine rsr ?_
        refine oy rfl (yfa rfl) ?_
        refine oy rfl (yld 0 rfl rfl rfl) ?_
        refine oy rfl (ybI rfl rfl rfl) ?_
        refine oy rfl (ymv rfl) ?_
        refine xd (g := 21) rfl (fun c4 => ?_) (fun c4 => ?_)
        refine oyg rfl rfl rfl (yfa rfl) ?_
        refine oyg rfl rfl rfl (yld 0 rfl rfl rfl) ?_
        refine oyg rfl rfl rfl (ybI rfl rfl rfl) ?_
        refine oy rfl (ypT rfl rfl) ?_
        refine oy rfl (ymv rfl) ?_
        refine xd (g := 26) rfl (fun c5 => ?_) (fun c5 => ?_)
        refine oyg rfl rfl rfl (yfa rfl) ?_
        refine oyg rfl rfl rfl (yld 0 rfl rfl rfl) ?_
        refine oyg rfl rfl rfl (ybI rfl rfl rfl) ?_
        refine oy rfl (ypT rfl rfl) ?_
        refine oy rfl (ymv rfl) ?_
        refine xd (g := 31) rfl (fun c6 => ?_) (fun c6 => by exfalso; omega)
        refine oyg rfl rfl rfl (yfa rfl) ?_
        refine oyg rfl rfl rfl (yld 0 rfl rfl rfl) ?_
        refine oyg rfl rfl rfl (ybI rfl rfl rfl) ?_
        refine oy rfl (ypT rfl rfl) ?_
        refine on ?_
        refine pn ?_
        refine rcd rfl (fun c7 => ?_) (fun c7 => ?_)
        refine rsr ?_
        refine oy rfl (yas rfl) ?_
        refine oy rfl (yas rfl) ?_
        refine on ?_
        refine pn ?_
        refine rt ?_
        refine pr ?_
        refine ret_ rfl (fun hM => ?_)
        rotate_left
        refine rk ?_
        refine pn ?_
        refine rsr ?_
        refine oy rfl (ymv rfl) ?_
        refine l0 ?_
        refine ocd rfl rfl (fun hM => DocGet_spec _ 0 _ (by omega) (by omega)) (fun w8 => ?_)
        refine oy rfl (ymv rfl) ?_
        refine oy rfl (yex rfl rfl) ?_
        refine oy rfl (yex rfl rfl) ?_
        refine oy rfl (yex rfl rfl) ?_
        refine oy rfl (yas rfl) ?_
        refine oy rfl (yas rfl) ?_
        refine oy rfl (yas rfl) ?_
        refine on ?_
        refine pn ?_
        refine rsr ?_
        refine oy rfl (ymv rfl) ?_
        refine oy rfl (yas rfl) ?_
        refine oy rfl (yas rfl) ?_
        refine on ?_
        refine pn ?_
        refine rt ?_
        refine ret_ rfl (fun hM => ?_)
        rotate_left
        refine ln rfl rfl rfl rfl ?_
        refine ln rfl rfl rfl rfl ?_
        refine ln rfl rfl rfl rfl ?_
        refine oy rfl (ypF rfl rfl) ?_
        refine oy rfl (ymv rfl) ?_
        refine ln rfl rfl rfl rfl ?_
        refine ln rfl rfl rfl rfl ?_
        refine ln rfl rfl rfl rfl ?_
        refine oy rfl (ypF rfl rfl) ?_
        refine on ?_
        refine pn ?_
        refine rcF rfl ?_
        refine rk ?_
        refine pn ?_
        refine rsr ?_
        refine oy rfl (ymv rfl) ?_
        refine l0 ?_
        refine ocd rfl rfl (fun hM => DocGet_spec _ 0 _ (by omega) (by omega)) (fun w9 => ?_)
        refine oy rfl (ymv rfl) ?_
        refine oy rfl (yex rfl rfl) ?_
        refine oy rfl (yex rfl rfl) ?_
        refine oy rfl (yex rfl rfl) ?_
        refine oy rfl (yas rfl) ?_
        refine oy rfl (yas rfl) ?_
        refine oy rfl (yas rfl) ?_
        refine on ?_
        refine pn ?_
        refine rsr ?_
        refine oy rfl (ymv rfl) ?_
        refine oy rfl (yas rfl) ?_
        refine oy rfl (yas rfl) ?_
        refine on ?_
        refine pn ?_
        refine rt ?_
        refine ret_ rfl (fun hM => ?_)
        rotate_left
        refine ln rfl rfl rfl rfl ?_
        refine ln rfl rfl rfl rfl ?_
        refine ln rfl rfl rfl rfl ?_
        refine oy rfl (ypF rfl rfl) ?_
        refine oy rfl (ymv rfl) ?_
        refine ln rfl rfl rfl rfl ?_
        refine ln rfl rfl rfl rfl ?_
        refine ln rfl rfl rfl rfl ?_
        refine oy rfl (ypF rfl rfl) ?_
        refine oy rfl (ymv rfl) ?_
        refine ln rfl rfl rfl rfl ?_
        refine ln rfl rfl rfl rfl ?_
        refine ln rfl rfl rfl rfl ?_
        refine oy rfl (ypF rfl rfl) ?_
        refine on ?_
        refine pn ?_
        refine rcF rfl ?_
        refine rk ?_
        refine pn ?_
        refine rsr ?_
        refine oy rfl (ymv rfl) ?_
        refine l0 ?_
        refine ocd rfl rfl (fun hM => DocGet_spec _ 0 _ (by omega) (by omega)) (fun w10 => ?_)
        refine oy rfl (ymv rfl) ?_
        refine oy rfl (yex rfl rfl) ?_
        refine oy rfl (yex rfl rfl) ?_
        refine oy rfl (yex rfl rfl) ?_
        refine oy rfl (yas rfl) ?_
        refine oy rfl (yas rfl) ?_
        refine oy rfl (yas rfl) ?_
        refine on ?_
        refine pn ?_
        refine rsr ?_
        refine oy rfl (ymv rfl) ?_
        refine oy rfl (yas rfl) ?_
        refine oy rfl (yas rfl) ?_
        refine on ?_
        refine pn ?_
        refine rt ?_
        refine ret_ rfl (fun hM => ?_)
        rotate_left
      all_goals refine ⟨hM.ext, ?_⟩
      all_goals simp_all [ret1, targetN, wire2]
      all_goals rfl
  · have hr : rightRec r = false := by simpa using hr
    focus
      refine rsr ?_
      refine l0 ?_
      refine obx rfl rfl (fun g1 w1 l1 => ?_)
      refine oy rfl (yas rfl) ?_
      refine oy rfl (yas rfl) ?_
      refine on ?_
      refine pn ?_
      refine rs_ ?_
      refine rsr ?_
      refine oy rfl (ylS 0 rfl rfl rfl) ?_
      refine l0 ?_
      refine ocd rfl rfl (fun hM => Right18_is hr _ hn hd) (fun w2 => ?_)
      refine oy rfl (yno rfl) ?_
      refine on ?_
      refine pn ?_
      refine rcT rfl ?_
      refine rsr ?_
      refine oy rfl (yas rfl) ?_
      refine oy rfl (yas rfl) ?_
      refine on ?_
      refine pn ?_
      refine rt ?_
      refine pr ?_
      refine ret_ rfl (fun hM => ?_)
      rotate_left
    exact ⟨hM.ext, by simp [targetN, hr, ret1, wire2]; rfl⟩
def serial2 (r : Rec) : Nat × Nat := if rightRec r = false then (0, 2) else if r.type = 6 then (serialN r.data, 0) else (0, 8)
theorem DocSerial_spec (r : Rec) (w : World) (hn : r.name.length ≤ 4294967296) (hd : r.data.length ≤ 4294967296) : Spec Tryd.prog 31 [r.val].toArray w (fun v w' => Ext [] w w' ∧ v = .tuple #[.int .i64 (serial2 r).1, .int .i64 (serial2 r).2]) := by
  refine Spec.intro Tryd.func31 rfl rfl (Nat.le_of_ble_eq_true rfl) (Mok.start w) ?_
  by_cases hr : rightRec r = true
  · focus
      refine rsr ?_
      refine l0 ?_
      refine obx rfl rfl (fun g1 w1 l1 => ?_)
      refine oy rfl (yas rfl) ?_
      refine oy rfl (yas rfl) ?_
      refine on ?_
      refine pn ?_
      refine rs_ ?_
      refine rsr ?_
      refine oy rfl (ylS 0 rfl rfl rfl) ?_
      refine l0 ?_
      refine ocd rfl rfl (fun hM => Right18_is hr _ hn hd) (fun w2 => ?_)
      refine oy rfl (yno rfl) ?_
      refine on ?_
      refine pn ?_
      refine rcF rfl ?_
      refine rk ?_
      refine pn ?_
      refine rs_ ?_
      refine rsr ?_
      refine oy rfl (yfa rfl) ?_
      refine oy rfl (yld 0 rfl rfl rfl) ?_
      refine oy rfl (ybI rfl rfl rfl) ?_
      refine on ?_
      refine pn ?_
      refine rcd rfl (fun c3 => ?_) (fun c3 => ?_)
      refine rsr ?_
      refine oy rfl (yas rfl) ?_
      refine oy rfl (yas rfl) ?_
      refine on ?_
      refine pn ?_
      refine rt ?_
      refine pr ?_
      refine ret_ rfl (fun hM => ?_)
      rotate_left
      refine rk ?_
      refine pn ?_
      refine rsr ?_
      refine oy rfl (yas rfl) ?_
      refine on ?_
      refine pn ?_
      refine rs_ ?_
      refine rsr ?_
      refine oy rfl (yas rfl) ?_
      refine on ?_
      refine pn ?_
      refine rb ?_
      rotate_left
    · exact ⟨hM.ext, by simp_all [serial2, ret1]⟩
    · have ht : r.type = 6 := by omega
      have hs := right_soa hr ht
      refine loop [4, 5] [1] (fun vs H => ∃ j : Nat, vs = [.int .i64 (ofBytes ((r.data.drop (r.data.length - 20)).take (20 - j))), .int .i64 j] ∧ H = [bx g1 (.cells r.val.cells 61 (0, 0))] ∧ 16 ≤ j ∧ j ≤ 20 ∧
        ofBytes ((r.data.drop (r.data.length - 20)).take (20 - j)) < 256 ^ (20 - j)) (fun vs => intAt vs 1) rfl rfl (List.Sublist.refl _) ⟨20, rfl, rfl, by omega, by omega, by simp [ofBytes]⟩ ?_
      rintro _ _ w' ⟨j, rfl, rfl, hj, hj2, hb⟩
      have hp : 256 ^ (20 - j) ≤ 256 ^ 4 := Nat.pow_le_pow_right (by omega) (by omega)
      have hp2 : (256 : Nat) ^ 4 = 4294967296 := by decide
      have hd2 := (r.data.getD ((r.data.length : Int) - j).toNat 0).toNat_lt
      focus
        refine rs_ ?_
        refine rsr ?_
        refine oy rfl (ymv rfl) ?_
        refine oy rfl (ybI rfl rfl rfl) ?_
        refine on ?_
        refine pn ?_
        refine rcd rfl (fun c1 => ?_) (fun c1 => ?_)
        refine rk ?_
        refine pn ?_
        refine rs_ ?_
        refine rb ?_
        refine rr ?_
        refine oy rfl (ymv rfl) ?_
        refine oy rfl (yshl 8 256 rfl rfl rfl (by decide) (by omega)) ?_
        refine oy rfl (yfa rfl) ?_
        refine oy rfl (yld 0 rfl rfl rfl) ?_
        refine oy rfl (yfa rfl) ?_
        refine oy rfl (yld 0 rfl rfl rfl) ?_
        refine oy rfl (yln rfl) ?_
        refine oy rfl (ymv rfl) ?_
        refine oy rfl (ybW rfl rfl rfl (by omega)) ?_
        refine oy rfl (ysi rfl rfl (by omega)) ?_
        refine oy rfl (ycb _ rfl) ?_
        refine oy rfl (ybW rfl rfl rfl (by omega)) ?_
        refine oy rfl (yas rfl) ?_
        refine on ?_
        refine pbn ?_
        refine pn ?_
        refine rr ?_
        refine oy rfl (ymv rfl) ?_
        refine oy rfl (ybW rfl rfl rfl (by omega)) ?_
        refine oy rfl (yas rfl) ?_
        refine on ?_
        refine pn ?_
        rotate_left
        refine re ?_
        refine pe ?_
        refine pe ?_
        refine pbe ?_
        refine pn ?_
        refine rsr ?_
        refine oy rfl (ymv rfl) ?_
        refine oy rfl (yas rfl) ?_
        refine oy rfl (yas rfl) ?_
        refine on ?_
        refine pn ?_
        refine rt ?_
        refine ret_ rfl (fun hM => ?_)
        rotate_left
      · have e1 : ((r.data.length : Int) - j).toNat = r.data.length - j := by omega
        have e0 := tail_step (d := r.data) (j := j) (by omega) (by omega) hj2
        have e4 : 20 - (j - 1) = 20 - j + 1 := by omega
        rw [e1] at hd2 ⊢
        have e2 : (ofBytes ((r.data.drop (r.data.length - 20)).take (20 - j)) : Int) * 256 + (r.data.getD (r.data.length - j) 0).toNat = (ofBytes ((r.data.drop (r.data.length - 20)).take (20 - (j - 1))) : Nat) := by
          rw [e0, ofBytes_snoc]; simp
        have e3 : (j : Int) - 1 = (j - 1 : Nat) := by omega
        rw [e2, e3]
        refine round rfl rfl (List.Sublist.refl _) ⟨j - 1, rfl, rfl, by omega, by omega, ?_⟩ (show j - 1 < j by omega)
        rw [e0, ofBytes_snoc, e4, Nat.pow_succ]
        omega
      · refine ⟨hM.ext, ?_⟩
        have hj : j = 16 := by omega
        subst hj
        simp [ret1, serial2, hr, ht, serialN]
  · have hr : rightRec r = false := by simpa using hr
    focus
      refine rsr ?_
      refine l0 ?_
      refine obx rfl rfl (fun g1 w1 l1 => ?_)
      refine oy rfl (yas rfl) ?_
      refine oy rfl (yas rfl) ?_
      refine on ?_
      refine pn ?_
      refine rs_ ?_
      refine rsr ?_
      refine oy rfl (ylS 0 rfl rfl rfl) ?_
      refine l0 ?_
      refine ocd rfl rfl (fun hM => Right18_is hr _ hn hd) (fun w2 => ?_)
      refine oy rfl (yno rfl) ?_
      refine on ?_
      refine pn ?_
      refine rcT rfl ?_
      refine rsr ?_
      refine oy rfl (yas rfl) ?_
      refine oy rfl (yas rfl) ?_
      refine on ?_
      refine pn ?_
      refine rt ?_
      refine pr ?_
      refine ret_ rfl (fun hM => ?_)
      rotate_left
    exact ⟨hM.ext, by simp [serial2, hr, ret1]⟩
end Go.Proofs.YtkhlmpkodjoioaaDoor
