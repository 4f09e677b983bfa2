/- The law's question: has it its bytes? And the law MsgRecords. -/
import Derived.Test.YtkhlmpkodjoioaaDoorN19
set_option linter.unusedVariables false
set_option linter.unusedSimpArgs false
set_option maxRecDepth 100000
set_option maxHeartbeats 8000000
namespace Go.Proofs.YtkhlmpkodjoioaaDoor
def askM : Msg := ⟨0, false, 0, false, false, true, false, 0, [⟨[97, 46], 1⟩], [], [], []⟩
theorem askM_put : putN askM = ([0, 0, 1, 0, 0, 1, 0, 0, 0, 0, 0, 0, 1, 97, 0, 0, 1, 0, 1], 0) := by decide +kernel
theorem Sl.nil0 {α : Type} (E : En α) (w : World) : Sl E w (.slice none 0 0) [] := Sl.nil w
theorem asked_spec (w : World) (hz : Zw w) : Spec Tryd.prog 23 [].toArray w (fun v w' => Ext [] w w' ∧ v = .bool true) := by
  refine Spec.intro Tryd.func23 rfl rfl (Nat.le_of_ble_eq_true rfl) (Mok.start w) ?_
  focus
    refine rsr ?_
    refine oy rfl (yas rfl) ?_
    refine on ?_
    refine pn ?_
    refine rsr ?_
    refine oy rfl (ybd rfl rfl) ?_
    refine l0 ?_
    refine oli EQ [⟨[97, 46], 1⟩] rfl rfl rfl rfl rfl (fun g1 w1 l1 => ?_)
    refine oy rfl (ybd rfl rfl) ?_
    refine l0 ?_
    refine oc1 (R := fun v w' => ∃ sv, v = .tuple #[sv, .int .i64 (putN askM).2] ∧ Own EB w' _ 5 sv (putN askM).1) rfl rfl (fun hM => Put_spec askM ⟨(some ⟨g1, 0, none⟩, 1, 1), (none, 0, 0), (none, 0, 0), (none, 0, 0)⟩ _ ⟨sl_own 0 rfl _ hM, Sl.nil _, Sl.nil _, Sl.nil _⟩ ⟨by decide, by decide, by decide, by decide⟩ (hM.zw hz (by simp))) (fun v2 w2 r2 => ?_)
    rotate_left
  obtain ⟨sv, rfl, ho⟩ := r2
  rw [askM_put] at ho ⊢
  refine ⟨ow EB 5 sv [0, 0, 1, 0, 0, 1, 0, 0, 0, 0, 0, 0, 1, 97, 0, 0, 1, 0, 1], ho.rebase (Nat.zero_le _), fun g hg => (ho.base hg).1, ?_⟩
  focus
    refine oy rfl (ymv rfl) ?_
    refine oy rfl (yex rfl rfl) ?_
    refine oy rfl (yex rfl rfl) ?_
    refine oy rfl (yas rfl) ?_
    refine oy rfl (yas rfl) ?_
    refine on ?_
    refine pn ?_
    refine rsr ?_
    refine oy rfl (ymv rfl) ?_
    refine oy rfl (ybI rfl rfl rfl) ?_
    refine oy rfl (ymv rfl) ?_
    refine oyg rfl rfl rfl (ymv rfl) ?_
    refine oyg rfl rfl rfl (ycB rfl (sl_own 0 rfl)) ?_
    refine oyg rfl rfl rfl (ybE rfl rfl) ?_
    refine oy rfl (ypT rfl rfl) ?_
    refine oy rfl (yas rfl) ?_
    refine on ?_
    refine pn ?_
    refine rt ?_
    refine ret_ rfl (fun hM => ?_)
    rotate_left
  exact ⟨hM.ext, rfl⟩
theorem MsgRecords_spec (r : Rec) (w : World) (hz : Zw w) : Spec Tryd.prog 6 [r.val].toArray w (fun v w' => Ext [] w w' ∧ v = .bool true) := by
  refine Spec.intro Tryd.func6 rfl rfl (Nat.le_of_ble_eq_true rfl) (Mok.start w) ?_
  by_cases hbig : 3000 < r.data.length ∨ 3000 < r.name.length
  · focus
      refine rsr ?_
      refine l0 ?_
      refine obx rfl rfl (fun g1 w1 l1 => ?_)
      refine oy rfl (yas rfl) ?_
      refine on ?_
      refine pn ?_
      refine rs_ ?_
      refine rsr ?_
      refine oy rfl (yfa rfl) ?_
      refine oy rfl (yld 0 rfl rfl rfl) ?_
      refine oy rfl (yln rfl) ?_
      refine oy rfl (ybI rfl rfl rfl) ?_
      refine oy rfl (ymv rfl) ?_
      refine xd (g := 16) rfl (fun c2 => ?_) (fun c2 => ?_)
      refine ln rfl rfl rfl rfl ?_
      refine ln rfl rfl rfl rfl ?_
      refine ln rfl rfl rfl rfl ?_
      refine ln rfl rfl rfl rfl ?_
      refine oy rfl (ypT rfl rfl) ?_
      refine on ?_
      refine pn ?_
      refine rcT rfl ?_
      refine rsr ?_
      refine l0 ?_
      refine ocd rfl rfl (fun hM => asked_spec _ (hM.zw hz (by simp))) (fun w3 => ?_)
      refine oy rfl (yas rfl) ?_
      refine on ?_
      refine pn ?_
      refine rt ?_
      refine pr ?_
      refine ret_ rfl (fun hM => ?_)
      rotate_left
      refine oyg rfl rfl rfl (yfa rfl) ?_
      refine oyg rfl rfl rfl (yld 0 rfl rfl rfl) ?_
      refine oyg rfl rfl rfl (yln rfl) ?_
      refine oyg rfl rfl rfl (ybI rfl rfl rfl) ?_
      refine oy rfl (ypF rfl rfl) ?_
      refine on ?_
      refine pn ?_
      refine rcd rfl (fun c4 => ?_) (fun c4 => by exfalso; omega)
      refine rsr ?_
      refine l0 ?_
      refine ocd rfl rfl (fun hM => asked_spec _ (hM.zw hz (by simp))) (fun w5 => ?_)
      refine oy rfl (yas rfl) ?_
      refine on ?_
      refine pn ?_
      refine rt ?_
      refine pr ?_
      refine ret_ rfl (fun hM => ?_)
      rotate_left
    all_goals exact ⟨hM.ext, rfl⟩
  · have hn : r.name.length ≤ 4294967280 := by omega
    have hd : r.data.length ≤ 4294967280 := by omega
    by_cases hr : rightRec r = true
    · have hc := checkN_of hr
      focus
        refine rsr ?_
        refine l0 ?_
        refine obx rfl rfl (fun g1 w1 l1 => ?_)
        refine oy rfl (yas rfl) ?_
        refine on ?_
        refine pn ?_
        refine rs_ ?_
        refine rsr ?_
        refine oy rfl (yfa rfl) ?_
        refine oy rfl (yld 0 rfl rfl rfl) ?_
        refine oy rfl (yln rfl) ?_
        refine oy rfl (ybI rfl rfl rfl) ?_
        refine oy rfl (ymv rfl) ?_
        refine xd (g := 16) rfl (fun c2 => by exfalso; omega) (fun c2 => ?_)
        refine oyg rfl rfl rfl (yfa rfl) ?_
        refine oyg rfl rfl rfl (yld 0 rfl rfl rfl) ?_
        refine oyg rfl rfl rfl (yln rfl) ?_
        refine oyg rfl rfl rfl (ybI rfl rfl rfl) ?_
        refine oy rfl (ypF rfl rfl) ?_
        refine on ?_
        refine pn ?_
        refine rcd rfl (fun c3 => by exfalso; omega) (fun c3 => ?_)
        refine rk ?_
        refine pn ?_
        refine rsr ?_
        refine oy rfl (ylS 0 rfl rfl rfl) ?_
        refine l0 ?_
        refine ocd rfl rfl (fun hM => Check_spec r _ hn hd (hM.zw hz (by simp))) (fun w4 => ?_)
        refine oy rfl (yas rfl) ?_
        refine on ?_
        refine pn ?_
        refine rsr ?_
        refine oy rfl (ylS 0 rfl rfl rfl) ?_
        refine l0 ?_
        refine ocd rfl rfl (fun hM => DocTarget_spec r _ (by omega) (by omega)) (fun w5 => ?_)
        refine oy rfl (ymv rfl) ?_
        refine oy rfl (yex rfl rfl) ?_
        refine oy rfl (yex rfl rfl) ?_
        refine oy rfl (yas rfl) ?_
        refine oy rfl (yas rfl) ?_
        refine on ?_
        refine pn ?_
        refine rsr ?_
        refine oy rfl (ylS 0 rfl rfl rfl) ?_
        refine l0 ?_
        refine ocd rfl rfl (fun hM => Target_spec r _ hn hd (hM.zw hz (by simp))) (fun w6 => ?_)
        refine oy rfl (ymv rfl) ?_
        refine oy rfl (yex rfl rfl) ?_
        refine oy rfl (yex rfl rfl) ?_
        refine oy rfl (yas rfl) ?_
        refine oy rfl (yas rfl) ?_
        refine on ?_
        refine pn ?_
        refine rsr ?_
        refine oy rfl (ylS 0 rfl rfl rfl) ?_
        refine l0 ?_
        refine ocd rfl rfl (fun hM => DocSerial_spec r _ (by omega) (by omega)) (fun w7 => ?_)
        refine oy rfl (ymv rfl) ?_
        refine oy rfl (yex rfl rfl) ?_
        refine oy rfl (yex rfl rfl) ?_
        refine oy rfl (yas rfl) ?_
        refine oy rfl (yas rfl) ?_
        refine on ?_
        refine pn ?_
        refine rsr ?_
        refine oy rfl (ylS 0 rfl rfl rfl) ?_
        refine l0 ?_
        refine ocd rfl rfl (fun hM => Serial_spec r _ hn hd (hM.zw hz (by simp))) (fun w8 => ?_)
        refine oy rfl (ymv rfl) ?_
        refine oy rfl (yex rfl rfl) ?_
        refine oy rfl (yex rfl rfl) ?_
        refine oy rfl (yas rfl) ?_
        refine oy rfl (yas rfl) ?_
        refine on ?_
        refine pn ?_
        refine rsr ?_
        refine l0 ?_
        refine ocd rfl rfl (fun hM => asked_spec _ (hM.zw hz (by simp))) (fun w9 => ?_)
        refine oy rfl (ymv rfl) ?_
        refine oyg rfl rfl rfl (ymv rfl) ?_
        refine oyg rfl rfl rfl (ybI rfl rfl rfl) ?_
        refine oyg rfl rfl rfl (ylS 0 rfl rfl rfl) ?_
        refine lg rfl rfl ?_
        refine ocd rfl rfl (fun hM => Right18_is hr _ (by omega) (by omega)) (fun w10 => ?_)
        refine oyg rfl rfl rfl (ybb rfl rfl) ?_
        refine oy rfl (ypT rfl rfl) ?_
        refine oy rfl (ymv rfl) ?_
        refine xd (g := 53) rfl (fun c11 => ?_) (fun c11 => ?_)
        refine oyg rfl rfl rfl (ymv rfl) ?_
        refine oyg rfl rfl rfl (ybI rfl rfl rfl) ?_
        refine oyg rfl rfl rfl (ymv rfl) ?_
        refine xd (g := 56) rfl (fun c12 => ?_) (fun c12 => by exfalso; omega)
        refine ln rfl rfl rfl rfl ?_
        refine ln rfl rfl rfl rfl ?_
        refine oyg rfl rfl rfl (ypT rfl rfl) ?_
        refine oy rfl (ypT rfl rfl) ?_
        refine oy rfl (ymv rfl) ?_
        refine oyg rfl rfl rfl (ymv rfl) ?_
        refine oyg rfl rfl rfl (ymv rfl) ?_
        refine oyg rfl rfl rfl (ybE rfl rfl) ?_
        refine oy rfl (ypT rfl rfl) ?_
        refine oy rfl (ymv rfl) ?_
        refine xd (g := 66) rfl (fun c13 => ?_) (fun c13 => ?_)
        refine oyg rfl rfl rfl (ymv rfl) ?_
        refine oyg rfl rfl rfl (ymv rfl) ?_
        refine oyg rfl rfl rfl (ybI rfl rfl rfl) ?_
        refine oy rfl (ypT rfl rfl) ?_
        refine oy rfl (ymv rfl) ?_
        refine xd (g := 71) rfl (fun c14 => ?_) (fun c14 => by exfalso; omega)
        refine oyg rfl rfl rfl (ymv rfl) ?_
        refine oyg rfl rfl rfl (ymv rfl) ?_
        refine oyg rfl rfl rfl (ybI rfl rfl rfl) ?_
        refine oy rfl (ypT rfl rfl) ?_
        refine oy rfl (ymv rfl) ?_
        refine xd (g := 76) rfl (fun c15 => ?_) (fun c15 => by exfalso; omega)
        refine oyg rfl rfl rfl (ymv rfl) ?_
        refine oyg rfl rfl rfl (ymv rfl) ?_
        refine oyg rfl rfl rfl (ybI rfl rfl rfl) ?_
        refine oy rfl (ypT rfl rfl) ?_
        refine oy rfl (yas rfl) ?_
        refine on ?_
        refine pn ?_
        refine rt ?_
        refine ret_ rfl (fun hM => ?_)
        rotate_left
        refine ln rfl rfl rfl rfl ?_
        refine ln rfl rfl rfl rfl ?_
        refine ln rfl rfl rfl rfl ?_
        refine oy rfl (ypF rfl rfl) ?_
        refine oy rfl (ymv rfl) ?_
        refine ln rfl rfl rfl rfl ?_
        refine ln rfl rfl rfl rfl ?_
        refine ln rfl rfl rfl rfl ?_
        refine oy rfl (ypF rfl rfl) ?_
        refine oy rfl (ymv rfl) ?_
        refine ln rfl rfl rfl rfl ?_
        refine ln rfl rfl rfl rfl ?_
        refine ln rfl rfl rfl rfl ?_
        refine oy rfl (ypF rfl rfl) ?_
        refine oy rfl (yas rfl) ?_
        refine on ?_
        refine pn ?_
        refine rt ?_
        refine ret_ rfl (fun hM => ?_)
        rotate_left
        refine ln rfl rfl rfl rfl ?_
        refine ln rfl rfl rfl rfl ?_
        refine ln rfl rfl rfl rfl ?_
        refine lu rfl rfl rfl ?_
        refine lu rfl rfl rfl ?_
        refine ln rfl rfl rfl rfl ?_
        refine oy rfl (ypF rfl rfl) ?_
        refine oy rfl (ymv rfl) ?_
        refine ln rfl rfl rfl rfl ?_
        refine ln rfl rfl rfl rfl ?_
        refine ln rfl rfl rfl rfl ?_
        refine oy rfl (ypF rfl rfl) ?_
        refine oy rfl (ymv rfl) ?_
        refine ln rfl rfl rfl rfl ?_
        refine ln rfl rfl rfl rfl ?_
        refine ln rfl rfl rfl rfl ?_
        refine oy rfl (ypF rfl rfl) ?_
        refine oy rfl (ymv rfl) ?_
        refine ln rfl rfl rfl rfl ?_
        refine ln rfl rfl rfl rfl ?_
        refine ln rfl rfl rfl rfl ?_
        refine oy rfl (ypF rfl rfl) ?_
        refine oy rfl (ymv rfl) ?_
        refine ln rfl rfl rfl rfl ?_
        refine ln rfl rfl rfl rfl ?_
        refine ln rfl rfl rfl rfl ?_
        refine oy rfl (ypF rfl rfl) ?_
        refine oy rfl (yas rfl) ?_
        refine on ?_
        refine pn ?_
        refine rt ?_
        refine ret_ rfl (fun hM => ?_)
        rotate_left
      all_goals refine ⟨hM.ext, ?_⟩
      all_goals simp_all [ret1]
    · have hr : rightRec r = false := by simpa using hr
      have hc := checkN_no hr
      focus
        refine rsr ?_
        refine l0 ?_
        refine obx rfl rfl (fun g1 w1 l1 => ?_)
        refine oy rfl (yas rfl) ?_
        refine on ?_
        refine pn ?_
        refine rs_ ?_
        refine rsr ?_
        refine oy rfl (yfa rfl) ?_
        refine oy rfl (yld 0 rfl rfl rfl) ?_
        refine oy rfl (yln rfl) ?_
        refine oy rfl (ybI rfl rfl rfl) ?_
        refine oy rfl (ymv rfl) ?_
        refine xd (g := 16) rfl (fun c2 => by exfalso; omega) (fun c2 => ?_)
        refine oyg rfl rfl rfl (yfa rfl) ?_
        refine oyg rfl rfl rfl (yld 0 rfl rfl rfl) ?_
        refine oyg rfl rfl rfl (yln rfl) ?_
        refine oyg rfl rfl rfl (ybI rfl rfl rfl) ?_
        refine oy rfl (ypF rfl rfl) ?_
        refine on ?_
        refine pn ?_
        refine rcd rfl (fun c3 => by exfalso; omega) (fun c3 => ?_)
        refine rk ?_
        refine pn ?_
        refine rsr ?_
        refine oy rfl (ylS 0 rfl rfl rfl) ?_
        refine l0 ?_
        refine ocd rfl rfl (fun hM => Check_spec r _ hn hd (hM.zw hz (by simp))) (fun w4 => ?_)
        refine oy rfl (yas rfl) ?_
        refine on ?_
        refine pn ?_
        refine rsr ?_
        refine oy rfl (ylS 0 rfl rfl rfl) ?_
        refine l0 ?_
        refine ocd rfl rfl (fun hM => DocTarget_spec r _ (by omega) (by omega)) (fun w5 => ?_)
        refine oy rfl (ymv rfl) ?_
        refine oy rfl (yex rfl rfl) ?_
        refine oy rfl (yex rfl rfl) ?_
        refine oy rfl (yas rfl) ?_
        refine oy rfl (yas rfl) ?_
        refine on ?_
        refine pn ?_
        refine rsr ?_
        refine oy rfl (ylS 0 rfl rfl rfl) ?_
        refine l0 ?_
        refine ocd rfl rfl (fun hM => Target_spec r _ hn hd (hM.zw hz (by simp))) (fun w6 => ?_)
        refine oy rfl (ymv rfl) ?_
        refine oy rfl (yex rfl rfl) ?_
        refine oy rfl (yex rfl rfl) ?_
        refine oy rfl (yas rfl) ?_
        refine oy rfl (yas rfl) ?_
        refine on ?_
        refine pn ?_
        refine rsr ?_
        refine oy rfl (ylS 0 rfl rfl rfl) ?_
        refine l0 ?_
        refine ocd rfl rfl (fun hM => DocSerial_spec r _ (by omega) (by omega)) (fun w7 => ?_)
        refine oy rfl (ymv rfl) ?_
        refine oy rfl (yex rfl rfl) ?_
        refine oy rfl (yex rfl rfl) ?_
        refine oy rfl (yas rfl) ?_
        refine oy rfl (yas rfl) ?_
        refine on ?_
        refine pn ?_
        refine rsr ?_
        refine oy rfl (ylS 0 rfl rfl rfl) ?_
        refine l0 ?_
        refine ocd rfl rfl (fun hM => Serial_spec r _ hn hd (hM.zw hz (by simp))) (fun w8 => ?_)
        refine oy rfl (ymv rfl) ?_
        refine oy rfl (yex rfl rfl) ?_
        refine oy rfl (yex rfl rfl) ?_
        refine oy rfl (yas rfl) ?_
        refine oy rfl (yas rfl) ?_
        refine on ?_
        refine pn ?_
        refine rsr ?_
        refine l0 ?_
        refine ocd rfl rfl (fun hM => asked_spec _ (hM.zw hz (by simp))) (fun w9 => ?_)
        refine oy rfl (ymv rfl) ?_
        refine oyg rfl rfl rfl (ymv rfl) ?_
        refine oyg rfl rfl rfl (ybI rfl rfl rfl) ?_
        refine oyg rfl rfl rfl (ylS 0 rfl rfl rfl) ?_
        refine lg rfl rfl ?_
        refine ocd rfl rfl (fun hM => Right18_is hr _ (by omega) (by omega)) (fun w10 => ?_)
        refine oyg rfl rfl rfl (ybb rfl rfl) ?_
        refine oy rfl (ypT rfl rfl) ?_
        refine oy rfl (ymv rfl) ?_
        refine xd (g := 53) rfl (fun c11 => ?_) (fun c11 => ?_)
        refine oyg rfl rfl rfl (ymv rfl) ?_
        refine oyg rfl rfl rfl (ybI rfl rfl rfl) ?_
        refine oyg rfl rfl rfl (ymv rfl) ?_
        refine xd (g := 56) rfl (fun c12 => by exfalso; omega) (fun c12 => ?_)
        refine oyg rfl rfl rfl (ymv rfl) ?_
        refine oyg rfl rfl rfl (ybI rfl rfl rfl) ?_
        refine oyg rfl rfl rfl (ypF rfl rfl) ?_
        refine oy rfl (ypT rfl rfl) ?_
        refine oy rfl (ymv rfl) ?_
        refine xd (g := 61) rfl (fun c13 => ?_) (fun c13 => by exfalso; omega)
        refine oyg rfl rfl rfl (ymv rfl) ?_
        refine oyg rfl rfl rfl (ymv rfl) ?_
        refine oyg rfl rfl rfl (ybE rfl rfl) ?_
        refine oy rfl (ypT rfl rfl) ?_
        refine oy rfl (ymv rfl) ?_
        refine xd (g := 66) rfl (fun c14 => ?_) (fun c14 => ?_)
        refine oyg rfl rfl rfl (ymv rfl) ?_
        refine oyg rfl rfl rfl (ymv rfl) ?_
        refine oyg rfl rfl rfl (ybI rfl rfl rfl) ?_
        refine oy rfl (ypT rfl rfl) ?_
        refine oy rfl (ymv rfl) ?_
        refine xd (g := 71) rfl (fun c15 => ?_) (fun c15 => by exfalso; omega)
        refine oyg rfl rfl rfl (ymv rfl) ?_
        refine oyg rfl rfl rfl (ymv rfl) ?_
        refine oyg rfl rfl rfl (ybI rfl rfl rfl) ?_
        refine oy rfl (ypT rfl rfl) ?_
        refine oy rfl (ymv rfl) ?_
        refine xd (g := 76) rfl (fun c16 => ?_) (fun c16 => by exfalso; omega)
        refine oyg rfl rfl rfl (ymv rfl) ?_
        refine oyg rfl rfl rfl (ymv rfl) ?_
        refine oyg rfl rfl rfl (ybI rfl rfl rfl) ?_
        refine oy rfl (ypT rfl rfl) ?_
        refine oy rfl (yas rfl) ?_
        refine on ?_
        refine pn ?_
        refine rt ?_
        refine ret_ rfl (fun hM => ?_)
        rotate_left
        refine ln rfl rfl rfl rfl ?_
        refine ln rfl rfl rfl rfl ?_
        refine ln rfl rfl rfl rfl ?_
        refine oy rfl (ypF rfl rfl) ?_
        refine oy rfl (ymv rfl) ?_
        refine ln rfl rfl rfl rfl ?_
        refine ln rfl rfl rfl rfl ?_
        refine ln rfl rfl rfl rfl ?_
        refine oy rfl (ypF rfl rfl) ?_
        refine oy rfl (ymv rfl) ?_
        refine ln rfl rfl rfl rfl ?_
        refine ln rfl rfl rfl rfl ?_
        refine ln rfl rfl rfl rfl ?_
        refine oy rfl (ypF rfl rfl) ?_
        refine oy rfl (yas rfl) ?_
        refine on ?_
        refine pn ?_
        refine rt ?_
        refine ret_ rfl (fun hM => ?_)
        rotate_left
        refine ln rfl rfl rfl rfl ?_
        refine ln rfl rfl rfl rfl ?_
        refine ln rfl rfl rfl rfl ?_
        refine lu rfl rfl rfl ?_
        refine lu rfl rfl rfl ?_
        refine ln rfl rfl rfl rfl ?_
        refine oy rfl (ypF rfl rfl) ?_
        refine oy rfl (ymv rfl) ?_
        refine ln rfl rfl rfl rfl ?_
        refine ln rfl rfl rfl rfl ?_
        refine ln rfl rfl rfl rfl ?_
        refine oy rfl (ypF rfl rfl) ?_
        refine oy rfl (ymv rfl) ?_
        refine ln rfl rfl rfl rfl ?_
        refine ln rfl rfl rfl rfl ?_
        refine ln rfl rfl rfl rfl ?_
        refine oy rfl (ypF rfl rfl) ?_
        refine oy rfl (ymv rfl) ?_
        refine ln rfl rfl rfl rfl ?_
        refine ln rfl rfl rfl rfl ?_
        refine ln rfl rfl rfl rfl ?_
        refine oy rfl (ypF rfl rfl) ?_
        refine oy rfl (ymv rfl) ?_
        refine ln rfl rfl rfl rfl ?_
        refine ln rfl rfl rfl rfl ?_
        refine ln rfl rfl rfl rfl ?_
        refine oy rfl (ypF rfl rfl) ?_
        refine oy rfl (yas rfl) ?_
        refine on ?_
        refine pn ?_
        refine rt ?_
        refine ret_ rfl (fun hM => ?_)
        rotate_left
      all_goals refine ⟨hM.ext, ?_⟩
      all_goals simp_all [ret1]
end Go.Proofs.YtkhlmpkodjoioaaDoor
