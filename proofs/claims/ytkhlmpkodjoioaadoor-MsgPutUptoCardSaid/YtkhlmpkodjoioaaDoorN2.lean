/- Names: the document's Right, DocWire. -/
import Derived.Test.YtkhlmpkodjoioaaDoorN1
import Derived.Test.YtkhlmpkodjoioaaDoorCv
set_option linter.unusedVariables false
set_option linter.unusedSimpArgs false
set_option maxRecDepth 10000
namespace Go.Proofs.YtkhlmpkodjoioaaDoor
theorem DocLabels_call {n : Nat} {e : Env} {Q : Post} {K : Act → World → Prop} {S : List Nat} {w0 w : World} {H : List Hc} {d : Nat} {ty : TypeId} {ps : String} {af : Array Edge} {gd : Option (Nat × Bool)} {ar : Array Operand} {ts : Array TypeId} {s : List UInt8}
    (hd : Nat.ble (d + 1) n = true) (ha : evs e ar.toList = some [.string (sOf s)]) (hs : s.length ≤ 4294967296)
    (h1 : ∀ l sv w', labels s = some l → WK n K ((d, .tuple #[sv, .int .i64 0]) :: e) ⟨S, w0, ow ES 9 sv l :: H⟩ w')
    (h2 : ∀ w', labels s = none → WK n K ((d, .tuple #[.slice none 0 0, .int .i64 14]) :: e) ⟨S, w0, H⟩ w') :
    WK n (wo Tryd.prog Q ⟨some d, .call { callee := .value (.func 40), args := ar, argTypes := ts }, ty, ps, af, gd⟩ K) e ⟨S, w0, H⟩ w :=
  ocm hd ha fun hM => (DocLabels_spec s w hs).mono fun v w' ⟨he, hr⟩ => by
    unfold labR at hr
    split at hr
    · rename_i l hl; obtain ⟨sv, rfl, ho⟩ := hr; exact ⟨_, hM.addo he ho, h1 _ _ _ hl⟩
    · rename_i hl; subst hr; exact ⟨_, hM.e0 he, h2 _ hl⟩
theorem Right17_spec (s : List UInt8) (w : World) (hs : s.length ≤ 4294967296) : Spec Tryd.prog 48 [.string (sOf s)].toArray w (fun v w' => Ext [] w w' ∧ v = .bool (rightName s)) := by
  refine Spec.intro Tryd.func48 rfl rfl (Nat.le_of_ble_eq_true rfl) (Mok.start w) ?_
  focus
    refine rsr ?_
    refine oy rfl (yas rfl) ?_
    refine on ?_
    refine pn ?_
    refine rsr ?_
    refine oy rfl (ymv rfl) ?_
    refine l0 ?_
    refine DocLabels_call rfl rfl (by assumption) (fun l1 v1 w1 e1 => ?_) (fun w1 e1 => ?_)
    refine oy rfl (ymv rfl) ?_
    refine oy rfl (yex rfl rfl) ?_
    refine oy rfl (yex rfl rfl) ?_
    refine oy rfl (yas rfl) ?_
    refine oy rfl (yas rfl) ?_
    refine on ?_
    refine pn ?_
    refine rsr ?_
    refine oy rfl (ymv rfl) ?_
    refine oy rfl (ybI rfl rfl rfl) ?_
    refine oy rfl (yas rfl) ?_
    refine on ?_
    refine pn ?_
    refine rt ?_
    refine ret_ rfl (fun hM => ?_)
    rotate_left
    refine oy rfl (ymv rfl) ?_
    refine oy rfl (yex rfl rfl) ?_
    refine oy rfl (yex rfl rfl) ?_
    refine oy rfl (yas rfl) ?_
    refine oy rfl (yas rfl) ?_
    refine on ?_
    refine pn ?_
    refine rsr ?_
    refine oy rfl (ymv rfl) ?_
    refine oy rfl (ybI rfl rfl rfl) ?_
    refine oy rfl (yas rfl) ?_
    refine on ?_
    refine pn ?_
    refine rt ?_
    refine ret_ rfl (fun hM => ?_)
    rotate_left
  · exact ⟨hM.ext, by simp [ret1, rightName, e1]⟩
  · exact ⟨hM.ext, by simp [ret1, rightName, e1]⟩
def wire2 (r : List UInt8 × Nat) : Value := .tuple #[.string (sOf r.1), .int .i64 r.2]
theorem DocWire_spec (s : List UInt8) (w : World) (hs : s.length ≤ 4294967296) : Spec Tryd.prog 83 [.string (sOf s)].toArray w (fun v w' => Ext [] w w' ∧ v = wire2 (wireN s)) := by
  refine Spec.intro Tryd.func83 rfl rfl (Nat.le_of_ble_eq_true rfl) (Mok.start w) ?_
  focus
    refine rsr ?_
    refine oy rfl (yas rfl) ?_
    refine oy rfl (yas rfl) ?_
    refine on ?_
    refine pn ?_
    refine rsr ?_
    refine oy rfl (ymv rfl) ?_
    refine l0 ?_
    refine DocLabels_call rfl rfl (by assumption) (fun l1 v1 w1 e1 => ?_) (fun w1 e1 => ?_)
    refine oy rfl (ymv rfl) ?_
    refine oy rfl (yex rfl rfl) ?_
    refine oy rfl (yex rfl rfl) ?_
    refine oy rfl (yas rfl) ?_
    refine oy rfl (yas rfl) ?_
    refine on ?_
    refine pn ?_
    refine rs_ ?_
    refine rsr ?_
    refine oy rfl (ymv rfl) ?_
    refine oy rfl (ybI rfl rfl rfl) ?_
    refine on ?_
    refine pn ?_
    refine rcF rfl ?_
    refine rk ?_
    refine pn ?_
    refine rsr ?_
    refine oy rfl (yas rfl) ?_
    refine on ?_
    refine pn ?_
    refine rs_ ?_
    refine rsr ?_
    refine oy rfl (yas rfl) ?_
    refine on ?_
    refine pn ?_
    refine rb ?_
    rotate_left
    refine oy rfl (ymv rfl) ?_
    refine oy rfl (yex rfl rfl) ?_
    refine oy rfl (yex rfl rfl) ?_
    refine oy rfl (yas rfl) ?_
    refine oy rfl (yas rfl) ?_
    refine on ?_
    refine pn ?_
    refine rs_ ?_
    refine rsr ?_
    refine oy rfl (ymv rfl) ?_
    refine oy rfl (ybI rfl rfl rfl) ?_
    refine on ?_
    refine pn ?_
    refine rcT rfl ?_
    refine rsr ?_
    refine oy rfl (ymv rfl) ?_
    refine oy rfl (yas rfl) ?_
    refine oy rfl (yas rfl) ?_
    refine on ?_
    refine pn ?_
    refine rt ?_
    refine pr ?_
    refine ret_ rfl (fun hM => ?_)
    rotate_left
  · obtain ⟨-, hok⟩ := labels_iff.1 e1
    refine loop [6, 7] [4] (fun vs H => ∃ i : Nat, vs = [.string (sOf ((l1.take i).flatMap enc1)), .int .i64 i] ∧ H = [ow ES 9 v1 l1] ∧ i ≤ l1.length) (fun vs => l1.length - intAt vs 1) rfl rfl (List.Sublist.refl _) ⟨0, rfl, rfl, Nat.zero_le _⟩ ?_
    rintro _ _ w' ⟨i, rfl, rfl, hi⟩
    have hb := flat_take_le l1 i
    have hb2 := hok.2
    have hl2 : l1.length ≤ (dots l1).length := by rw [dots_len]; omega
    by_cases hil : i < l1.length
    · have hp := lab_le hok (List.getElem_mem hil)
      focus
        refine rs_ ?_
        refine rsr ?_
        refine oy rfl (ymv rfl) ?_
        refine oy rfl (ymv rfl) ?_
        refine oy rfl (yls rfl (sl_own 0 rfl)) ?_
        refine oy rfl (ybI rfl rfl rfl) ?_
        refine on ?_
        refine pn ?_
        refine rcd rfl (fun c1 => ?_) (fun c1 => by exfalso; omega)
        refine rk ?_
        refine pn ?_
        refine rs_ ?_
        refine rb ?_
        refine rd0 rfl ?_
        refine dt (i := 0) rfl (by decide +kernel) (List.Sublist.refl _) rfl (fun _ ha => g0 ha) (ymv rfl) ?_
        refine dt (i := 1) rfl (by decide +kernel) (List.Sublist.refl _) rfl (fun _ ha => g0 ha) (ymv rfl) ?_
        refine dt (i := 2) rfl (by decide +kernel) (List.Sublist.refl _) rfl (fun _ ha => g0 ha) (ymv rfl) ?_
        refine dt (i := 3) rfl (by decide +kernel) (List.Sublist.refl _) rfl (fun _ ha => g0 ha) (yix rfl rfl rfl (sl_own 0 rfl) (by omega)) ?_
        refine dt (i := 4) rfl (by decide +kernel) (List.Sublist.refl _) rfl (fun _ ha => g0 ha) (yleN rfl rfl (sl_own 0 rfl) (by omega)) ?_
        refine dt (i := 5) rfl (by decide +kernel) (List.Sublist.refl _) rfl (fun _ ha => g0 ha) (yln rfl) ?_
        refine dt (i := 6) rfl (by decide +kernel) (List.Sublist.refl _) rfl (fun _ ha => g0 ha) (ycU rfl) ?_
        refine dt (i := 10) rfl (by decide +kernel) (List.Sublist.refl _) rfl (fun _ ha => g0 ha) (ymv rfl) ?_
        refine dt (i := 11) rfl (by decide +kernel) (List.Sublist.refl _) rfl (fun _ ha => g0 ha) (ymv rfl) ?_
        refine dt (i := 12) rfl (by decide +kernel) (List.Sublist.refl _) rfl (fun _ ha => g0 ha) (yix rfl rfl rfl (sl_own 0 rfl) (by omega)) ?_
        refine dt (i := 13) rfl (by decide +kernel) (List.Sublist.refl _) rfl (fun _ ha => g0 ha) (yleN rfl rfl (sl_own 0 rfl) (by omega)) ?_
        refine d1 (i := 7) (by decide +kernel) rfl ?_
        refine wz ?_
        refine oli EB [_] rfl rfl rfl rfl rfl (fun g2 w2 l2 => ?_)
        refine dg (by simp) ?_
        refine d1 (i := 8) (by decide +kernel) rfl ?_
        refine wz ?_
        refine wy rfl (ycB rfl (sl_own 0 rfl)) ?_
        refine dg (by simp) ?_
        refine d1 (i := 9) (by decide +kernel) rfl ?_
        refine wz ?_
        refine wy rfl (yba rfl rfl (by simp only [List.length_append, List.length_take, List.length_drop, List.length_cons, List.length_nil]; omega)) ?_
        refine dg (by simp) ?_
        refine d1 (i := 14) (by decide +kernel) rfl ?_
        refine wz ?_
        refine wy rfl (yba rfl rfl (by simp only [List.length_append, List.length_take, List.length_drop, List.length_cons, List.length_nil]; omega)) ?_
        refine dg (by simp) ?_
        refine d1 (i := 15) (by decide +kernel) rfl ?_
        refine wz ?_
        refine wy rfl (yas rfl) ?_
        refine dg (by simp) ?_
        refine de (by decide +kernel) ?_
        refine pbn ?_
        refine pn ?_
        refine rr ?_
        refine oy rfl (ymv rfl) ?_
        refine oy rfl (ybW rfl rfl rfl (by omega)) ?_
        refine oy rfl (yas rfl) ?_
        refine on ?_
        refine pn ?_
        rotate_left
      refine round (vs := [.string (sOf _), .int .i64 (i + 1 : Nat)]) rfl rfl (by simp) ⟨i + 1, ?_, rfl, by omega⟩ (by simp [intAt]; omega)
      rw [flat_take hil]
      simp [enc1]
    · focus
        refine rs_ ?_
        refine rsr ?_
        refine oy rfl (ymv rfl) ?_
        refine oy rfl (ymv rfl) ?_
        refine oy rfl (yls rfl (sl_own 0 rfl)) ?_
        refine oy rfl (ybI rfl rfl rfl) ?_
        refine on ?_
        refine pn ?_
        refine rcd rfl (fun c1 => by exfalso; omega) (fun c1 => ?_)
        refine re ?_
        refine pe ?_
        refine pe ?_
        refine pbe ?_
        refine pn ?_
        refine rsr ?_
        refine oy rfl (ymv rfl) ?_
        refine oy rfl (yba rfl rfl (by simp only [List.length_append, List.length_take, List.length_drop, List.length_cons, List.length_nil]; omega)) ?_
        refine oy rfl (yas rfl) ?_
        refine oy rfl (yas rfl) ?_
        refine on ?_
        refine pn ?_
        refine rt ?_
        refine ret_ rfl (fun hM => ?_)
        rotate_left
      refine ⟨hM.ext, ?_⟩
      have h0 : i = l1.length := by omega
      subst h0
      simp [wire2, wireN, e1, ret1, wireOf]
  · exact ⟨hM.ext, by simp [wire2, wireN, e1, ret1]; rfl⟩
end Go.Proofs.YtkhlmpkodjoioaaDoor
