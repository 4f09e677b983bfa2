/- Messages: the same, small, the program's out of the document's. -/
import Derived.Test.YtkhlmpkodjoioaaDoorN24
import Derived.Test.YtkhlmpkodjoioaaDoorMq
set_option linter.unusedVariables false
set_option linter.unusedSimpArgs false
set_option maxRecDepth 100000
set_option maxHeartbeats 8000000
namespace Go.Proofs.YtkhlmpkodjoioaaDoor
theorem small_spec (m : Msg) (s : MsgS) (w : World) (hI : MsgIn w m s) : Spec Tryd.prog 22 [m.val s].toArray w (fun v w' => Ext [] w w' ∧ v = .bool (decide (m.ask.length ≤ 320 ∧ m.answers.length ≤ 320 ∧ m.authority.length ≤ 320 ∧ m.extra.length ≤ 320))) := by
  refine Spec.intro Tryd.func22 rfl rfl (Nat.le_of_ble_eq_true rfl) (Mok.start w) ?_
  have la := hI.a.len
  have lb := hI.b.len
  have lc := hI.c.len
  have ld := hI.d.len
  focus
    refine rsr ?_
    refine l0 ?_
    refine obx rfl rfl (fun g1 w1 l1 => ?_)
    refine oy rfl (yas rfl) ?_
    refine on ?_
    refine pn ?_
    refine rsr ?_
    refine oy rfl (yfa rfl) ?_
    refine oy rfl (yld 0 rfl rfl rfl) ?_
    refine oy rfl (yll rfl) ?_
    refine oy rfl (ybI rfl rfl rfl) ?_
    refine oy rfl (ymv rfl) ?_
    refine xd (g := 7) rfl (fun c2 => ?_) (fun c2 => ?_)
    refine oyg rfl rfl rfl (yfa rfl) ?_
    refine oyg rfl rfl rfl (yld 0 rfl rfl rfl) ?_
    refine oyg rfl rfl rfl (yll rfl) ?_
    refine oyg rfl rfl rfl (ybI rfl rfl rfl) ?_
    refine oy rfl (ypT rfl rfl) ?_
    refine oy rfl (ymv rfl) ?_
    refine xd (g := 13) rfl (fun c3 => ?_) (fun c3 => ?_)
    refine oyg rfl rfl rfl (yfa rfl) ?_
    refine oyg rfl rfl rfl (yld 0 rfl rfl rfl) ?_
    refine oyg rfl rfl rfl (yll rfl) ?_
    refine oyg rfl rfl rfl (ybI rfl rfl rfl) ?_
    refine oy rfl (ypT rfl rfl) ?_
    refine oy rfl (ymv rfl) ?_
    refine xd (g := 19) rfl (fun c4 => ?_) (fun c4 => ?_)
    refine oyg rfl rfl rfl (yfa rfl) ?_
    refine oyg rfl rfl rfl (yld 0 rfl rfl rfl) ?_
    refine oyg rfl rfl rfl (yll rfl) ?_
    refine oyg rfl rfl rfl (ybI rfl rfl rfl) ?_
    refine oy rfl (ypT rfl rfl) ?_
    refine oy rfl (yas rfl) ?_
    refine on ?_
    refine pn ?_
    refine rt ?_
    refine ret_ rfl (fun hM => ?_)
    rotate_left
    refine ln rfl rfl rfl rfl ?_
    refine ln rfl rfl rfl rfl ?_
    refine ln rfl rfl rfl rfl ?_
    refine ln rfl rfl rfl rfl ?_
    refine oy rfl (ypF rfl rfl) ?_
    refine oy rfl (yas rfl) ?_
    refine on ?_
    refine pn ?_
    refine rt ?_
    refine ret_ rfl (fun hM => ?_)
    rotate_left
    refine ln rfl rfl rfl rfl ?_
    refine ln rfl rfl rfl rfl ?_
    refine ln rfl rfl rfl rfl ?_
    refine ln rfl rfl rfl rfl ?_
    refine oy rfl (ypF rfl rfl) ?_
    refine oy rfl (ymv rfl) ?_
    refine ln rfl rfl rfl rfl ?_
    refine ln rfl rfl rfl rfl ?_
    refine ln rfl rfl rfl rfl ?_
    refine ln rfl rfl rfl rfl ?_
    refine oy rfl (ypF rfl rfl) ?_
    refine oy rfl (yas rfl) ?_
    refine on ?_
    refine pn ?_
    refine rt ?_
    refine ret_ rfl (fun hM => ?_)
    rotate_left
    refine ln rfl rfl rfl rfl ?_
    refine ln rfl rfl rfl rfl ?_
    refine ln rfl rfl rfl rfl ?_
    refine ln rfl rfl rfl rfl ?_
    refine oy rfl (ypF rfl rfl) ?_
    refine oy rfl (ymv rfl) ?_
    refine ln rfl rfl rfl rfl ?_
    refine ln rfl rfl rfl rfl ?_
    refine ln rfl rfl rfl rfl ?_
    refine ln rfl rfl rfl rfl ?_
    refine oy rfl (ypF rfl rfl) ?_
    refine oy rfl (ymv rfl) ?_
    refine ln rfl rfl rfl rfl ?_
    refine ln rfl rfl rfl rfl ?_
    refine ln rfl rfl rfl rfl ?_
    refine ln rfl rfl rfl rfl ?_
    refine oy rfl (ypF rfl rfl) ?_
    refine oy rfl (yas rfl) ?_
    refine on ?_
    refine pn ?_
    refine rt ?_
    refine ret_ rfl (fun hM => ?_)
    rotate_left
  all_goals
    refine ⟨hM.ext, ?_⟩
    simp only [ret1]
    first
      | exact congrArg Value.bool (decide_eq_true (by omega)).symm
      | exact congrArg Value.bool (decide_eq_false (by omega)).symm
      | (congr 1; rw [decide_eq_decide]; omega)
theorem eq_take {α : Type} {a b : List α} (hl : a.length = b.length) (h : ∀ j (h1 : j < a.length) (h2 : j < b.length), a[j] = b[j]) : a = b := List.ext_getElem hl h
theorem Records_spec (u v : Value) (a b : List Rec) (w : World) (ha : Sl ER w u a) (hb : Sl ER w v b) : Spec Tryd.prog 36 [u, v].toArray w (fun v' w' => Ext [] w w' ∧ v' = .bool (decide (a = b))) := by
  refine Spec.intro Tryd.func36 rfl rfl (Nat.le_of_ble_eq_true rfl) (Mok.start w) ?_
  have ha1 := ha.le
  have hb1 := hb.le
  by_cases hl : a.length = b.length
  · focus
      refine rsr ?_
      refine oy rfl (yas rfl) ?_
      refine on ?_
      refine pn ?_
      refine rs_ ?_
      refine rsr ?_
      refine oy rfl (ymv rfl) ?_
      refine oy rfl (yls rfl (sl_arg ha rfl)) ?_
      refine oy rfl (ymv rfl) ?_
      refine oy rfl (yls rfl (sl_arg hb rfl)) ?_
      refine oy rfl (ybI rfl rfl rfl) ?_
      refine on ?_
      refine pn ?_
      refine rcd rfl (fun c1 => by exfalso; omega) (fun c1 => ?_)
      refine rk ?_
      refine pn ?_
      refine rs_ ?_
      refine rsr ?_
      refine oy rfl (yas rfl) ?_
      refine on ?_
      refine pn ?_
      refine rb ?_
      rotate_left
    refine loop [5] [0, 1] (fun vs H => ∃ i : Nat, vs = [.int .i64 i] ∧ H = [] ∧ i ≤ a.length ∧ ∀ j (h1 : j < a.length) (h2 : j < b.length), j < i → a[j] = b[j]) (fun vs => a.length - intAt vs 0) rfl rfl (List.Sublist.refl _) ⟨0, rfl, rfl, by omega, fun j h1 h2 h => by omega⟩ ?_
    rintro _ _ w' ⟨i, rfl, rfl, hi, hok⟩
    by_cases hil : i < a.length
    · have hib : i < b.length := by omega
      by_cases he : a[i] = b[i]
      · focus
          refine rs_ ?_
          refine rsr ?_
          refine oy rfl (ymv rfl) ?_
          refine oy rfl (ymv rfl) ?_
          refine oy rfl (yls rfl (sl_arg ha rfl)) ?_
          refine oy rfl (ybI rfl rfl rfl) ?_
          refine on ?_
          refine pn ?_
          refine rcd rfl (fun c1 => ?_) (fun c1 => by exfalso; omega)
          refine rk ?_
          refine pn ?_
          refine rs_ ?_
          refine rb ?_
          refine rs_ ?_
          refine rq rfl (by decide +kernel) ?_
          refine qy rfl (ymv rfl) ?_
          refine qy rfl (ymv rfl) ?_
          refine qy rfl (yix rfl rfl rfl (sl_arg ha rfl) (by omega)) ?_
          refine qy rfl (yleN rfl rfl (sl_arg ha rfl) (by omega)) ?_
          refine qy rfl (ymv rfl) ?_
          refine qy rfl (ymv rfl) ?_
          refine qy rfl (yix rfl rfl rfl (sl_arg hb rfl) (by omega)) ?_
          refine qy rfl (yleN rfl rfl (sl_arg hb rfl) (by omega)) ?_
          refine qy rfl (ynR rfl rfl) ?_
          refine qend (fun w2 => ?_)
          refine pn ?_
          refine rcd rfl (fun c3 => ?_) (fun c3 => ?_)
          refine rsr ?_
          refine oy rfl (yas rfl) ?_
          refine on ?_
          refine pn ?_
          refine rt ?_
          refine pbr ?_
          refine pr ?_
          refine pr ?_
          refine pbr ?_
          refine pr ?_
          refine ret_ rfl (fun hM => ?_)
          rotate_left
          refine rk ?_
          refine pbn ?_
          refine pn ?_
          refine rr ?_
          refine oy rfl (ymv rfl) ?_
          refine oy rfl (ybW rfl rfl rfl (by omega)) ?_
          refine oy rfl (yas rfl) ?_
          refine on ?_
          refine pn ?_
          rotate_left
        · exact absurd he (by assumption)
        · refine round rfl rfl (List.Sublist.refl _) ⟨i + 1, rfl, rfl, by omega, fun j h1 h2 h => ?_⟩ (show a.length - (i + 1) < a.length - i by omega)
          rcases Nat.lt_or_ge j i with h' | h'
          · exact hok j h1 h2 h'
          · have : j = i := by omega
            subst this; exact he
      · focus
          refine rs_ ?_
          refine rsr ?_
          refine oy rfl (ymv rfl) ?_
          refine oy rfl (ymv rfl) ?_
          refine oy rfl (yls rfl (sl_arg ha rfl)) ?_
          refine oy rfl (ybI rfl rfl rfl) ?_
          refine on ?_
          refine pn ?_
          refine rcd rfl (fun c1 => ?_) (fun c1 => by exfalso; omega)
          refine rk ?_
          refine pn ?_
          refine rs_ ?_
          refine rb ?_
          refine rs_ ?_
          refine rq rfl (by decide +kernel) ?_
          refine qy rfl (ymv rfl) ?_
          refine qy rfl (ymv rfl) ?_
          refine qy rfl (yix rfl rfl rfl (sl_arg ha rfl) (by omega)) ?_
          refine qy rfl (yleN rfl rfl (sl_arg ha rfl) (by omega)) ?_
          refine qy rfl (ymv rfl) ?_
          refine qy rfl (ymv rfl) ?_
          refine qy rfl (yix rfl rfl rfl (sl_arg hb rfl) (by omega)) ?_
          refine qy rfl (yleN rfl rfl (sl_arg hb rfl) (by omega)) ?_
          refine qy rfl (ynR rfl rfl) ?_
          refine qend (fun w2 => ?_)
          refine pn ?_
          refine rcd rfl (fun c3 => ?_) (fun c3 => ?_)
          refine rsr ?_
          refine oy rfl (yas rfl) ?_
          refine on ?_
          refine pn ?_
          refine rt ?_
          refine pbr ?_
          refine pr ?_
          refine pr ?_
          refine pbr ?_
          refine pr ?_
          refine ret_ rfl (fun hM => ?_)
          rotate_left
          refine rk ?_
          refine pbn ?_
          refine pn ?_
          refine rr ?_
          refine oy rfl (ymv rfl) ?_
          refine oy rfl (ybW rfl rfl rfl (by omega)) ?_
          refine oy rfl (yas rfl) ?_
          refine on ?_
          refine pn ?_
          rotate_left
        · exact ⟨hM.ext, congrArg Value.bool (decide_eq_false fun h => he (by subst h; rfl)).symm⟩
        · exact absurd he (by assumption)
    · focus
        refine rs_ ?_
        refine rsr ?_
        refine oy rfl (ymv rfl) ?_
        refine oy rfl (ymv rfl) ?_
        refine oy rfl (yls rfl (sl_arg ha rfl)) ?_
        refine oy rfl (ybI rfl rfl rfl) ?_
        refine on ?_
        refine pn ?_
        refine rcd rfl (fun c1 => by exfalso; omega) (fun c1 => ?_)
        refine re ?_
        refine pe ?_
        refine pe ?_
        refine pbe ?_
        refine pn ?_
        refine rsr ?_
        refine oy rfl (yas rfl) ?_
        refine on ?_
        refine pn ?_
        refine rt ?_
        refine ret_ rfl (fun hM => ?_)
        rotate_left
      exact ⟨hM.ext, congrArg Value.bool (decide_eq_true (eq_take hl fun j h1 h2 => hok j h1 h2 (by omega))).symm⟩
  · focus
      refine rsr ?_
      refine oy rfl (yas rfl) ?_
      refine on ?_
      refine pn ?_
      refine rs_ ?_
      refine rsr ?_
      refine oy rfl (ymv rfl) ?_
      refine oy rfl (yls rfl (sl_arg ha rfl)) ?_
      refine oy rfl (ymv rfl) ?_
      refine oy rfl (yls rfl (sl_arg hb rfl)) ?_
      refine oy rfl (ybI rfl rfl rfl) ?_
      refine on ?_
      refine pn ?_
      refine rcd rfl (fun c1 => ?_) (fun c1 => by exfalso; omega)
      refine rsr ?_
      refine oy rfl (yas rfl) ?_
      refine on ?_
      refine pn ?_
      refine rt ?_
      refine pr ?_
      refine ret_ rfl (fun hM => ?_)
      rotate_left
    exact ⟨hM.ext, congrArg Value.bool (decide_eq_false fun h => hl (by rw [h])).symm⟩
theorem Questions_spec (u v : Value) (a b : List Que) (w : World) (ha : Sl EQ w u a) (hb : Sl EQ w v b) : Spec Tryd.prog 46 [u, v].toArray w (fun v' w' => Ext [] w w' ∧ v' = .bool (decide (a = b))) := by
  refine Spec.intro Tryd.func46 rfl rfl (Nat.le_of_ble_eq_true rfl) (Mok.start w) ?_
  have ha1 := ha.le
  have hb1 := hb.le
  by_cases hl : a.length = b.length
  · focus
      refine rsr ?_
      refine oy rfl (yas rfl) ?_
      refine on ?_
      refine pn ?_
      refine rs_ ?_
      refine rsr ?_
      refine oy rfl (ymv rfl) ?_
      refine oy rfl (yls rfl (sl_arg ha rfl)) ?_
      refine oy rfl (ymv rfl) ?_
      refine oy rfl (yls rfl (sl_arg hb rfl)) ?_
      refine oy rfl (ybI rfl rfl rfl) ?_
      refine on ?_
      refine pn ?_
      refine rcd rfl (fun c1 => by exfalso; omega) (fun c1 => ?_)
      refine rk ?_
      refine pn ?_
      refine rs_ ?_
      refine rsr ?_
      refine oy rfl (yas rfl) ?_
      refine on ?_
      refine pn ?_
      refine rb ?_
      rotate_left
    refine loop [5] [0, 1] (fun vs H => ∃ i : Nat, vs = [.int .i64 i] ∧ H = [] ∧ i ≤ a.length ∧ ∀ j (h1 : j < a.length) (h2 : j < b.length), j < i → a[j] = b[j]) (fun vs => a.length - intAt vs 0) rfl rfl (List.Sublist.refl _) ⟨0, rfl, rfl, by omega, fun j h1 h2 h => by omega⟩ ?_
    rintro _ _ w' ⟨i, rfl, rfl, hi, hok⟩
    by_cases hil : i < a.length
    · have hib : i < b.length := by omega
      by_cases he : a[i] = b[i]
      · focus
          refine rs_ ?_
          refine rsr ?_
          refine oy rfl (ymv rfl) ?_
          refine oy rfl (ymv rfl) ?_
          refine oy rfl (yls rfl (sl_arg ha rfl)) ?_
          refine oy rfl (ybI rfl rfl rfl) ?_
          refine on ?_
          refine pn ?_
          refine rcd rfl (fun c1 => ?_) (fun c1 => by exfalso; omega)
          refine rk ?_
          refine pn ?_
          refine rs_ ?_
          refine rb ?_
          refine rs_ ?_
          refine rq rfl (by decide +kernel) ?_
          refine qy rfl (ymv rfl) ?_
          refine qy rfl (ymv rfl) ?_
          refine qy rfl (yix rfl rfl rfl (sl_arg ha rfl) (by omega)) ?_
          refine qy rfl (yleN rfl rfl (sl_arg ha rfl) (by omega)) ?_
          refine qy rfl (ymv rfl) ?_
          refine qy rfl (ymv rfl) ?_
          refine qy rfl (yix rfl rfl rfl (sl_arg hb rfl) (by omega)) ?_
          refine qy rfl (yleN rfl rfl (sl_arg hb rfl) (by omega)) ?_
          refine qy rfl (ynQ rfl rfl) ?_
          refine qend (fun w2 => ?_)
          refine pn ?_
          refine rcd rfl (fun c3 => ?_) (fun c3 => ?_)
          refine rsr ?_
          refine oy rfl (yas rfl) ?_
          refine on ?_
          refine pn ?_
          refine rt ?_
          refine pbr ?_
          refine pr ?_
          refine pr ?_
          refine pbr ?_
          refine pr ?_
          refine ret_ rfl (fun hM => ?_)
          rotate_left
          refine rk ?_
          refine pbn ?_
          refine pn ?_
          refine rr ?_
          refine oy rfl (ymv rfl) ?_
          refine oy rfl (ybW rfl rfl rfl (by omega)) ?_
          refine oy rfl (yas rfl) ?_
          refine on ?_
          refine pn ?_
          rotate_left
        · exact absurd he (by assumption)
        · refine round rfl rfl (List.Sublist.refl _) ⟨i + 1, rfl, rfl, by omega, fun j h1 h2 h => ?_⟩ (show a.length - (i + 1) < a.length - i by omega)
          rcases Nat.lt_or_ge j i with h' | h'
          · exact hok j h1 h2 h'
          · have : j = i := by omega
            subst this; exact he
      · focus
          refine rs_ ?_
          refine rsr ?_
          refine oy rfl (ymv rfl) ?_
          refine oy rfl (ymv rfl) ?_
          refine oy rfl (yls rfl (sl_arg ha rfl)) ?_
          refine oy rfl (ybI rfl rfl rfl) ?_
          refine on ?_
          refine pn ?_
          refine rcd rfl (fun c1 => ?_) (fun c1 => by exfalso; omega)
          refine rk ?_
          refine pn ?_
          refine rs_ ?_
          refine rb ?_
          refine rs_ ?_
          refine rq rfl (by decide +kernel) ?_
          refine qy rfl (ymv rfl) ?_
          refine qy rfl (ymv rfl) ?_
          refine qy rfl (yix rfl rfl rfl (sl_arg ha rfl) (by omega)) ?_
          refine qy rfl (yleN rfl rfl (sl_arg ha rfl) (by omega)) ?_
          refine qy rfl (ymv rfl) ?_
          refine qy rfl (ymv rfl) ?_
          refine qy rfl (yix rfl rfl rfl (sl_arg hb rfl) (by omega)) ?_
          refine qy rfl (yleN rfl rfl (sl_arg hb rfl) (by omega)) ?_
          refine qy rfl (ynQ rfl rfl) ?_
          refine qend (fun w2 => ?_)
          refine pn ?_
          refine rcd rfl (fun c3 => ?_) (fun c3 => ?_)
          refine rsr ?_
          refine oy rfl (yas rfl) ?_
          refine on ?_
          refine pn ?_
          refine rt ?_
          refine pbr ?_
          refine pr ?_
          refine pr ?_
          refine pbr ?_
          refine pr ?_
          refine ret_ rfl (fun hM => ?_)
          rotate_left
          refine rk ?_
          refine pbn ?_
          refine pn ?_
          refine rr ?_
          refine oy rfl (ymv rfl) ?_
          refine oy rfl (ybW rfl rfl rfl (by omega)) ?_
          refine oy rfl (yas rfl) ?_
          refine on ?_
          refine pn ?_
          rotate_left
        · exact ⟨hM.ext, congrArg Value.bool (decide_eq_false fun h => he (by subst h; rfl)).symm⟩
        · exact absurd he (by assumption)
    · focus
        refine rs_ ?_
        refine rsr ?_
        refine oy rfl (ymv rfl) ?_
        refine oy rfl (ymv rfl) ?_
        refine oy rfl (yls rfl (sl_arg ha rfl)) ?_
        refine oy rfl (ybI rfl rfl rfl) ?_
        refine on ?_
        refine pn ?_
        refine rcd rfl (fun c1 => by exfalso; omega) (fun c1 => ?_)
        refine re ?_
        refine pe ?_
        refine pe ?_
        refine pbe ?_
        refine pn ?_
        refine rsr ?_
        refine oy rfl (yas rfl) ?_
        refine on ?_
        refine pn ?_
        refine rt ?_
        refine ret_ rfl (fun hM => ?_)
        rotate_left
      exact ⟨hM.ext, congrArg Value.bool (decide_eq_true (eq_take hl fun j h1 h2 => hok j h1 h2 (by omega))).symm⟩
  · focus
      refine rsr ?_
      refine oy rfl (yas rfl) ?_
      refine on ?_
      refine pn ?_
      refine rs_ ?_
      refine rsr ?_
      refine oy rfl (ymv rfl) ?_
      refine oy rfl (yls rfl (sl_arg ha rfl)) ?_
      refine oy rfl (ymv rfl) ?_
      refine oy rfl (yls rfl (sl_arg hb rfl)) ?_
      refine oy rfl (ybI rfl rfl rfl) ?_
      refine on ?_
      refine pn ?_
      refine rcd rfl (fun c1 => ?_) (fun c1 => by exfalso; omega)
      refine rsr ?_
      refine oy rfl (yas rfl) ?_
      refine on ?_
      refine pn ?_
      refine rt ?_
      refine pr ?_
      refine ret_ rfl (fun hM => ?_)
      rotate_left
    exact ⟨hM.ext, congrArg Value.bool (decide_eq_false fun h => hl (by rw [h])).symm⟩
end Go.Proofs.YtkhlmpkodjoioaaDoor
