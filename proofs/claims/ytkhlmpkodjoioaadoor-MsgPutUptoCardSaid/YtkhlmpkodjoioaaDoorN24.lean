/- Messages: the document's Put. -/
import Derived.Test.YtkhlmpkodjoioaaDoorN23
set_option linter.unusedVariables false
set_option linter.unusedSimpArgs false
set_option maxRecDepth 100000
set_option maxHeartbeats 8000000
namespace Go.Proofs.YtkhlmpkodjoioaaDoor
theorem putN_bad {m : Msg} {k : Nat} (h : msgErr m = k) (hk : k ≠ 0) : putN m = ([], k) := by unfold putN; rw [h, if_neg hk]
theorem msgErr_big {m : Msg} (h : 300 < m.ask.length + m.all.length) : msgErr m = 5 := by unfold msgErr; rw [if_pos h]
theorem msgErr_two {m : Msg} (h : ¬ 300 < m.ask.length + m.all.length) (h1 : ¬ (okNums m = true ∧ m.ask.all okQ = true ∧ m.all.all rightRec = true)) : msgErr m = 2 := by
  unfold msgErr
  rw [if_neg h, if_neg (by simp only [Bool.and_eq_true]; exact fun ⟨⟨a, b⟩, c⟩ => h1 ⟨a, b, c⟩)]
theorem msgErr_ok {m : Msg} (h : ¬ 300 < m.ask.length + m.all.length) (h1 : okNums m = true) (h2 : m.ask.all okQ = true) (h3 : m.all.all rightRec = true) : msgErr m = 0 := by
  unfold msgErr
  rw [if_neg h, if_pos (by simp only [Bool.and_eq_true]; exact ⟨⟨h1, h2⟩, h3⟩)]
theorem all_of {α : Type} {f : α → Bool} {l : List α} (h : ∀ j (hj : j < l.length), f l[j] = true) : l.all f = true := List.all_eq_true.2 fun x hx => by
  obtain ⟨j, hj, rfl⟩ := List.mem_iff_getElem.1 hx
  exact h j hj
theorem not_all {α : Type} {f : α → Bool} {l : List α} {j : Nat} (hj : j < l.length) (h : f l[j] = false) : ¬ l.all f = true := fun hh => by
  have := List.all_eq_true.1 hh _ (List.getElem_mem hj)
  rw [h] at this; cases this
theorem DocPut18_spec (m : Msg) (s : MsgS) (w : World) (hI : MsgIn w m s) (hB : MsgB m) (hz : Zw w) : Spec Tryd.prog 24 [m.val s].toArray w (fun v w' => Ext [] w w' ∧ v = wire2 (putN m)) := by
  refine Spec.intro Tryd.func24 rfl rfl (Nat.le_of_ble_eq_true rfl) (Mok.start w) ?_
  have hl := hB.l
  have ha := hB.a
  have la := hI.a.len
  by_cases hbig : 300 < m.ask.length + m.all.length
  · focus
      refine rsr ?_
      refine l0 ?_
      refine obx rfl rfl (fun g1 w1 l1 => ?_)
      refine oy rfl (yas rfl) ?_
      refine oy rfl (yas rfl) ?_
      refine on ?_
      refine pn ?_
      refine rsr ?_
      refine oy rfl (ylS 0 rfl rfl rfl) ?_
      refine l0 ?_
      refine oc1 (R := fun v w' => Own ER w' _ 61 v m.all) rfl rfl (fun hM => all_spec m s _ (hI.e0 hM.ext) hl) (fun v1 w1 o1 => ⟨ow ER 61 v1 m.all, o1.rebase (Nat.zero_le _), fun g hg => (o1.base hg).1, ?_⟩)
      refine oy rfl (yas rfl) ?_
      refine on ?_
      refine pn ?_
      refine rs_ ?_
      refine rsr ?_
      refine oy rfl (yfa rfl) ?_
      refine oy rfl (yld 1 rfl rfl rfl) ?_
      refine oy rfl (yll rfl) ?_
      refine oy rfl (ymv rfl) ?_
      refine oy rfl (yls rfl (sl_own 0 rfl)) ?_
      refine oy rfl (ybW rfl rfl rfl (by omega)) ?_
      refine oy rfl (ybI rfl rfl rfl) ?_
      refine on ?_
      refine pn ?_
      refine rcd rfl (fun c3 => ?_) (fun c3 => by exfalso; omega)
      refine rsr ?_
      refine oy rfl (yas rfl) ?_
      refine oy rfl (yas rfl) ?_
      refine on ?_
      refine pn ?_
      refine rt ?_
      refine pr ?_
      refine ret_ rfl (fun hM => ?_)
      rotate_left
    rw [putN_bad (msgErr_big hbig) (by decide)]
    exact ⟨hM.ext, rfl⟩
  · by_cases hnum : okNums m = true
    · have hnum0 := hnum
      simp only [okNums, Bool.and_eq_true, decide_eq_true_eq] at hnum
      obtain ⟨⟨hid, hki⟩, hco⟩ := hnum
      focus
        refine rsr ?_
        refine l0 ?_
        refine obx rfl rfl (fun g1 w1 l1 => ?_)
        refine oy rfl (yas rfl) ?_
        refine oy rfl (yas rfl) ?_
        refine on ?_
        refine pn ?_
        refine rsr ?_
        refine oy rfl (ylS 0 rfl rfl rfl) ?_
        refine l0 ?_
        refine oc1 (R := fun v w' => Own ER w' _ 61 v m.all) rfl rfl (fun hM => all_spec m s _ (hI.e0 hM.ext) hl) (fun v1 w1 o1 => ⟨ow ER 61 v1 m.all, o1.rebase (Nat.zero_le _), fun g hg => (o1.base hg).1, ?_⟩)
        refine oy rfl (yas rfl) ?_
        refine on ?_
        refine pn ?_
        refine rs_ ?_
        refine rsr ?_
        refine oy rfl (yfa rfl) ?_
        refine oy rfl (yld 1 rfl rfl rfl) ?_
        refine oy rfl (yll rfl) ?_
        refine oy rfl (ymv rfl) ?_
        refine oy rfl (yls rfl (sl_own 0 rfl)) ?_
        refine oy rfl (ybW rfl rfl rfl (by omega)) ?_
        refine oy rfl (ybI rfl rfl rfl) ?_
        refine on ?_
        refine pn ?_
        refine rcd rfl (fun c3 => by exfalso; omega) (fun c3 => ?_)
        refine rk ?_
        refine pn ?_
        refine rs_ ?_
        refine rsr ?_
        refine oy rfl (yfa rfl) ?_
        refine oy rfl (yld 1 rfl rfl rfl) ?_
        refine oy rfl (ybI rfl rfl rfl) ?_
        refine oy rfl (ymv rfl) ?_
        refine xd (g := 29) rfl (fun c4 => by exfalso; omega) (fun c4 => ?_)
        refine oyg rfl rfl rfl (yfa rfl) ?_
        refine oyg rfl rfl rfl (yld 1 rfl rfl rfl) ?_
        refine oyg rfl rfl rfl (ybI rfl rfl rfl) ?_
        refine oy rfl (ypF rfl rfl) ?_
        refine oy rfl (ymv rfl) ?_
        refine xd (g := 34) rfl (fun c5 => by exfalso; omega) (fun c5 => ?_)
        refine oyg rfl rfl rfl (yfa rfl) ?_
        refine oyg rfl rfl rfl (yld 1 rfl rfl rfl) ?_
        refine oyg rfl rfl rfl (ybI rfl rfl rfl) ?_
        refine oy rfl (ypF rfl rfl) ?_
        refine oy rfl (ymv rfl) ?_
        refine xd (g := 39) rfl (fun c6 => by exfalso; omega) (fun c6 => ?_)
        refine oyg rfl rfl rfl (yfa rfl) ?_
        refine oyg rfl rfl rfl (yld 1 rfl rfl rfl) ?_
        refine oyg rfl rfl rfl (ybI rfl rfl rfl) ?_
        refine oy rfl (ypF rfl rfl) ?_
        refine oy rfl (ymv rfl) ?_
        refine xd (g := 44) rfl (fun c7 => by exfalso; omega) (fun c7 => ?_)
        refine oyg rfl rfl rfl (yfa rfl) ?_
        refine oyg rfl rfl rfl (yld 1 rfl rfl rfl) ?_
        refine oyg rfl rfl rfl (ybI rfl rfl rfl) ?_
        refine oy rfl (ypF rfl rfl) ?_
        refine oy rfl (ymv rfl) ?_
        refine xd (g := 49) rfl (fun c8 => by exfalso; omega) (fun c8 => ?_)
        refine oyg rfl rfl rfl (yfa rfl) ?_
        refine oyg rfl rfl rfl (yld 1 rfl rfl rfl) ?_
        refine oyg rfl rfl rfl (ybI rfl rfl rfl) ?_
        refine oy rfl (ypF rfl rfl) ?_
        refine on ?_
        refine pn ?_
        refine rcd rfl (fun c9 => by exfalso; omega) (fun c9 => ?_)
        refine rk ?_
        refine pn ?_
        refine rs_ ?_
        refine rsr ?_
        refine oy rfl (yas rfl) ?_
        refine on ?_
        refine pn ?_
        refine rb ?_
        rotate_left
      refine loop [5] [1, 4] (fun vs H => ∃ i : Nat, vs = [.int .i64 i] ∧ H = [ow ER 61 v1 m.all, bx g1 (.cells (m.val s).cells 46 (0, 0))] ∧ i ≤ m.ask.length ∧ ∀ j (hj : j < m.ask.length), j < i → okQ m.ask[j] = true) (fun vs => m.ask.length - intAt vs 0) rfl rfl (List.Sublist.refl _) ⟨0, rfl, rfl, by omega, fun j hj h => by omega⟩ ?_
      rintro _ _ w' ⟨i, rfl, rfl, hi, hok⟩
      by_cases hil : i < m.ask.length
      · have hqn := hB.q m.ask[i] (List.getElem_mem hil)
        by_cases hq : okQ m.ask[i] = true
        · have hok' : ∀ j (hj : j < m.ask.length), j < i + 1 → okQ m.ask[j] = true := fun j hj hji => by
            rcases Nat.lt_or_ge j i with h | h
            · exact hok j hj h
            · have : j = i := by omega
              subst this; exact hq
          have hq' := hq
          simp only [okQ, Bool.and_eq_true, decide_eq_true_eq] at hq
          obtain ⟨hq1, hq2⟩ := hq
          focus
            refine rs_ ?_
            refine rsr ?_
            refine oy rfl (ymv rfl) ?_
            refine oy rfl (yfa rfl) ?_
            refine oy rfl (yld 1 rfl rfl rfl) ?_
            refine oy rfl (yll rfl) ?_
            refine oy rfl (ybI rfl rfl rfl) ?_
            refine on ?_
            refine pn ?_
            refine rcd rfl (fun c1 => ?_) (fun c1 => by exfalso; omega)
            refine rk ?_
            refine pn ?_
            refine rs_ ?_
            refine rb ?_
            refine rsr ?_
            refine oy rfl (yfa rfl) ?_
            refine oy rfl (yld 1 rfl rfl rfl) ?_
            refine oy rfl (ymv rfl) ?_
            refine oy rfl (yix rfl rfl rfl (sl_arg hI.a rfl) (by omega)) ?_
            refine oy rfl (yfe rfl rfl (sl_arg hI.a rfl) (by omega)) ?_
            refine oy rfl (ylfN rfl rfl (sl_arg hI.a rfl) (by omega) rfl) ?_
            refine l0 ?_
            refine ocd rfl rfl (fun hM => Right17_spec _ _ (by omega)) (fun w2 => ?_)
            refine oy rfl (yno rfl) ?_
            refine oy rfl (ymv rfl) ?_
            refine xb (g := 69) rfl (fun c3 => ?_) (fun c3 => ?_)
            refine ln rfl rfl rfl rfl ?_
            refine ln rfl rfl rfl rfl ?_
            refine ln rfl rfl rfl rfl ?_
            refine ln rfl rfl rfl rfl ?_
            refine ln rfl rfl rfl rfl ?_
            refine ln rfl rfl rfl rfl ?_
            refine ln rfl rfl rfl rfl ?_
            refine oy rfl (ypT rfl rfl) ?_
            refine oy rfl (ymv rfl) ?_
            refine ln rfl rfl rfl rfl ?_
            refine ln rfl rfl rfl rfl ?_
            refine ln rfl rfl rfl rfl ?_
            refine ln rfl rfl rfl rfl ?_
            refine ln rfl rfl rfl rfl ?_
            refine ln rfl rfl rfl rfl ?_
            refine ln rfl rfl rfl rfl ?_
            refine oy rfl (ypT rfl rfl) ?_
            refine on ?_
            refine pn ?_
            refine rcT rfl ?_
            refine rsr ?_
            refine oy rfl (yas rfl) ?_
            refine oy rfl (yas rfl) ?_
            refine on ?_
            refine pn ?_
            refine rt ?_
            refine pbr ?_
            refine pr ?_
            refine pr ?_
            refine pbr ?_
            refine pr ?_
            refine ret_ rfl (fun hM => ?_)
            rotate_left
            refine oyg rfl rfl rfl (yfa rfl) ?_
            refine oyg rfl rfl rfl (yld 1 rfl rfl rfl) ?_
            refine oyg rfl rfl rfl (ymv rfl) ?_
            refine oyg rfl rfl rfl (yix rfl rfl rfl (sl_arg hI.a rfl) (by omega)) ?_
            refine oyg rfl rfl rfl (yfe rfl rfl (sl_arg hI.a rfl) (by omega)) ?_
            refine oyg rfl rfl rfl (ylfN rfl rfl (sl_arg hI.a rfl) (by omega) rfl) ?_
            refine oyg rfl rfl rfl (ybI rfl rfl rfl) ?_
            refine oy rfl (ypF rfl rfl) ?_
            refine oy rfl (ymv rfl) ?_
            refine xd (g := 78) rfl (fun c4 => by exfalso; omega) (fun c4 => ?_)
            refine oyg rfl rfl rfl (yfa rfl) ?_
            refine oyg rfl rfl rfl (yld 1 rfl rfl rfl) ?_
            refine oyg rfl rfl rfl (ymv rfl) ?_
            refine oyg rfl rfl rfl (yix rfl rfl rfl (sl_arg hI.a rfl) (by omega)) ?_
            refine oyg rfl rfl rfl (yfe rfl rfl (sl_arg hI.a rfl) (by omega)) ?_
            refine oyg rfl rfl rfl (ylfN rfl rfl (sl_arg hI.a rfl) (by omega) rfl) ?_
            refine oyg rfl rfl rfl (ybI rfl rfl rfl) ?_
            refine oy rfl (ypF rfl rfl) ?_
            refine on ?_
            refine pn ?_
            refine rcd rfl (fun c5 => by exfalso; omega) (fun c5 => ?_)
            refine rk ?_
            refine pbn ?_
            refine pn ?_
            refine rr ?_
            refine oy rfl (ymv rfl) ?_
            refine oy rfl (ybW rfl rfl rfl (by omega)) ?_
            refine oy rfl (yas rfl) ?_
            refine on ?_
            refine pn ?_
            rotate_left
          · simp_all
          · exact round rfl rfl (List.Sublist.refl _) ⟨i + 1, rfl, rfl, by omega, hok'⟩ (show m.ask.length - (i + 1) < m.ask.length - i by omega)
        · have hqf : okQ m.ask[i] = false := by simpa using hq
          have hp2 : putN m = ([], 2) := putN_bad (msgErr_two hbig fun ⟨_, h, _⟩ => not_all hil hqf h) (by decide)
          simp only [okQ, Bool.and_eq_true, decide_eq_true_eq] at hq
          focus
            refine rs_ ?_
            refine rsr ?_
            refine oy rfl (ymv rfl) ?_
            refine oy rfl (yfa rfl) ?_
            refine oy rfl (yld 1 rfl rfl rfl) ?_
            refine oy rfl (yll rfl) ?_
            refine oy rfl (ybI rfl rfl rfl) ?_
            refine on ?_
            refine pn ?_
            refine rcd rfl (fun c1 => ?_) (fun c1 => by exfalso; omega)
            refine rk ?_
            refine pn ?_
            refine rs_ ?_
            refine rb ?_
            refine rsr ?_
            refine oy rfl (yfa rfl) ?_
            refine oy rfl (yld 1 rfl rfl rfl) ?_
            refine oy rfl (ymv rfl) ?_
            refine oy rfl (yix rfl rfl rfl (sl_arg hI.a rfl) (by omega)) ?_
            refine oy rfl (yfe rfl rfl (sl_arg hI.a rfl) (by omega)) ?_
            refine oy rfl (ylfN rfl rfl (sl_arg hI.a rfl) (by omega) rfl) ?_
            refine l0 ?_
            refine ocd rfl rfl (fun hM => Right17_spec _ _ (by omega)) (fun w2 => ?_)
            refine oy rfl (yno rfl) ?_
            refine oy rfl (ymv rfl) ?_
            refine xb (g := 69) rfl (fun c3 => ?_) (fun c3 => ?_)
            refine ln rfl rfl rfl rfl ?_
            refine ln rfl rfl rfl rfl ?_
            refine ln rfl rfl rfl rfl ?_
            refine ln rfl rfl rfl rfl ?_
            refine ln rfl rfl rfl rfl ?_
            refine ln rfl rfl rfl rfl ?_
            refine ln rfl rfl rfl rfl ?_
            refine oy rfl (ypT rfl rfl) ?_
            refine oy rfl (ymv rfl) ?_
            refine ln rfl rfl rfl rfl ?_
            refine ln rfl rfl rfl rfl ?_
            refine ln rfl rfl rfl rfl ?_
            refine ln rfl rfl rfl rfl ?_
            refine ln rfl rfl rfl rfl ?_
            refine ln rfl rfl rfl rfl ?_
            refine ln rfl rfl rfl rfl ?_
            refine oy rfl (ypT rfl rfl) ?_
            refine on ?_
            refine pn ?_
            refine rcT rfl ?_
            refine rsr ?_
            refine oy rfl (yas rfl) ?_
            refine oy rfl (yas rfl) ?_
            refine on ?_
            refine pn ?_
            refine rt ?_
            refine pbr ?_
            refine pr ?_
            refine pr ?_
            refine pbr ?_
            refine pr ?_
            refine ret_ rfl (fun hM => ?_)
            rotate_left
            refine oyg rfl rfl rfl (yfa rfl) ?_
            refine oyg rfl rfl rfl (yld 1 rfl rfl rfl) ?_
            refine oyg rfl rfl rfl (ymv rfl) ?_
            refine oyg rfl rfl rfl (yix rfl rfl rfl (sl_arg hI.a rfl) (by omega)) ?_
            refine oyg rfl rfl rfl (yfe rfl rfl (sl_arg hI.a rfl) (by omega)) ?_
            refine oyg rfl rfl rfl (ylfN rfl rfl (sl_arg hI.a rfl) (by omega) rfl) ?_
            refine oyg rfl rfl rfl (ybI rfl rfl rfl) ?_
            refine oy rfl (ypF rfl rfl) ?_
            refine oy rfl (ymv rfl) ?_
            refine xd (g := 78) rfl (fun c4 => ?_) (fun c4 => ?_)
            refine ln rfl rfl rfl rfl ?_
            refine ln rfl rfl rfl rfl ?_
            refine ln rfl rfl rfl rfl ?_
            refine ln rfl rfl rfl rfl ?_
            refine ln rfl rfl rfl rfl ?_
            refine ln rfl rfl rfl rfl ?_
            refine ln rfl rfl rfl rfl ?_
            refine oy rfl (ypT rfl rfl) ?_
            refine on ?_
            refine pn ?_
            refine rcT rfl ?_
            refine rsr ?_
            refine oy rfl (yas rfl) ?_
            refine oy rfl (yas rfl) ?_
            refine on ?_
            refine pn ?_
            refine rt ?_
            refine pbr ?_
            refine pr ?_
            refine pr ?_
            refine pbr ?_
            refine pr ?_
            refine ret_ rfl (fun hM => ?_)
            rotate_left
            refine oyg rfl rfl rfl (yfa rfl) ?_
            refine oyg rfl rfl rfl (yld 1 rfl rfl rfl) ?_
            refine oyg rfl rfl rfl (ymv rfl) ?_
            refine oyg rfl rfl rfl (yix rfl rfl rfl (sl_arg hI.a rfl) (by omega)) ?_
            refine oyg rfl rfl rfl (yfe rfl rfl (sl_arg hI.a rfl) (by omega)) ?_
            refine oyg rfl rfl rfl (ylfN rfl rfl (sl_arg hI.a rfl) (by omega) rfl) ?_
            refine oyg rfl rfl rfl (ybI rfl rfl rfl) ?_
            refine oy rfl (ypF rfl rfl) ?_
            refine on ?_
            refine pn ?_
            refine rcd rfl (fun c5 => ?_) (fun c5 => ?_)
            refine rsr ?_
            refine oy rfl (yas rfl) ?_
            refine oy rfl (yas rfl) ?_
            refine on ?_
            refine pn ?_
            refine rt ?_
            refine pbr ?_
            refine pr ?_
            refine pr ?_
            refine pbr ?_
            refine pr ?_
            refine ret_ rfl (fun hM => ?_)
            rotate_left
            refine rk ?_
            refine pbn ?_
            refine pn ?_
            refine rr ?_
            refine oy rfl (ymv rfl) ?_
            refine oy rfl (ybW rfl rfl rfl (by omega)) ?_
            refine oy rfl (yas rfl) ?_
            refine on ?_
            refine pn ?_
            rotate_left
          all_goals first
            | (refine ⟨hM.ext, ?_⟩; rw [hp2]; rfl)
            | exact absurd ⟨by simp_all, by omega⟩ hq
      · have hqs : m.ask.all okQ = true := all_of fun j hj => hok j hj (by omega)
        focus
          refine rs_ ?_
          refine rsr ?_
          refine oy rfl (ymv rfl) ?_
          refine oy rfl (yfa rfl) ?_
          refine oy rfl (yld 1 rfl rfl rfl) ?_
          refine oy rfl (yll rfl) ?_
          refine oy rfl (ybI rfl rfl rfl) ?_
          refine on ?_
          refine pn ?_
          refine rcd rfl (fun c1 => by exfalso; omega) (fun c1 => ?_)
          refine re ?_
          refine pe ?_
          refine pe ?_
          refine pbe ?_
          refine pn ?_
          refine rs_ ?_
          refine rsr ?_
          refine oy rfl (yas rfl) ?_
          refine on ?_
          refine pn ?_
          refine rb ?_
          rotate_left
        refine loop [6] [1, 4] (fun vs H => ∃ i : Nat, vs = [.int .i64 i] ∧ H = [ow ER 61 v1 m.all, bx g1 (.cells (m.val s).cells 46 (0, 0))] ∧ i ≤ m.all.length ∧ ∀ j (hj : j < m.all.length), j < i → rightRec m.all[j] = true) (fun vs => m.all.length - intAt vs 0) rfl rfl (List.Sublist.refl _) ⟨0, rfl, rfl, by omega, fun j hj h => by omega⟩ ?_
        rintro _ _ w'' ⟨k, rfl, rfl, hk, hokr⟩
        by_cases hkl : k < m.all.length
        · have hrn := hB.r m.all[k] (List.getElem_mem hkl)
          by_cases hr : rightRec m.all[k] = true
          · have hok' : ∀ j (hj : j < m.all.length), j < k + 1 → rightRec m.all[j] = true := fun j hj hjk => by
              rcases Nat.lt_or_ge j k with h | h
              · exact hokr j hj h
              · have : j = k := by omega
                subst this; exact hr
            focus
              refine rs_ ?_
              refine rsr ?_
              refine oy rfl (ymv rfl) ?_
              refine oy rfl (ymv rfl) ?_
              refine oy rfl (yls rfl (sl_own 0 rfl)) ?_
              refine oy rfl (ybI rfl rfl rfl) ?_
              refine on ?_
              refine pn ?_
              refine rcd rfl (fun c1 => ?_) (fun c1 => by exfalso; omega)
              refine rk ?_
              refine pn ?_
              refine rs_ ?_
              refine rb ?_
              refine rsr ?_
              refine oy rfl (ymv rfl) ?_
              refine oy rfl (ymv rfl) ?_
              refine oy rfl (yix rfl rfl rfl (sl_own 0 rfl) (by omega)) ?_
              refine oy rfl (yleN rfl rfl (sl_own 0 rfl) (by omega)) ?_
              refine l0 ?_
              refine ocd rfl rfl (fun hM => Right18_is hr _ (by omega) (by omega)) (fun w2 => ?_)
              refine oy rfl (yno rfl) ?_
              refine on ?_
              refine pn ?_
              refine rcF rfl ?_
              refine rk ?_
              refine pbn ?_
              refine pn ?_
              refine rr ?_
              refine oy rfl (ymv rfl) ?_
              refine oy rfl (ybW rfl rfl rfl (by omega)) ?_
              refine oy rfl (yas rfl) ?_
              refine on ?_
              refine pn ?_
              rotate_left
            exact round rfl rfl (List.Sublist.refl _) ⟨k + 1, rfl, rfl, by omega, hok'⟩ (show m.all.length - (k + 1) < m.all.length - k by omega)
          · have hrf : rightRec m.all[k] = false := by simpa using hr
            have hp2 : putN m = ([], 2) := putN_bad (msgErr_two hbig fun ⟨_, _, h⟩ => not_all hkl hrf h) (by decide)
            focus
              refine rs_ ?_
              refine rsr ?_
              refine oy rfl (ymv rfl) ?_
              refine oy rfl (ymv rfl) ?_
              refine oy rfl (yls rfl (sl_own 0 rfl)) ?_
              refine oy rfl (ybI rfl rfl rfl) ?_
              refine on ?_
              refine pn ?_
              refine rcd rfl (fun c1 => ?_) (fun c1 => by exfalso; omega)
              refine rk ?_
              refine pn ?_
              refine rs_ ?_
              refine rb ?_
              refine rsr ?_
              refine oy rfl (ymv rfl) ?_
              refine oy rfl (ymv rfl) ?_
              refine oy rfl (yix rfl rfl rfl (sl_own 0 rfl) (by omega)) ?_
              refine oy rfl (yleN rfl rfl (sl_own 0 rfl) (by omega)) ?_
              refine l0 ?_
              refine ocd rfl rfl (fun hM => Right18_is hrf _ (by omega) (by omega)) (fun w2 => ?_)
              refine oy rfl (yno rfl) ?_
              refine on ?_
              refine pn ?_
              refine rcT rfl ?_
              refine rsr ?_
              refine oy rfl (yas rfl) ?_
              refine oy rfl (yas rfl) ?_
              refine on ?_
              refine pn ?_
              refine rt ?_
              refine pbr ?_
              refine pr ?_
              refine pr ?_
              refine pbr ?_
              refine pr ?_
              refine ret_ rfl (fun hM => ?_)
              rotate_left
            refine ⟨hM.ext, ?_⟩; rw [hp2]; rfl
        · have hrs : m.all.all rightRec = true := all_of fun j hj => hokr j hj (by omega)
          have he := msgErr_ok hbig hnum0 hqs hrs
          refine rs_ ?_
          refine rsr ?_
          refine oy rfl (ymv rfl) ?_
          refine oy rfl (ymv rfl) ?_
          refine oy rfl (yls rfl (sl_own 0 rfl)) ?_
          refine oy rfl (ybI rfl rfl rfl) ?_
          refine on ?_
          refine pn ?_
          refine rcd rfl (fun c1 => by exfalso; omega) (fun c1 => ?_)
          refine re ?_
          refine pe ?_
          refine pe ?_
          refine pbe ?_
          refine pn ?_
          obtain ⟨id, an, ki, ow', cu, wa, ab, co, ask, a1, a2, a3⟩ := m
          obtain ⟨id, rfl⟩ := Int.eq_ofNat_of_zero_le hid.1
          obtain ⟨ki, rfl⟩ := Int.eq_ofNat_of_zero_le hki.1
          obtain ⟨co, rfl⟩ := Int.eq_ofNat_of_zero_le hco.1
          refine weaken (e0 := [(1, .pointer (some ⟨g1, 0, none⟩)), (4, v1)]) (sub_cons.2 ⟨rfl, sub_cons.2 ⟨rfl, sub_nil⟩⟩) (List.Sublist.refl _) ?_
          exact DocHead hz hI hB he (by have : (id : Int) ≤ 65535 := hid.2; omega) (by have : (ki : Int) ≤ 15 := hki.2; omega) (by have : (co : Int) ≤ 15 := hco.2; omega) hqs hrs (by have : ¬ 300 < ask.length + (a1 ++ a2 ++ a3).length := hbig; omega)
    · have hnum1 := hnum
      simp only [okNums, Bool.and_eq_true, decide_eq_true_eq] at hnum
      focus
        refine rsr ?_
        refine l0 ?_
        refine obx rfl rfl (fun g1 w1 l1 => ?_)
        refine oy rfl (yas rfl) ?_
        refine oy rfl (yas rfl) ?_
        refine on ?_
        refine pn ?_
        refine rsr ?_
        refine oy rfl (ylS 0 rfl rfl rfl) ?_
        refine l0 ?_
        refine oc1 (R := fun v w' => Own ER w' _ 61 v m.all) rfl rfl (fun hM => all_spec m s _ (hI.e0 hM.ext) hl) (fun v1 w1 o1 => ⟨ow ER 61 v1 m.all, o1.rebase (Nat.zero_le _), fun g hg => (o1.base hg).1, ?_⟩)
        refine oy rfl (yas rfl) ?_
        refine on ?_
        refine pn ?_
        refine rs_ ?_
        refine rsr ?_
        refine oy rfl (yfa rfl) ?_
        refine oy rfl (yld 1 rfl rfl rfl) ?_
        refine oy rfl (yll rfl) ?_
        refine oy rfl (ymv rfl) ?_
        refine oy rfl (yls rfl (sl_own 0 rfl)) ?_
        refine oy rfl (ybW rfl rfl rfl (by omega)) ?_
        refine oy rfl (ybI rfl rfl rfl) ?_
        refine on ?_
        refine pn ?_
        refine rcd rfl (fun c3 => by exfalso; omega) (fun c3 => ?_)
        refine rk ?_
        refine pn ?_
        refine rs_ ?_
        refine rsr ?_
        refine oy rfl (yfa rfl) ?_
        refine oy rfl (yld 1 rfl rfl rfl) ?_
        refine oy rfl (ybI rfl rfl rfl) ?_
        refine oy rfl (ymv rfl) ?_
        refine xd (g := 29) rfl (fun c4 => ?_) (fun c4 => ?_)
        refine ln rfl rfl rfl rfl ?_
        refine ln rfl rfl rfl rfl ?_
        refine ln rfl rfl rfl rfl ?_
        refine oy rfl (ypT rfl rfl) ?_
        refine oy rfl (ymv rfl) ?_
        refine ln rfl rfl rfl rfl ?_
        refine ln rfl rfl rfl rfl ?_
        refine ln rfl rfl rfl rfl ?_
        refine oy rfl (ypT rfl rfl) ?_
        refine oy rfl (ymv rfl) ?_
        refine ln rfl rfl rfl rfl ?_
        refine ln rfl rfl rfl rfl ?_
        refine ln rfl rfl rfl rfl ?_
        refine oy rfl (ypT rfl rfl) ?_
        refine oy rfl (ymv rfl) ?_
        refine ln rfl rfl rfl rfl ?_
        refine ln rfl rfl rfl rfl ?_
        refine ln rfl rfl rfl rfl ?_
        refine oy rfl (ypT rfl rfl) ?_
        refine oy rfl (ymv rfl) ?_
        refine ln rfl rfl rfl rfl ?_
        refine ln rfl rfl rfl rfl ?_
        refine ln rfl rfl rfl rfl ?_
        refine oy rfl (ypT rfl rfl) ?_
        refine on ?_
        refine pn ?_
        refine rcT rfl ?_
        refine rsr ?_
        refine oy rfl (yas rfl) ?_
        refine oy rfl (yas rfl) ?_
        refine on ?_
        refine pn ?_
        refine rt ?_
        refine pr ?_
        refine ret_ rfl (fun hM => ?_)
        rotate_left
        refine oyg rfl rfl rfl (yfa rfl) ?_
        refine oyg rfl rfl rfl (yld 1 rfl rfl rfl) ?_
        refine oyg rfl rfl rfl (ybI rfl rfl rfl) ?_
        refine oy rfl (ypF rfl rfl) ?_
        refine oy rfl (ymv rfl) ?_
        refine xd (g := 34) rfl (fun c5 => ?_) (fun c5 => ?_)
        refine ln rfl rfl rfl rfl ?_
        refine ln rfl rfl rfl rfl ?_
        refine ln rfl rfl rfl rfl ?_
        refine oy rfl (ypT rfl rfl) ?_
        refine oy rfl (ymv rfl) ?_
        refine ln rfl rfl rfl rfl ?_
        refine ln rfl rfl rfl rfl ?_
        refine ln rfl rfl rfl rfl ?_
        refine oy rfl (ypT rfl rfl) ?_
        refine oy rfl (ymv rfl) ?_
        refine ln rfl rfl rfl rfl ?_
        refine ln rfl rfl rfl rfl ?_
        refine ln rfl rfl rfl rfl ?_
        refine oy rfl (ypT rfl rfl) ?_
        refine oy rfl (ymv rfl) ?_
        refine ln rfl rfl rfl rfl ?_
        refine ln rfl rfl rfl rfl ?_
        refine ln rfl rfl rfl rfl ?_
        refine oy rfl (ypT rfl rfl) ?_
        refine on ?_
        refine pn ?_
        refine rcT rfl ?_
        refine rsr ?_
        refine oy rfl (yas rfl) ?_
        refine oy rfl (yas rfl) ?_
        refine on ?_
        refine pn ?_
        refine rt ?_
        refine pr ?_
        refine ret_ rfl (fun hM => ?_)
        rotate_left
        refine oyg rfl rfl rfl (yfa rfl) ?_
        refine oyg rfl rfl rfl (yld 1 rfl rfl rfl) ?_
        refine oyg rfl rfl rfl (ybI rfl rfl rfl) ?_
        refine oy rfl (ypF rfl rfl) ?_
        refine oy rfl (ymv rfl) ?_
        refine xd (g := 39) rfl (fun c6 => ?_) (fun c6 => ?_)
        refine ln rfl rfl rfl rfl ?_
        refine ln rfl rfl rfl rfl ?_
        refine ln rfl rfl rfl rfl ?_
        refine oy rfl (ypT rfl rfl) ?_
        refine oy rfl (ymv rfl) ?_
        refine ln rfl rfl rfl rfl ?_
        refine ln rfl rfl rfl rfl ?_
        refine ln rfl rfl rfl rfl ?_
        refine oy rfl (ypT rfl rfl) ?_
        refine oy rfl (ymv rfl) ?_
        refine ln rfl rfl rfl rfl ?_
        refine ln rfl rfl rfl rfl ?_
        refine ln rfl rfl rfl rfl ?_
        refine oy rfl (ypT rfl rfl) ?_
        refine on ?_
        refine pn ?_
        refine rcT rfl ?_
        refine rsr ?_
        refine oy rfl (yas rfl) ?_
        refine oy rfl (yas rfl) ?_
        refine on ?_
        refine pn ?_
        refine rt ?_
        refine pr ?_
        refine ret_ rfl (fun hM => ?_)
        rotate_left
        refine oyg rfl rfl rfl (yfa rfl) ?_
        refine oyg rfl rfl rfl (yld 1 rfl rfl rfl) ?_
        refine oyg rfl rfl rfl (ybI rfl rfl rfl) ?_
        refine oy rfl (ypF rfl rfl) ?_
        refine oy rfl (ymv rfl) ?_
        refine xd (g := 44) rfl (fun c7 => ?_) (fun c7 => ?_)
        refine ln rfl rfl rfl rfl ?_
        refine ln rfl rfl rfl rfl ?_
        refine ln rfl rfl rfl rfl ?_
        refine oy rfl (ypT rfl rfl) ?_
        refine oy rfl (ymv rfl) ?_
        refine ln rfl rfl rfl rfl ?_
        refine ln rfl rfl rfl rfl ?_
        refine ln rfl rfl rfl rfl ?_
        refine oy rfl (ypT rfl rfl) ?_
        refine on ?_
        refine pn ?_
        refine rcT rfl ?_
        refine rsr ?_
        refine oy rfl (yas rfl) ?_
        refine oy rfl (yas rfl) ?_
        refine on ?_
        refine pn ?_
        refine rt ?_
        refine pr ?_
        refine ret_ rfl (fun hM => ?_)
        rotate_left
        refine oyg rfl rfl rfl (yfa rfl) ?_
        refine oyg rfl rfl rfl (yld 1 rfl rfl rfl) ?_
        refine oyg rfl rfl rfl (ybI rfl rfl rfl) ?_
        refine oy rfl (ypF rfl rfl) ?_
        refine oy rfl (ymv rfl) ?_
        refine xd (g := 49) rfl (fun c8 => ?_) (fun c8 => ?_)
        refine ln rfl rfl rfl rfl ?_
        refine ln rfl rfl rfl rfl ?_
        refine ln rfl rfl rfl rfl ?_
        refine oy rfl (ypT rfl rfl) ?_
        refine on ?_
        refine pn ?_
        refine rcT rfl ?_
        refine rsr ?_
        refine oy rfl (yas rfl) ?_
        refine oy rfl (yas rfl) ?_
        refine on ?_
        refine pn ?_
        refine rt ?_
        refine pr ?_
        refine ret_ rfl (fun hM => ?_)
        rotate_left
        refine oyg rfl rfl rfl (yfa rfl) ?_
        refine oyg rfl rfl rfl (yld 1 rfl rfl rfl) ?_
        refine oyg rfl rfl rfl (ybI rfl rfl rfl) ?_
        refine oy rfl (ypF rfl rfl) ?_
        refine on ?_
        refine pn ?_
        refine rcd rfl (fun c9 => ?_) (fun c9 => by exfalso; omega)
        refine rsr ?_
        refine oy rfl (yas rfl) ?_
        refine oy rfl (yas rfl) ?_
        refine on ?_
        refine pn ?_
        refine rt ?_
        refine pr ?_
        refine ret_ rfl (fun hM => ?_)
        rotate_left
      all_goals
        refine ⟨hM.ext, ?_⟩
        rw [putN_bad (msgErr_two hbig fun ⟨h, _⟩ => hnum1 h) (by decide)]; rfl
end Go.Proofs.YtkhlmpkodjoioaaDoor
