/- Names: the program's Labels. -/
import Derived.Test.YtkhlmpkodjoioaaDoorN8
import Derived.Shelf.Strings.SlTrimAscii
set_option linter.unusedVariables false
set_option linter.unusedSimpArgs false
set_option maxRecDepth 10000
namespace Go.Proofs.YtkhlmpkodjoioaaDoor
theorem Spec.of_same {P : Program} {f : FuncId} {fn : Func} {args : Array Value} {w : World} {v : Value} (hf : P.funcs[f]? = some fn) (hn : (fn.name == "runtime.NumGoroutine") = false) (hb : fn.body.isNone = false)
    (h : Calls P f args w fun e w' => e = .returned v ∧ RowKit.Below w.heap.size w w') : Spec P f args w (fun v' w' => Ext [] w w' ∧ v' = v) := by
  unfold Spec
  exact ⟨⟨fn, hf, hn, hb⟩, h.mono fun e w' ⟨he, hw⟩ => ⟨v, he, Ext.of_below hw, rfl⟩⟩
theorem CutSuffix_yes (b : List UInt8) (w : World) (hs : b.length ≤ 4294967296) : Spec Tryd.prog 67 [.string (sOf (b ++ [46])), .string (sOf [46])].toArray w (fun v w' => Ext [] w w' ∧ v = .tuple #[.string (sOf b), .bool true]) := by
  have h := Tryd.strings_CutSuffix (sOf (b ++ [46])) (sOf [46]) w (by rw [size_bs, bs_sOf]; simp; omega)
  have h1 : Lib.hasSuffix (b ++ [46]) [46] = true := by unfold Lib.hasSuffix; exact List.isSuffixOf_iff_suffix.2 ⟨b, rfl⟩
  have h2 : Lib.trimSuffix (b ++ [46]) [46] = b := by unfold Lib.trimSuffix; rw [h1]; simp
  refine Spec.of_calls Tryd.func67 rfl rfl ?_
  have h3 : (sOf (b ++ [46])).data.toList = b ++ [46] := rfl
  have h4 : (sOf [46]).data.toList = [46] := rfl
  rw [h3, h4, h1, h2] at h
  exact h
theorem CutSuffix_no (s : List UInt8) (w : World) (hs : s.length ≤ 4294967296) (hb : ∀ b, s ≠ b ++ [46]) : Spec Tryd.prog 67 [.string (sOf s), .string (sOf [46])].toArray w (fun v w' => Ext [] w w' ∧ v = .tuple #[.string (sOf s), .bool false]) := by
  have h := Tryd.strings_CutSuffix (sOf s) (sOf [46]) w (by rw [size_bs, bs_sOf]; omega)
  have h1 : Lib.hasSuffix s [46] = false := by
    cases hc : Lib.hasSuffix s [46] with
    | false => rfl
    | true => obtain ⟨b, hb'⟩ := List.isSuffixOf_iff_suffix.1 hc; exact absurd hb'.symm (hb b)
  have h2 : Lib.trimSuffix s [46] = s := by unfold Lib.trimSuffix; rw [h1]; rfl
  refine Spec.of_calls Tryd.func67 rfl rfl ?_
  have h3 : (sOf s).data.toList = s := rfl
  have h4 : (sOf [46]).data.toList = [46] := rfl
  rw [h3, h4, h1, h2] at h
  exact h
theorem cl_ES (xs : List (List UInt8)) : cl ES xs = xs.map fun l => Value.string (sOf l) := by
  induction xs with
  | nil => rfl
  | cons x xs ih => rw [cl_cons, ih]; rfl
theorem Split_spec (b : List UInt8) (w : World) (hs : b.length ≤ 4294967280) (hz : Zw w) : Spec Tryd.prog 68 [.string (sOf b), .string (sOf [46])].toArray w (fun v w' => Ext [] w w' ∧ Own ES w' w.heap.size 9 v (cutN b)) := by
  obtain ⟨m, hm⟩ := hz
  have h := Tryd.strings_Split (sOf b) (sOf [46]) m w (by rw [size_bs, bs_sOf]; omega) hm (by decide)
  unfold Spec
  refine ⟨⟨_, Tryd.func68, rfl, rfl⟩, h.mono fun e w' ⟨he, hw⟩ => ⟨_, he, by rw [hw]; exact Ext.alloc _ _, ?_⟩⟩
  rw [hw]
  have h1 : (Lib.splitB (sOf [46]) 0 (Lib.countB (sOf b) (sOf [46])) (sOf b)).map (·.data.toList) = cutN b := Lib.splitB_data _ _ _ _
  have h2 : (Lib.splitB (sOf [46]) 0 (Lib.countB (sOf b) (sOf [46])) (sOf b)) = (cutN b).map sOf := by
    rw [← h1, List.map_map]
    have : (sOf ∘ fun (x : ByteArray) => x.data.toList) = id := funext fun x => sOf_bs x
    rw [this, List.map_id]
  have h3 := Lib.splitB_all (sOf [46]) (by decide) 0 _ (sOf b) rfl
  have h4 : Lib.countB (sOf b) (sOf [46]) + 1 = (cutN b).length := by rw [← h1, List.length_map]; exact h3.symm
  have h5 := Lib.count_le b [46]
  have h6 : Lib.countB (sOf b) (sOf [46]) = Lib.count b [46] := rfl
  rw [h4, h2]
  refine Own.fresh w _ _ _ _ _ (Nat.le_refl _) (by unfold maxLen; omega) (Nat.le_refl _) (by simp [show ES.k = 1 from rfl]) (fun j u hj => ?_)
  rw [cl_ES] at hj
  simpa using hj
theorem Trim_spec (p : List UInt8) (w : World) (hs : p.length ≤ 4294967296) : Spec Tryd.prog 69 [.string (sOf p), .string (sOf lettersL)].toArray w (fun v w' => Ext [] w w' ∧ v = .string (sOf (Lib.trimS p lettersL))) :=
  Spec.of_same Tryd.func69 rfl rfl (Any.strings_Trim_laid Tryd.lays160 (by kernel_rfl) (sOf p) (sOf lettersL) w (by rw [size_bs, bs_sOf]; omega) (by decide) (ascii_of_all (by decide)))
theorem Labels_spec (s : List UInt8) (w : World) (hs : s.length ≤ 4294967280) (hz : Zw w) : Spec Tryd.prog 37 [.string (sOf s)].toArray w (fun v w' => Ext [] w w' ∧ labR s 9 w.heap.size v w') := by
  refine Spec.intro Tryd.func37 rfl rfl (Nat.le_of_ble_eq_true rfl) (Mok.start w) ?_
  by_cases hb : ∃ b, s = b ++ [46]
  · obtain ⟨b, rfl⟩ := hb
    simp only [List.length_append, List.length_cons, List.length_nil] at hs
    focus
      refine rsr ?_
      refine oy rfl (yas rfl) ?_
      refine oy rfl (yas rfl) ?_
      refine on ?_
      refine pn ?_
      refine rs_ ?_
      refine rsr ?_
      refine oy rfl (ymv rfl) ?_
      refine oy rfl (ybE rfl rfl) ?_
      refine on ?_
      refine pn ?_
      refine rcd rfl (fun c1 => ?_) (fun c1 => ?_)
      refine rsr ?_
      refine oy rfl (yas rfl) ?_
      refine oy rfl (yas rfl) ?_
      refine on ?_
      refine pn ?_
      refine rt ?_
      refine pr ?_
      refine ret_ rfl (fun hM => ?_)
      rotate_left
      refine rk ?_
      refine pn ?_
      refine rsr ?_
      refine oy rfl (ymv rfl) ?_
      refine l0 ?_
      refine ocd rfl rfl (fun hM => CutSuffix_yes b _ (by omega)) (fun w2 => ?_)
      refine oy rfl (ymv rfl) ?_
      refine oy rfl (yex rfl rfl) ?_
      refine oy rfl (yex rfl rfl) ?_
      refine oy rfl (yas rfl) ?_
      refine oy rfl (yas rfl) ?_
      refine on ?_
      refine pn ?_
      refine rs_ ?_
      refine rsr ?_
      refine oy rfl (ymv rfl) ?_
      refine oy rfl (yno rfl) ?_
      refine oy rfl (ymv rfl) ?_
      refine oyg rfl rfl rfl (ymv rfl) ?_
      refine oyg rfl rfl rfl (yln rfl) ?_
      refine oyg rfl rfl rfl (ybW rfl rfl rfl (by simp only [List.length_append, List.length_take, List.length_drop, List.length_cons, List.length_nil]; omega)) ?_
      refine oyg rfl rfl rfl (ybI rfl rfl rfl) ?_
      refine oy rfl (ypF rfl rfl) ?_
      refine on ?_
      refine pn ?_
      refine rcd rfl (fun c3 => ?_) (fun c3 => ?_)
      refine rsr ?_
      refine oy rfl (yas rfl) ?_
      refine oy rfl (yas rfl) ?_
      refine on ?_
      refine pn ?_
      refine rt ?_
      refine pr ?_
      refine ret_ rfl (fun hM => ?_)
      rotate_left
      refine rk ?_
      refine pn ?_
      refine rsr ?_
      refine oy rfl (ymv rfl) ?_
      refine l0 ?_
      refine oc1 (R := fun v w' => Own ES w' _ 9 v (cutN b)) rfl rfl (fun hM => Split_spec b _ (by omega) (hM.zw hz (by simp))) (fun v1 w1 o1 => ⟨ow ES 9 v1 (cutN b), o1.rebase (Nat.zero_le _), fun g hg => (o1.base hg).1, ?_⟩)
      refine oy rfl (yas rfl) ?_
      refine on ?_
      refine pn ?_
      refine rs_ ?_
      refine rsr ?_
      refine oy rfl (ymv rfl) ?_
      refine oy rfl (yls rfl (sl_own 0 rfl)) ?_
      refine oy rfl (ymv rfl) ?_
      refine on ?_
      refine pn ?_
      refine rb ?_
      rotate_left
    · exact ⟨hM.ext, labR_some (l := []) (by unfold labels; rw [if_pos c1]) (Own.nil ..)⟩
    · refine ⟨hM.ext, labR_none ?_⟩
      unfold labels
      rw [if_neg c1, if_pos (.inr (by omega))]
    · have hb0 : b ≠ [] := fun h => c1 (by rw [h]; rfl)
      have hl : b.length ≤ 253 := by simp at c3; omega
      have hcl : (cutN b).length ≤ 254 := by
        have h1 := cutN_dots b
        have h2 := congrArg List.length h1
        rw [dots_len] at h2; simp at h2; omega
      refine loop [28] [26, 27, 6] (fun vs H => ∃ i : Nat, vs = [.int .i64 i] ∧ H = [ow ES 9 v1 (cutN b)] ∧ i ≤ (cutN b).length ∧ ∀ p ∈ (cutN b).take i, okLab p) (fun vs => (cutN b).length - intAt vs 0) rfl rfl (List.Sublist.refl _) ⟨0, rfl, rfl, Nat.zero_le _, by simp⟩ ?_
      rintro _ _ w' ⟨i, rfl, rfl, hi, hok⟩
      by_cases hil : i < (cutN b).length
      · have hm : (cutN b)[i] ∈ cutN b := List.getElem_mem hil
        have hpl := cutN_mem hm
        focus
          refine rsr ?_
          refine oy rfl (ybI rfl rfl rfl) ?_
          refine on ?_
          refine pn ?_
          refine rs_ ?_
          refine rcd rfl (fun c1 => ?_) (fun c1 => by exfalso; omega)
          refine rk ?_
          refine pn ?_
          refine rs_ ?_
          refine rb ?_
          refine rsr ?_
          refine oy rfl (yix rfl rfl rfl (sl_own 0 rfl) (by omega)) ?_
          refine oy rfl (yleN rfl rfl (sl_own 0 rfl) (by omega)) ?_
          refine oy rfl (yas rfl) ?_
          refine on ?_
          refine pn ?_
          refine rsr ?_
          refine oy rfl (ymv rfl) ?_
          refine oy rfl (ybE rfl rfl) ?_
          refine oy rfl (ymv rfl) ?_
          refine xd (g := 34) rfl (fun c2 => ?_) (fun c2 => ?_)
          refine ln rfl rfl rfl rfl ?_
          refine ln rfl rfl rfl rfl ?_
          refine ln rfl rfl rfl rfl ?_
          refine oy rfl (ypT rfl rfl) ?_
          refine oy rfl (ymv rfl) ?_
          refine ln rfl rfl rfl rfl ?_
          refine ln rfl rfl rfl rfl ?_
          refine ln rfl rfl rfl rfl ?_
          refine oy rfl (ypT rfl rfl) ?_
          refine on ?_
          refine pn ?_
          refine rcT rfl ?_
          refine rsr ?_
          refine oy rfl (yas rfl) ?_
          refine oy rfl (yas rfl) ?_
          refine on ?_
          refine pn ?_
          refine rt ?_
          refine pbr ?_
          refine pr ?_
          refine pr ?_
          refine pbr ?_
          refine pr ?_
          refine ret_ rfl (fun hM => ?_)
          rotate_left
          refine oyg rfl rfl rfl (ymv rfl) ?_
          refine oyg rfl rfl rfl (yln rfl) ?_
          refine oyg rfl rfl rfl (ybI rfl rfl rfl) ?_
          refine oy rfl (ypF rfl rfl) ?_
          refine oy rfl (ymv rfl) ?_
          refine xd (g := 39) rfl (fun c3 => ?_) (fun c3 => ?_)
          refine ln rfl rfl rfl rfl ?_
          refine ln rfl rfl rfl rfl ?_
          refine ln rfl rfl rfl rfl ?_
          refine oy rfl (ypT rfl rfl) ?_
          refine on ?_
          refine pn ?_
          refine rcT rfl ?_
          refine rsr ?_
          refine oy rfl (yas rfl) ?_
          refine oy rfl (yas rfl) ?_
          refine on ?_
          refine pn ?_
          refine rt ?_
          refine pbr ?_
          refine pr ?_
          refine pr ?_
          refine pbr ?_
          refine pr ?_
          refine ret_ rfl (fun hM => ?_)
          rotate_left
          refine oyg rfl rfl rfl (ymv rfl) ?_
          refine lg rfl rfl ?_
          refine ocd rfl rfl (fun hM => Trim_spec _ _ (by omega)) (fun w4 => ?_)
          refine oyg rfl rfl rfl (ybN rfl rfl) ?_
          refine oy rfl (ypF rfl rfl) ?_
          refine on ?_
          refine pn ?_
          refine rcd rfl (fun c5 => ?_) (fun c5 => ?_)
          refine rsr ?_
          refine oy rfl (yas rfl) ?_
          refine oy rfl (yas rfl) ?_
          refine on ?_
          refine pn ?_
          refine rt ?_
          refine pbr ?_
          refine pr ?_
          refine pr ?_
          refine pbr ?_
          refine pr ?_
          refine ret_ rfl (fun hM => ?_)
          rotate_left
          refine rk ?_
          refine pbn ?_
          refine pn ?_
          refine rr ?_
          refine oy rfl (ybW rfl rfl rfl (by omega)) ?_
          refine oy rfl (ymv rfl) ?_
          refine on ?_
          refine pn ?_
          rotate_left
        · exact ⟨hM.ext, labR_none (labels_bad hm hb0 fun h => h.1 c2)⟩
        · exact ⟨hM.ext, labR_none (labels_bad hm hb0 fun h => by have := h.2.1; omega)⟩
        · exact ⟨hM.ext, labR_none (labels_bad hm hb0 fun h => c5 (trim_let.2 h.2.2))⟩
        · refine round rfl rfl (List.Sublist.refl _) ⟨i + 1, rfl, rfl, by omega, fun p hp => ?_⟩ (show (cutN b).length - (i + 1) < (cutN b).length - i by omega)
          rw [List.take_succ_eq_append_getElem hil] at hp
          rcases List.mem_append.1 hp with hp | hp
          · exact hok p hp
          · simp at hp
            subst hp
            exact ⟨c2, by omega, trim_let.1 (by simpa using c5)⟩
      · focus
          refine rsr ?_
          refine oy rfl (ybI rfl rfl rfl) ?_
          refine on ?_
          refine pn ?_
          refine rs_ ?_
          refine rcd rfl (fun c1 => by exfalso; omega) (fun c1 => ?_)
          refine re ?_
          refine pe ?_
          refine pe ?_
          refine pbe ?_
          refine pn ?_
          refine rsr ?_
          refine oy rfl (ymv rfl) ?_
          refine oy rfl (yas rfl) ?_
          refine oy rfl (yas rfl) ?_
          refine on ?_
          refine pn ?_
          refine rt ?_
          refine ret_ rfl (fun hM => ?_)
          rotate_left
        refine ⟨hM.ext, labR_some (l := cutN b) ?_ (hM.owned 0 rfl)⟩
        have h0 : i = (cutN b).length := by omega
        subst h0
        exact labels_cut hb0 hl (by simpa using hok)
  · have hb' : ∀ b, s ≠ b ++ [46] := fun b h => hb ⟨b, h⟩
    focus
      refine rsr ?_
      refine oy rfl (yas rfl) ?_
      refine oy rfl (yas rfl) ?_
      refine on ?_
      refine pn ?_
      refine rs_ ?_
      refine rsr ?_
      refine oy rfl (ymv rfl) ?_
      refine oy rfl (ybE rfl rfl) ?_
      refine on ?_
      refine pn ?_
      refine rcd rfl (fun c1 => ?_) (fun c1 => ?_)
      refine rsr ?_
      refine oy rfl (yas rfl) ?_
      refine oy rfl (yas rfl) ?_
      refine on ?_
      refine pn ?_
      refine rt ?_
      refine pr ?_
      refine ret_ rfl (fun hM => ?_)
      rotate_left
      refine rk ?_
      refine pn ?_
      refine rsr ?_
      refine oy rfl (ymv rfl) ?_
      refine l0 ?_
      refine ocd rfl rfl (fun hM => CutSuffix_no s _ (by omega) hb') (fun w2 => ?_)
      refine oy rfl (ymv rfl) ?_
      refine oy rfl (yex rfl rfl) ?_
      refine oy rfl (yex rfl rfl) ?_
      refine oy rfl (yas rfl) ?_
      refine oy rfl (yas rfl) ?_
      refine on ?_
      refine pn ?_
      refine rs_ ?_
      refine rsr ?_
      refine oy rfl (ymv rfl) ?_
      refine oy rfl (yno rfl) ?_
      refine oy rfl (ymv rfl) ?_
      refine ln rfl rfl rfl rfl ?_
      refine ln rfl rfl rfl rfl ?_
      refine ln rfl rfl rfl rfl ?_
      refine ln rfl rfl rfl rfl ?_
      refine oy rfl (ypT rfl rfl) ?_
      refine on ?_
      refine pn ?_
      refine rcT rfl ?_
      refine rsr ?_
      refine oy rfl (yas rfl) ?_
      refine oy rfl (yas rfl) ?_
      refine on ?_
      refine pn ?_
      refine rt ?_
      refine pr ?_
      refine ret_ rfl (fun hM => ?_)
      rotate_left
    · exact absurd c1 (hb' [])
    · refine ⟨hM.ext, labR_none ?_⟩
      cases hl : labels s with
      | none => rfl
      | some l => obtain ⟨b, hb1⟩ := labels_dot hl; exact absurd hb1 (hb' b)
end Go.Proofs.YtkhlmpkodjoioaaDoor
