/- Names in a table: the program's Put. -/
import Derived.Test.YtkhlmpkodjoioaaDoorN12
set_option linter.unusedVariables false
set_option linter.unusedSimpArgs false
set_option maxRecDepth 100000
namespace Go.Proofs.YtkhlmpkodjoioaaDoor
def joinL (l : List (List UInt8)) : List UInt8 := Lib.join l [46]
theorem joinTail_dots : ∀ r : List (List UInt8), Lib.joinTail [46] r ++ [46] = 46 :: dots r
  | [] => rfl
  | p :: r => by
    have h1 : Lib.joinTail [46] (p :: r) = 46 :: p ++ Lib.joinTail [46] r := by simp [Lib.joinTail]
    have e1 : dots (p :: r) = p ++ 46 :: dots r := by simp [dots]
    rw [h1, List.append_assoc, joinTail_dots r, e1]
    rfl
theorem joinL_dots {l : List (List UInt8)} (h : l ≠ []) : joinL l ++ [46] = dots l := by
  cases l with
  | nil => exact absurd rfl h
  | cons p r =>
    have e1 : dots (p :: r) = p ++ 46 :: dots r := by simp [dots]
    unfold joinL
    rw [Lib.join_cons, List.append_assoc, joinTail_dots, e1]
theorem joinL_len (l : List (List UInt8)) : (joinL l).length ≤ (dots l).length := by
  by_cases h : l = []
  · subst h; decide
  · rw [← joinL_dots h]; simp
theorem dots_drop (l : List (List UInt8)) (i : Nat) : (dots (l.drop i)).length ≤ (dots l).length := by
  have h := congrArg (fun l => (dots l).length) (List.take_append_drop i l)
  simp only [dots, List.flatMap_append, List.length_append] at h ⊢
  omega
theorem joinL_le (l : List (List UInt8)) (i : Nat) : (joinL (l.drop i)).length ≤ (dots l).length := Nat.le_trans (joinL_len _) (dots_drop l i)
theorem Join_spec (v : Value) (l : List (List UInt8)) (w : World) (hv : Sl ES w v l) (hne : l ≠ []) (hl : (joinL l).length ≤ 4294967296) : Spec Tryd.prog 38 [v, .string (sOf [46])].toArray w (fun v' w' => Ext [] w w' ∧ v' = .string (sOf (joinL l))) := by
  have hle := hv.le
  obtain ⟨p, c, rfl, h1, h2, h3⟩ := hv
  obtain ⟨g, off, rfl, hat⟩ := h3.resolve_left hne
  have hat' : ∀ (j : Nat) x, (l.map sOf)[j]? = some x → w.cell? ⟨g, off + j, none⟩ = some (.string x) := fun j x hj => by
    refine hat j _ ?_
    rw [cl_ES]
    rw [List.getElem?_map] at hj ⊢
    obtain ⟨y, hy, rfl⟩ := Option.map_eq_some_iff.1 hj
    rw [hy]; rfl
  have hg : g < w.heap.size := by
    have h0 : 0 < l.length := List.length_pos_iff.2 hne
    have := hat' 0 (sOf l[0]) (by rw [List.getElem?_map, List.getElem?_eq_getElem h0]; rfl)
    simp only [World.cell?] at this
    cases hb : w.heap[g]? with
    | none => rw [hb] at this; simp at this
    | some o => exact lt_of_blk hb
  have hll : l.length ≤ (joinL l).length + 1 := by
    cases l with
    | nil => simp
    | cons q r =>
      unfold joinL
      rw [Lib.join_length]; simp
  have hm : (l.map sOf).map (·.data.toList) = l := by rw [List.map_map]; exact List.map_id' l
  have h := Tryd.strings_Join g off c (l.map sOf) (sOf [46]) w hat' hg (by rw [List.length_map]; omega) (by rw [List.length_map]; exact h1) (by rw [hm]; show (joinL l).length ≤ _; omega)
  rw [hm, List.length_map] at h
  exact Spec.of_same Tryd.func38 rfl rfl h
theorem sub_tailS {M : Mem} {v : Value} {b : List (List UInt8)} {l : Nat} (hs : ∀ w, Mok M w → Sl ES w v b) (h : l ≤ b.length) : ∀ w, Mok M w → Sl ES w (subS 1 v l b.length) (b.drop l) := fun w hM => by
  have h1 := subS_sl (hs w hM) h (Nat.le_refl _)
  rwa [List.take_length] at h1
def tputN (tab : List (List UInt8 × Nat)) (b : List UInt8) : List (List UInt8) → List (List UInt8 × Nat) × List UInt8
  | [] => (tab, b ++ [0])
  | p :: r => match tget tab (joinL (p :: r)) with
    | some a => if a < 16384 then (tab, b ++ [192 ||| UInt8.ofNat (a / 256), UInt8.ofNat a]) else tputN tab (b ++ enc1 p) r
    | none => tputN (tab ++ [(joinL (p :: r), b.length)]) (b ++ enc1 p) r
theorem wperm {n : Nat} {K : Act → World → Prop} {e : Env} {S : List Nat} {w0 w : World} {H H' : List Hc} (hp : H.Perm H') (h : WK n K e ⟨S, w0, H'⟩ w) : WK n K e ⟨S, w0, H⟩ w := by
  unfold WK at *
  exact fun hM => h (hM.perm hp)
theorem tput_none {tab : List (List UInt8 × Nat)} {b p : List UInt8} {r : List (List UInt8)} (h : tget tab (joinL (p :: r)) = none) : tputN tab b (p :: r) = tputN (tab ++ [(joinL (p :: r), b.length)]) (b ++ enc1 p) r := by rw [tputN, h]
theorem tput_far {tab : List (List UInt8 × Nat)} {b p : List UInt8} {r : List (List UInt8)} {a : Nat} (h : tget tab (joinL (p :: r)) = some a) (ha : ¬ a < 16384) : tputN tab b (p :: r) = tputN tab (b ++ enc1 p) r := by rw [tputN, h]; exact if_neg ha
theorem tput_hit {tab : List (List UInt8 × Nat)} {b p : List UInt8} {r : List (List UInt8)} {a : Nat} (h : tget tab (joinL (p :: r)) = some a) (ha : a < 16384) : tputN tab b (p :: r) = (tab, b ++ [192 ||| UInt8.ofNat (a / 256), UInt8.ofNat a]) := by rw [tputN, h]; exact if_pos ha
theorem PutB {v : Value} {b : List UInt8} {gt g : Nat} {tab : List (List UInt8 × Nat)} {s : List UInt8} {l1 : List (List UInt8)} (w : World) (hl : labels s = some l1)
    (hE : Ent [ow EB 5 v b, bx gt (.cells #[.map (some g)] 32 (0, 0)), mp g tab] [] w) (hs : s.length ≤ 4294967280) (hb : b.length ≤ 1000000000) :
    Spec Tryd.prog 12 [.pointer (some ⟨gt, 0, none⟩), v, .string (sOf s)].toArray w (fun v' w' => ∃ H', Mok ⟨blks [ow EB 5 v b, bx gt (.cells #[.map (some g)] 32 (0, 0)), mp g tab], w, H'⟩ w' ∧
      ∃ bv, v' = .tuple #[bv, .int .i64 0] ∧ H' = [ow EB 5 bv (tputN tab b l1).2, bx gt (.cells #[.map (some g)] 32 (0, 0)), mp g (tputN tab b l1).1]) := by
  have hM0 : Mok ⟨blks [ow EB 5 v b, bx gt (.cells #[.map (some g)] 32 (0, 0)), mp g tab], w, [ow EB 5 v b, bx gt (.cells #[.map (some g)] 32 (0, 0)), mp g tab]⟩ w := hE.mok
  have hz := hE.zw
  have h0 := hE.no0
  generalize hS : blks [ow EB 5 v b, bx gt (.cells #[.map (some g)] 32 (0, 0)), mp g tab] = S at hM0 h0 ⊢
  refine Spec.intro Tryd.func12 rfl rfl (Nat.le_of_ble_eq_true rfl) hM0 ?_
  obtain ⟨-, hok⟩ := labels_iff.1 hl
  focus
    refine rsr ?_
    refine oy rfl (yas rfl) ?_
    refine oy rfl (yas rfl) ?_
    refine on ?_
    refine pn ?_
    refine rs_ ?_
    refine rsr ?_
    refine oy rfl (ymv rfl) ?_
    refine oy rfl (ypn rfl rfl) ?_
    refine on ?_
    refine pn ?_
    refine rcF rfl ?_
    refine rk ?_
    refine pn ?_
    refine rsr ?_
    refine oy rfl (ymv rfl) ?_
    refine l0 ?_
    refine Labels_call rfl rfl (by assumption) hz h0 (fun ls v1 w1 e1 => ?_) (fun w1 e1 => ?_)
    refine oy rfl (ymv rfl) ?_
    refine oy rfl (yex rfl rfl) ?_
    refine oy rfl (yex rfl rfl) ?_
    refine oy rfl (yas rfl) ?_
    refine oy rfl (yas rfl) ?_
    refine on ?_
    refine pn ?_
    refine rs_ ?_
    refine rsr ?_
    refine oy rfl (ymv rfl) ?_
    refine oy rfl (ybI rfl rfl rfl) ?_
    refine on ?_
    refine pn ?_
    refine rcF rfl ?_
    refine rk ?_
    refine pn ?_
    refine rs_ ?_
    refine rsr ?_
    refine oy rfl (ymv rfl) ?_
    refine oy rfl (ync rfl) ?_
    refine oy rfl (yfa rfl) ?_
    refine oy rfl (yld 2 rfl rfl rfl) ?_
    refine oy rfl (ym1 rfl rfl) ?_
    refine on ?_
    refine pn ?_
    refine rcF rfl ?_
    refine rk ?_
    refine pn ?_
    refine rs_ ?_
    refine rsr ?_
    refine oy rfl (ymv rfl) ?_
    refine oy rfl (yls rfl (sl_own 0 rfl)) ?_
    refine oy rfl (ymv rfl) ?_
    refine on ?_
    refine pn ?_
    refine rb ?_
    rotate_left
    refine oy rfl (ymv rfl) ?_
    refine oy rfl (yex rfl rfl) ?_
    refine oy rfl (yex rfl rfl) ?_
    refine oy rfl (yas rfl) ?_
    refine oy rfl (yas rfl) ?_
    refine on ?_
    refine pn ?_
    refine rs_ ?_
    refine rsr ?_
    refine oy rfl (ymv rfl) ?_
    refine oy rfl (ybI rfl rfl rfl) ?_
    refine on ?_
    refine pn ?_
    refine rcT rfl ?_
    refine rsr ?_
    refine oy rfl (ymv rfl) ?_
    refine oy rfl (yas rfl) ?_
    refine oy rfl (yas rfl) ?_
    refine on ?_
    refine pn ?_
    refine rt ?_
    refine pr ?_
    refine ret_ rfl (fun hM => ?_)
    rotate_left
  · obtain rfl : l1 = ls := by rw [hl] at e1; exact Option.some.inj e1
    refine loop [1, 35] [0, 8, 33, 34] (fun vs H => ∃ (i : Nat) (cv : Value) (c : List UInt8) (tab' : List (List UInt8 × Nat)), vs = [cv, .int .i64 i] ∧ H = [ow ES 9 v1 l1, ow EB 5 cv c, bx gt (.cells #[.map (some g)] 32 (0, 0)), mp g tab'] ∧ i ≤ l1.length ∧
      tputN tab b l1 = tputN tab' c (l1.drop i) ∧ c.length = b.length + ((l1.take i).flatMap enc1).length) (fun vs => l1.length - intAt vs 1) rfl rfl (List.Sublist.refl _) ⟨0, v, b, tab, rfl, rfl, Nat.zero_le _, rfl, by simp⟩ ?_
    rintro _ _ w' ⟨i, cv, c, tab', rfl, rfl, hi, htp, hcl⟩
    have hb1 := flat_take_le l1 i
    have hb2 := hok.2
    have hl2 : l1.length ≤ (dots l1).length := by rw [dots_len]; omega
    by_cases hil : i < l1.length
    · have hp := lab_le hok (List.getElem_mem hil)
      have hd := List.drop_eq_getElem_cons hil
      have hjl := joinL_le l1 i
      have hne : l1.drop i ≠ [] := fun h => by simp [List.drop_eq_nil_iff] at h; omega
      have hft := flat_take hil
      cases hg : tget tab' (joinL (l1.drop i)) with
      | none =>
        focus
          refine rsr ?_
          refine oy rfl (ybI rfl rfl rfl) ?_
          refine on ?_
          refine pn ?_
          refine rs_ ?_
          refine rcd rfl (fun c1 => ?_) (fun c1 => by exfalso; omega)
          refine rk ?_
          refine pn ?_
          refine rs_ ?_
          refine rb ?_
          refine rsr ?_
          refine oy rfl (ymv rfl) ?_
          refine oy rfl (yas rfl) ?_
          refine on ?_
          refine pn ?_
          refine rsr ?_
          refine oy rfl (ymv rfl) ?_
          refine oy rfl (ymv rfl) ?_
          refine oy rfl (yp1 rfl rfl rfl (sl_own 0 rfl) (by omega)) ?_
          refine l0 ?_
          refine ocd rfl rfl (fun hM => Join_spec _ (l1.drop i) _ (sub_tailS (sl_own 0 rfl) (by omega) _ hM) hne (by omega)) (fun w2 => ?_)
          refine oy rfl (yas rfl) ?_
          refine on ?_
          refine pn ?_
          refine rs_ ?_
          refine rsr ?_
          refine oy rfl (ymv rfl) ?_
          refine oy rfl (ync rfl) ?_
          refine oy rfl (yfa rfl) ?_
          refine oy rfl (yld 2 rfl rfl rfl) ?_
          refine oy rfl (ymv rfl) ?_
          refine oy rfl (ylk0 3 rfl rfl rfl (by assumption)) ?_
          refine oy rfl (ymv rfl) ?_
          refine oy rfl (yex rfl rfl) ?_
          refine oy rfl (yex rfl rfl) ?_
          refine oy rfl (yas rfl) ?_
          refine oy rfl (yas rfl) ?_
          refine on ?_
          refine pn ?_
          refine rsr ?_
          refine oy rfl (ymv rfl) ?_
          refine oy rfl (ymv rfl) ?_
          refine ln rfl rfl rfl rfl ?_
          refine ln rfl rfl rfl rfl ?_
          refine oy rfl (ypF rfl rfl) ?_
          refine on ?_
          refine pn ?_
          refine rcF rfl ?_
          refine rsr ?_
          refine oy rfl (ymv rfl) ?_
          refine oy rfl (yno rfl) ?_
          refine on ?_
          refine pn ?_
          refine rcT rfl ?_
          refine rr ?_
          refine oy rfl (ymv rfl) ?_
          refine oy rfl (ync rfl) ?_
          refine oy rfl (yfa rfl) ?_
          refine oy rfl (yld 2 rfl rfl rfl) ?_
          refine oy rfl (ymv rfl) ?_
          refine oy rfl (ymv rfl) ?_
          refine oy rfl (yls rfl (sl_own 1 rfl)) ?_
          refine l0 ?_
          refine omu 3 rfl rfl rfl rfl (by assumption) (fun w3 => ?_)
          refine on ?_
          refine pn ?_
          refine rd [ow ES 9 v1 l1] rfl ?_
          refine dt (i := 0) rfl (by decide +kernel) (by repeat (first | exact List.nil_sublist _ | apply List.Sublist.cons_cons | apply List.Sublist.cons)) rfl (fun _ ha => g0 ha) (ymv rfl) ?_
          refine dt (i := 1) rfl (by decide +kernel) (by repeat (first | exact List.nil_sublist _ | apply List.Sublist.cons_cons | apply List.Sublist.cons)) rfl (fun _ ha => g0 ha) (ymv rfl) ?_
          refine dt (i := 2) rfl (by decide +kernel) (by repeat (first | exact List.nil_sublist _ | apply List.Sublist.cons_cons | apply List.Sublist.cons)) rfl (fun _ ha => g0 ha) (ymv rfl) ?_
          refine dt (i := 3) rfl (by decide +kernel) (by repeat (first | exact List.nil_sublist _ | apply List.Sublist.cons_cons | apply List.Sublist.cons)) rfl (fun _ ha => g0 ha) (yix rfl rfl rfl (sl_own 0 rfl) (by omega)) ?_
          refine dt (i := 4) rfl (by decide +kernel) (by repeat (first | exact List.nil_sublist _ | apply List.Sublist.cons_cons | apply List.Sublist.cons)) rfl (fun _ ha => g0 ha) (yleN rfl rfl (sl_own 0 rfl) (by omega)) ?_
          refine dt (i := 5) rfl (by decide +kernel) (by repeat (first | exact List.nil_sublist _ | apply List.Sublist.cons_cons | apply List.Sublist.cons)) rfl (fun _ ha => g0 ha) (yln rfl) ?_
          refine dt (i := 6) rfl (by decide +kernel) (by repeat (first | exact List.nil_sublist _ | apply List.Sublist.cons_cons | apply List.Sublist.cons)) rfl (fun _ ha => g0 ha) (ycU rfl) ?_
          refine dt (i := 9) rfl (by decide +kernel) (by repeat (first | exact List.nil_sublist _ | apply List.Sublist.cons_cons | apply List.Sublist.cons)) rfl (fun _ ha => g0 ha) (ymv rfl) ?_
          refine dt (i := 10) rfl (by decide +kernel) (by repeat (first | exact List.nil_sublist _ | apply List.Sublist.cons_cons | apply List.Sublist.cons)) rfl (fun _ ha => g0 ha) (ymv rfl) ?_
          refine dt (i := 11) rfl (by decide +kernel) (by repeat (first | exact List.nil_sublist _ | apply List.Sublist.cons_cons | apply List.Sublist.cons)) rfl (fun _ ha => g0 ha) (yix rfl rfl rfl (sl_own 0 rfl) (by omega)) ?_
          refine dt (i := 12) rfl (by decide +kernel) (by repeat (first | exact List.nil_sublist _ | apply List.Sublist.cons_cons | apply List.Sublist.cons)) rfl (fun _ ha => g0 ha) (yleN rfl rfl (sl_own 0 rfl) (by omega)) ?_
          refine d1 (i := 7) (by decide +kernel) rfl ?_
          refine wz ?_
          refine oli EB [_] rfl rfl rfl rfl rfl (fun g4 w4 l4 => ?_)
          refine dg (by repeat (first | exact List.nil_sublist _ | apply List.Sublist.cons_cons | apply List.Sublist.cons)) ?_
          refine d1 (i := 8) (by decide +kernel) rfl ?_
          refine wz ?_
          refine oapl 1 rfl rfl rfl rfl rfl rfl (by simp only [List.length_append, List.length_take, List.length_drop, List.length_cons, List.length_nil]; omega) rfl (fun v5 w5 => ?_)
          refine dg (by repeat (first | exact List.nil_sublist _ | apply List.Sublist.cons_cons | apply List.Sublist.cons)) ?_
          refine d1 (i := 13) (by decide +kernel) rfl ?_
          refine wz ?_
          refine oas 1 rfl rfl rfl rfl rfl (by simp only [List.length_append, List.length_take, List.length_drop, List.length_cons, List.length_nil]; omega) rfl (fun v6 w6 => ?_)
          refine dg (by repeat (first | exact List.nil_sublist _ | apply List.Sublist.cons_cons | apply List.Sublist.cons)) ?_
          refine dt (i := 14) rfl (by decide +kernel) (by repeat (first | exact List.nil_sublist _ | apply List.Sublist.cons_cons | apply List.Sublist.cons)) rfl (fun _ ha => g0 ha) (yas rfl) ?_
          refine de (by decide +kernel) ?_
          refine pbn ?_
          refine pn ?_
          refine rr ?_
          refine oy rfl (ybW rfl rfl rfl (by omega)) ?_
          refine oy rfl (ymv rfl) ?_
          refine on ?_
          refine pn ?_
          rotate_left
        refine round rfl rfl (List.Sublist.refl _) ⟨i + 1, _, _, _, rfl, rfl, by omega, ?_, ?_⟩ (show l1.length - (i + 1) < l1.length - i by omega)
        · rw [htp, hd] at *
          rw [tput_none hg]; simp [enc1]
        · rw [hft]; simp only [enc1, List.length_append, List.length_cons, List.length_nil]; omega
      | some p =>
        by_cases hp4 : p < 16384
        · focus
            refine rsr ?_
            refine oy rfl (ybI rfl rfl rfl) ?_
            refine on ?_
            refine pn ?_
            refine rs_ ?_
            refine rcd rfl (fun c1 => ?_) (fun c1 => by exfalso; omega)
            refine rk ?_
            refine pn ?_
            refine rs_ ?_
            refine rb ?_
            refine rsr ?_
            refine oy rfl (ymv rfl) ?_
            refine oy rfl (yas rfl) ?_
            refine on ?_
            refine pn ?_
            refine rsr ?_
            refine oy rfl (ymv rfl) ?_
            refine oy rfl (ymv rfl) ?_
            refine oy rfl (yp1 rfl rfl rfl (sl_own 0 rfl) (by omega)) ?_
            refine l0 ?_
            refine ocd rfl rfl (fun hM => Join_spec _ (l1.drop i) _ (sub_tailS (sl_own 0 rfl) (by omega) _ hM) hne (by omega)) (fun w2 => ?_)
            refine oy rfl (yas rfl) ?_
            refine on ?_
            refine pn ?_
            refine rs_ ?_
            refine rsr ?_
            refine oy rfl (ymv rfl) ?_
            refine oy rfl (ync rfl) ?_
            refine oy rfl (yfa rfl) ?_
            refine oy rfl (yld 2 rfl rfl rfl) ?_
            refine oy rfl (ymv rfl) ?_
            refine oy rfl (ylk1 3 rfl rfl rfl (by assumption)) ?_
            refine oy rfl (ymv rfl) ?_
            refine oy rfl (yex rfl rfl) ?_
            refine oy rfl (yex rfl rfl) ?_
            refine oy rfl (yas rfl) ?_
            refine oy rfl (yas rfl) ?_
            refine on ?_
            refine pn ?_
            refine rsr ?_
            refine oy rfl (ymv rfl) ?_
            refine oy rfl (ymv rfl) ?_
            refine oyg rfl rfl rfl (ymv rfl) ?_
            refine oyg rfl rfl rfl (ybI rfl rfl rfl) ?_
            refine oy rfl (ypT rfl rfl) ?_
            refine on ?_
            refine pn ?_
            refine rcd rfl (fun c3 => ?_) (fun c3 => by exfalso; omega)
            refine rsr ?_
            refine oy rfl (ymv rfl) ?_
            refine oy rfl (ymv rfl) ?_
            refine oy rfl (yshr 8 256 rfl rfl rfl (by decide)) ?_
            refine oy rfl (ycU rfl) ?_
            refine oy rfl (yoU 192 _ rfl rfl) ?_
            refine oy rfl (ymv rfl) ?_
            refine oy rfl (ycU rfl) ?_
            refine l0 ?_
            refine oli EB [_, _] rfl rfl rfl rfl rfl (fun g4 w4 l4 => ?_)
            refine l0 ?_
            refine oapl 1 rfl rfl rfl rfl rfl rfl (by simp only [List.length_append, List.length_take, List.length_drop, List.length_cons, List.length_nil]; omega) rfl (fun v5 w5 => ?_)
            refine oy rfl (yas rfl) ?_
            refine oy rfl (yas rfl) ?_
            refine on ?_
            refine pn ?_
            refine rt ?_
            refine pr ?_
            refine pbr ?_
            refine pr ?_
            refine pr ?_
            refine pbr ?_
            refine pr ?_
            refine ret_ rfl (fun hM => ?_)
            rotate_left
          rw [hd] at hg htp
          rw [tput_hit hg hp4] at htp
          refine ⟨_, hM.sub (List.sublist_cons_self _ _), _, rfl, ?_⟩
          rw [htp]; rfl
        · focus
            refine rsr ?_
            refine oy rfl (ybI rfl rfl rfl) ?_
            refine on ?_
            refine pn ?_
            refine rs_ ?_
            refine rcd rfl (fun c1 => ?_) (fun c1 => by exfalso; omega)
            refine rk ?_
            refine pn ?_
            refine rs_ ?_
            refine rb ?_
            refine rsr ?_
            refine oy rfl (ymv rfl) ?_
            refine oy rfl (yas rfl) ?_
            refine on ?_
            refine pn ?_
            refine rsr ?_
            refine oy rfl (ymv rfl) ?_
            refine oy rfl (ymv rfl) ?_
            refine oy rfl (yp1 rfl rfl rfl (sl_own 0 rfl) (by omega)) ?_
            refine l0 ?_
            refine ocd rfl rfl (fun hM => Join_spec _ (l1.drop i) _ (sub_tailS (sl_own 0 rfl) (by omega) _ hM) hne (by omega)) (fun w2 => ?_)
            refine oy rfl (yas rfl) ?_
            refine on ?_
            refine pn ?_
            refine rs_ ?_
            refine rsr ?_
            refine oy rfl (ymv rfl) ?_
            refine oy rfl (ync rfl) ?_
            refine oy rfl (yfa rfl) ?_
            refine oy rfl (yld 2 rfl rfl rfl) ?_
            refine oy rfl (ymv rfl) ?_
            refine oy rfl (ylk1 3 rfl rfl rfl (by assumption)) ?_
            refine oy rfl (ymv rfl) ?_
            refine oy rfl (yex rfl rfl) ?_
            refine oy rfl (yex rfl rfl) ?_
            refine oy rfl (yas rfl) ?_
            refine oy rfl (yas rfl) ?_
            refine on ?_
            refine pn ?_
            refine rsr ?_
            refine oy rfl (ymv rfl) ?_
            refine oy rfl (ymv rfl) ?_
            refine oyg rfl rfl rfl (ymv rfl) ?_
            refine oyg rfl rfl rfl (ybI rfl rfl rfl) ?_
            refine oy rfl (ypT rfl rfl) ?_
            refine on ?_
            refine pn ?_
            refine rcd rfl (fun c3 => by exfalso; omega) (fun c3 => ?_)
            refine rsr ?_
            refine oy rfl (ymv rfl) ?_
            refine oy rfl (yno rfl) ?_
            refine on ?_
            refine pn ?_
            refine rcF rfl ?_
            refine rk ?_
            refine pn ?_
            refine rd [ow ES 9 v1 l1] rfl ?_
            refine dt (i := 0) rfl (by decide +kernel) (by repeat (first | exact List.nil_sublist _ | apply List.Sublist.cons_cons | apply List.Sublist.cons)) rfl (fun _ ha => g0 ha) (ymv rfl) ?_
            refine dt (i := 1) rfl (by decide +kernel) (by repeat (first | exact List.nil_sublist _ | apply List.Sublist.cons_cons | apply List.Sublist.cons)) rfl (fun _ ha => g0 ha) (ymv rfl) ?_
            refine dt (i := 2) rfl (by decide +kernel) (by repeat (first | exact List.nil_sublist _ | apply List.Sublist.cons_cons | apply List.Sublist.cons)) rfl (fun _ ha => g0 ha) (ymv rfl) ?_
            refine dt (i := 3) rfl (by decide +kernel) (by repeat (first | exact List.nil_sublist _ | apply List.Sublist.cons_cons | apply List.Sublist.cons)) rfl (fun _ ha => g0 ha) (yix rfl rfl rfl (sl_own 0 rfl) (by omega)) ?_
            refine dt (i := 4) rfl (by decide +kernel) (by repeat (first | exact List.nil_sublist _ | apply List.Sublist.cons_cons | apply List.Sublist.cons)) rfl (fun _ ha => g0 ha) (yleN rfl rfl (sl_own 0 rfl) (by omega)) ?_
            refine dt (i := 5) rfl (by decide +kernel) (by repeat (first | exact List.nil_sublist _ | apply List.Sublist.cons_cons | apply List.Sublist.cons)) rfl (fun _ ha => g0 ha) (yln rfl) ?_
            refine dt (i := 6) rfl (by decide +kernel) (by repeat (first | exact List.nil_sublist _ | apply List.Sublist.cons_cons | apply List.Sublist.cons)) rfl (fun _ ha => g0 ha) (ycU rfl) ?_
            refine dt (i := 9) rfl (by decide +kernel) (by repeat (first | exact List.nil_sublist _ | apply List.Sublist.cons_cons | apply List.Sublist.cons)) rfl (fun _ ha => g0 ha) (ymv rfl) ?_
            refine dt (i := 10) rfl (by decide +kernel) (by repeat (first | exact List.nil_sublist _ | apply List.Sublist.cons_cons | apply List.Sublist.cons)) rfl (fun _ ha => g0 ha) (ymv rfl) ?_
            refine dt (i := 11) rfl (by decide +kernel) (by repeat (first | exact List.nil_sublist _ | apply List.Sublist.cons_cons | apply List.Sublist.cons)) rfl (fun _ ha => g0 ha) (yix rfl rfl rfl (sl_own 0 rfl) (by omega)) ?_
            refine dt (i := 12) rfl (by decide +kernel) (by repeat (first | exact List.nil_sublist _ | apply List.Sublist.cons_cons | apply List.Sublist.cons)) rfl (fun _ ha => g0 ha) (yleN rfl rfl (sl_own 0 rfl) (by omega)) ?_
            refine d1 (i := 7) (by decide +kernel) rfl ?_
            refine wz ?_
            refine oli EB [_] rfl rfl rfl rfl rfl (fun g4 w4 l4 => ?_)
            refine dg (by repeat (first | exact List.nil_sublist _ | apply List.Sublist.cons_cons | apply List.Sublist.cons)) ?_
            refine d1 (i := 8) (by decide +kernel) rfl ?_
            refine wz ?_
            refine oapl 1 rfl rfl rfl rfl rfl rfl (by simp only [List.length_append, List.length_take, List.length_drop, List.length_cons, List.length_nil]; omega) rfl (fun v5 w5 => ?_)
            refine dg (by repeat (first | exact List.nil_sublist _ | apply List.Sublist.cons_cons | apply List.Sublist.cons)) ?_
            refine d1 (i := 13) (by decide +kernel) rfl ?_
            refine wz ?_
            refine oas 1 rfl rfl rfl rfl rfl (by simp only [List.length_append, List.length_take, List.length_drop, List.length_cons, List.length_nil]; omega) rfl (fun v6 w6 => ?_)
            refine dg (by repeat (first | exact List.nil_sublist _ | apply List.Sublist.cons_cons | apply List.Sublist.cons)) ?_
            refine dt (i := 14) rfl (by decide +kernel) (by repeat (first | exact List.nil_sublist _ | apply List.Sublist.cons_cons | apply List.Sublist.cons)) rfl (fun _ ha => g0 ha) (yas rfl) ?_
            refine de (by decide +kernel) ?_
            refine pbn ?_
            refine pn ?_
            refine rr ?_
            refine oy rfl (ybW rfl rfl rfl (by omega)) ?_
            refine oy rfl (ymv rfl) ?_
            refine on ?_
            refine pn ?_
            rotate_left
          refine round rfl rfl (List.Sublist.refl _) ⟨i + 1, _, _, _, rfl, rfl, by omega, ?_, ?_⟩ (show l1.length - (i + 1) < l1.length - i by omega)
          · rw [hd] at hg htp
            rw [htp, tput_far hg hp4]; simp [enc1]
          · rw [hft]; simp only [enc1, List.length_append, List.length_cons, List.length_nil]; omega
    · focus
        refine rsr ?_
        refine oy rfl (ybI rfl rfl rfl) ?_
        refine on ?_
        refine pn ?_
        refine rs_ ?_
        refine rcd rfl (fun c1 => by exfalso; omega) (fun c1 => ?_)
        refine re ?_
        refine pe ?_
        refine pe ?_
        refine pbe ?_
        refine pn ?_
        refine rsr ?_
        refine oy rfl (ymv rfl) ?_
        refine l0 ?_
        refine oli EB [0] rfl rfl rfl rfl rfl (fun g2 w2 l2 => ?_)
        refine l0 ?_
        refine oapl 1 rfl rfl rfl rfl rfl rfl (by simp only [List.length_append, List.length_take, List.length_drop, List.length_cons, List.length_nil]; omega) rfl (fun v3 w3 => ?_)
        refine oy rfl (yas rfl) ?_
        refine oy rfl (yas rfl) ?_
        refine on ?_
        refine pn ?_
        refine rt ?_
        refine ret_ rfl (fun hM => ?_)
        rotate_left
      have h9 : l1.drop i = [] := List.drop_eq_nil_of_le (by omega)
      rw [h9] at htp
      refine ⟨_, hM.sub (List.sublist_cons_self _ _), _, rfl, ?_⟩
      rw [htp]; rfl
  · rw [hl] at e1; cases e1
theorem PutA {v : Value} {b : List UInt8} {gt : Nat} {s : List UInt8} {l1 : List (List UInt8)} (w : World) (hl : labels s = some l1)
    (hE : Ent [ow EB 5 v b, bx gt (.cells #[.map none] 32 (0, 0))] [] w) (hs : s.length ≤ 4294967280) (hb : b.length ≤ 1000000000) :
    Spec Tryd.prog 12 [.pointer (some ⟨gt, 0, none⟩), v, .string (sOf s)].toArray w (fun v' w' => ∃ H', Mok ⟨blks [ow EB 5 v b, bx gt (.cells #[.map none] 32 (0, 0))], w, H'⟩ w' ∧
      ∃ g bv, v' = .tuple #[bv, .int .i64 0] ∧ H' = [ow EB 5 bv (tputN [] b l1).2, bx gt (.cells #[.map (some g)] 32 (0, 0)), mp g (tputN [] b l1).1]) := by
  have hM0 : Mok ⟨blks [ow EB 5 v b, bx gt (.cells #[.map none] 32 (0, 0))], w, [ow EB 5 v b, bx gt (.cells #[.map none] 32 (0, 0))]⟩ w := hE.mok
  have hz := hE.zw
  have h0 := hE.no0
  generalize hS : blks [ow EB 5 v b, bx gt (.cells #[.map none] 32 (0, 0))] = S at hM0 h0 ⊢
  refine Spec.intro Tryd.func12 rfl rfl (Nat.le_of_ble_eq_true rfl) hM0 ?_
  obtain ⟨-, hok⟩ := labels_iff.1 hl
  focus
    refine rsr ?_
    refine oy rfl (yas rfl) ?_
    refine oy rfl (yas rfl) ?_
    refine on ?_
    refine pn ?_
    refine rs_ ?_
    refine rsr ?_
    refine oy rfl (ymv rfl) ?_
    refine oy rfl (ypn rfl rfl) ?_
    refine on ?_
    refine pn ?_
    refine rcF rfl ?_
    refine rk ?_
    refine pn ?_
    refine rsr ?_
    refine oy rfl (ymv rfl) ?_
    refine l0 ?_
    refine Labels_call rfl rfl (by assumption) hz h0 (fun ls v1 w1 e1 => ?_) (fun w1 e1 => ?_)
    refine oy rfl (ymv rfl) ?_
    refine oy rfl (yex rfl rfl) ?_
    refine oy rfl (yex rfl rfl) ?_
    refine oy rfl (yas rfl) ?_
    refine oy rfl (yas rfl) ?_
    refine on ?_
    refine pn ?_
    refine rs_ ?_
    refine rsr ?_
    refine oy rfl (ymv rfl) ?_
    refine oy rfl (ybI rfl rfl rfl) ?_
    refine on ?_
    refine pn ?_
    refine rcF rfl ?_
    refine rk ?_
    refine pn ?_
    refine rs_ ?_
    refine rsr ?_
    refine oy rfl (ymv rfl) ?_
    refine oy rfl (ync rfl) ?_
    refine oy rfl (yfa rfl) ?_
    refine oy rfl (yld 2 rfl rfl rfl) ?_
    refine oy rfl (ym0 rfl rfl) ?_
    refine on ?_
    refine pn ?_
    refine rcT rfl ?_
    refine rr ?_
    refine oy rfl (ymv rfl) ?_
    refine l0 ?_
    refine omk rfl (fun g2 w2 l2 => ?_)
    refine oy rfl (ync rfl) ?_
    refine oy rfl (yfa rfl) ?_
    refine l0 ?_
    refine ost 3 rfl rfl rfl rfl rfl (fun w3 => ?_)
    refine on ?_
    refine pn ?_
    refine rs_ ?_
    refine rsr ?_
    refine oy rfl (ymv rfl) ?_
    refine oy rfl (yls rfl (sl_own 1 rfl)) ?_
    refine oy rfl (ymv rfl) ?_
    refine on ?_
    refine pn ?_
    refine rb ?_
    rotate_left
    refine oy rfl (ymv rfl) ?_
    refine oy rfl (yex rfl rfl) ?_
    refine oy rfl (yex rfl rfl) ?_
    refine oy rfl (yas rfl) ?_
    refine oy rfl (yas rfl) ?_
    refine on ?_
    refine pn ?_
    refine rs_ ?_
    refine rsr ?_
    refine oy rfl (ymv rfl) ?_
    refine oy rfl (ybI rfl rfl rfl) ?_
    refine on ?_
    refine pn ?_
    refine rcT rfl ?_
    refine rsr ?_
    refine oy rfl (ymv rfl) ?_
    refine oy rfl (yas rfl) ?_
    refine oy rfl (yas rfl) ?_
    refine on ?_
    refine pn ?_
    refine rt ?_
    refine pr ?_
    refine ret_ rfl (fun hM => ?_)
    rotate_left
  · obtain rfl : l1 = ls := by rw [hl] at e1; exact Option.some.inj e1
    obtain ⟨gm, rfl⟩ : ∃ gm, gm = g2 := ⟨_, rfl⟩
    refine wperm (List.perm_append_comm (l₁ := [_]) (l₂ := [_, _, _])) ?_
    refine loop [1, 35] [0, 8, 33, 34] (fun vs H => ∃ (i : Nat) (cv : Value) (c : List UInt8) (tab' : List (List UInt8 × Nat)), vs = [cv, .int .i64 i] ∧ H = [ow ES 9 v1 l1, ow EB 5 cv c, bx gt (.cells #[.map (some gm)] 32 (0, 0)), mp gm tab'] ∧ i ≤ l1.length ∧
      tputN [] b l1 = tputN tab' c (l1.drop i) ∧ c.length = b.length + ((l1.take i).flatMap enc1).length) (fun vs => l1.length - intAt vs 1) rfl rfl (List.Sublist.refl _) ⟨0, v, b, [], rfl, rfl, Nat.zero_le _, rfl, by simp⟩ ?_
    rintro _ _ w' ⟨i, cv, c, tab', rfl, rfl, hi, htp, hcl⟩
    have hb1 := flat_take_le l1 i
    have hb2 := hok.2
    have hl2 : l1.length ≤ (dots l1).length := by rw [dots_len]; omega
    by_cases hil : i < l1.length
    · have hp := lab_le hok (List.getElem_mem hil)
      have hd := List.drop_eq_getElem_cons hil
      have hjl := joinL_le l1 i
      have hne : l1.drop i ≠ [] := fun h => by simp [List.drop_eq_nil_iff] at h; omega
      have hft := flat_take hil
      cases hg : tget tab' (joinL (l1.drop i)) with
      | none =>
        focus
          refine rsr ?_
          refine oy rfl (ybI rfl rfl rfl) ?_
          refine on ?_
          refine pn ?_
          refine rs_ ?_
          refine rcd rfl (fun c1 => ?_) (fun c1 => by exfalso; omega)
          refine rk ?_
          refine pn ?_
          refine rs_ ?_
          refine rb ?_
          refine rsr ?_
          refine oy rfl (ymv rfl) ?_
          refine oy rfl (yas rfl) ?_
          refine on ?_
          refine pn ?_
          refine rsr ?_
          refine oy rfl (ymv rfl) ?_
          refine oy rfl (ymv rfl) ?_
          refine oy rfl (yp1 rfl rfl rfl (sl_own 0 rfl) (by omega)) ?_
          refine l0 ?_
          refine ocd rfl rfl (fun hM => Join_spec _ (l1.drop i) _ (sub_tailS (sl_own 0 rfl) (by omega) _ hM) hne (by omega)) (fun w2 => ?_)
          refine oy rfl (yas rfl) ?_
          refine on ?_
          refine pn ?_
          refine rs_ ?_
          refine rsr ?_
          refine oy rfl (ymv rfl) ?_
          refine oy rfl (ync rfl) ?_
          refine oy rfl (yfa rfl) ?_
          refine oy rfl (yld 2 rfl rfl rfl) ?_
          refine oy rfl (ymv rfl) ?_
          refine oy rfl (ylk0 3 rfl rfl rfl (by assumption)) ?_
          refine oy rfl (ymv rfl) ?_
          refine oy rfl (yex rfl rfl) ?_
          refine oy rfl (yex rfl rfl) ?_
          refine oy rfl (yas rfl) ?_
          refine oy rfl (yas rfl) ?_
          refine on ?_
          refine pn ?_
          refine rsr ?_
          refine oy rfl (ymv rfl) ?_
          refine oy rfl (ymv rfl) ?_
          refine ln rfl rfl rfl rfl ?_
          refine ln rfl rfl rfl rfl ?_
          refine oy rfl (ypF rfl rfl) ?_
          refine on ?_
          refine pn ?_
          refine rcF rfl ?_
          refine rsr ?_
          refine oy rfl (ymv rfl) ?_
          refine oy rfl (yno rfl) ?_
          refine on ?_
          refine pn ?_
          refine rcT rfl ?_
          refine rr ?_
          refine oy rfl (ymv rfl) ?_
          refine oy rfl (ync rfl) ?_
          refine oy rfl (yfa rfl) ?_
          refine oy rfl (yld 2 rfl rfl rfl) ?_
          refine oy rfl (ymv rfl) ?_
          refine oy rfl (ymv rfl) ?_
          refine oy rfl (yls rfl (sl_own 1 rfl)) ?_
          refine l0 ?_
          refine omu 3 rfl rfl rfl rfl (by assumption) (fun w3 => ?_)
          refine on ?_
          refine pn ?_
          refine rd [ow ES 9 v1 l1] rfl ?_
          refine dt (i := 0) rfl (by decide +kernel) (by repeat (first | exact List.nil_sublist _ | apply List.Sublist.cons_cons | apply List.Sublist.cons)) rfl (fun _ ha => g0 ha) (ymv rfl) ?_
          refine dt (i := 1) rfl (by decide +kernel) (by repeat (first | exact List.nil_sublist _ | apply List.Sublist.cons_cons | apply List.Sublist.cons)) rfl (fun _ ha => g0 ha) (ymv rfl) ?_
          refine dt (i := 2) rfl (by decide +kernel) (by repeat (first | exact List.nil_sublist _ | apply List.Sublist.cons_cons | apply List.Sublist.cons)) rfl (fun _ ha => g0 ha) (ymv rfl) ?_
          refine dt (i := 3) rfl (by decide +kernel) (by repeat (first | exact List.nil_sublist _ | apply List.Sublist.cons_cons | apply List.Sublist.cons)) rfl (fun _ ha => g0 ha) (yix rfl rfl rfl (sl_own 0 rfl) (by omega)) ?_
          refine dt (i := 4) rfl (by decide +kernel) (by repeat (first | exact List.nil_sublist _ | apply List.Sublist.cons_cons | apply List.Sublist.cons)) rfl (fun _ ha => g0 ha) (yleN rfl rfl (sl_own 0 rfl) (by omega)) ?_
          refine dt (i := 5) rfl (by decide +kernel) (by repeat (first | exact List.nil_sublist _ | apply List.Sublist.cons_cons | apply List.Sublist.cons)) rfl (fun _ ha => g0 ha) (yln rfl) ?_
          refine dt (i := 6) rfl (by decide +kernel) (by repeat (first | exact List.nil_sublist _ | apply List.Sublist.cons_cons | apply List.Sublist.cons)) rfl (fun _ ha => g0 ha) (ycU rfl) ?_
          refine dt (i := 9) rfl (by decide +kernel) (by repeat (first | exact List.nil_sublist _ | apply List.Sublist.cons_cons | apply List.Sublist.cons)) rfl (fun _ ha => g0 ha) (ymv rfl) ?_
          refine dt (i := 10) rfl (by decide +kernel) (by repeat (first | exact List.nil_sublist _ | apply List.Sublist.cons_cons | apply List.Sublist.cons)) rfl (fun _ ha => g0 ha) (ymv rfl) ?_
          refine dt (i := 11) rfl (by decide +kernel) (by repeat (first | exact List.nil_sublist _ | apply List.Sublist.cons_cons | apply List.Sublist.cons)) rfl (fun _ ha => g0 ha) (yix rfl rfl rfl (sl_own 0 rfl) (by omega)) ?_
          refine dt (i := 12) rfl (by decide +kernel) (by repeat (first | exact List.nil_sublist _ | apply List.Sublist.cons_cons | apply List.Sublist.cons)) rfl (fun _ ha => g0 ha) (yleN rfl rfl (sl_own 0 rfl) (by omega)) ?_
          refine d1 (i := 7) (by decide +kernel) rfl ?_
          refine wz ?_
          refine oli EB [_] rfl rfl rfl rfl rfl (fun g4 w4 l4 => ?_)
          refine dg (by repeat (first | exact List.nil_sublist _ | apply List.Sublist.cons_cons | apply List.Sublist.cons)) ?_
          refine d1 (i := 8) (by decide +kernel) rfl ?_
          refine wz ?_
          refine oapl 1 rfl rfl rfl rfl rfl rfl (by simp only [List.length_append, List.length_take, List.length_drop, List.length_cons, List.length_nil]; omega) rfl (fun v5 w5 => ?_)
          refine dg (by repeat (first | exact List.nil_sublist _ | apply List.Sublist.cons_cons | apply List.Sublist.cons)) ?_
          refine d1 (i := 13) (by decide +kernel) rfl ?_
          refine wz ?_
          refine oas 1 rfl rfl rfl rfl rfl (by simp only [List.length_append, List.length_take, List.length_drop, List.length_cons, List.length_nil]; omega) rfl (fun v6 w6 => ?_)
          refine dg (by repeat (first | exact List.nil_sublist _ | apply List.Sublist.cons_cons | apply List.Sublist.cons)) ?_
          refine dt (i := 14) rfl (by decide +kernel) (by repeat (first | exact List.nil_sublist _ | apply List.Sublist.cons_cons | apply List.Sublist.cons)) rfl (fun _ ha => g0 ha) (yas rfl) ?_
          refine de (by decide +kernel) ?_
          refine pbn ?_
          refine pn ?_
          refine rr ?_
          refine oy rfl (ybW rfl rfl rfl (by omega)) ?_
          refine oy rfl (ymv rfl) ?_
          refine on ?_
          refine pn ?_
          rotate_left
        refine round rfl rfl (List.Sublist.refl _) ⟨i + 1, _, _, _, rfl, rfl, by omega, ?_, ?_⟩ (show l1.length - (i + 1) < l1.length - i by omega)
        · rw [htp, hd] at *
          rw [tput_none hg]; simp [enc1]
        · rw [hft]; simp only [enc1, List.length_append, List.length_cons, List.length_nil]; omega
      | some p =>
        by_cases hp4 : p < 16384
        · focus
            refine rsr ?_
            refine oy rfl (ybI rfl rfl rfl) ?_
            refine on ?_
            refine pn ?_
            refine rs_ ?_
            refine rcd rfl (fun c1 => ?_) (fun c1 => by exfalso; omega)
            refine rk ?_
            refine pn ?_
            refine rs_ ?_
            refine rb ?_
            refine rsr ?_
            refine oy rfl (ymv rfl) ?_
            refine oy rfl (yas rfl) ?_
            refine on ?_
            refine pn ?_
            refine rsr ?_
            refine oy rfl (ymv rfl) ?_
            refine oy rfl (ymv rfl) ?_
            refine oy rfl (yp1 rfl rfl rfl (sl_own 0 rfl) (by omega)) ?_
            refine l0 ?_
            refine ocd rfl rfl (fun hM => Join_spec _ (l1.drop i) _ (sub_tailS (sl_own 0 rfl) (by omega) _ hM) hne (by omega)) (fun w2 => ?_)
            refine oy rfl (yas rfl) ?_
            refine on ?_
            refine pn ?_
            refine rs_ ?_
            refine rsr ?_
            refine oy rfl (ymv rfl) ?_
            refine oy rfl (ync rfl) ?_
            refine oy rfl (yfa rfl) ?_
            refine oy rfl (yld 2 rfl rfl rfl) ?_
            refine oy rfl (ymv rfl) ?_
            refine oy rfl (ylk1 3 rfl rfl rfl (by assumption)) ?_
            refine oy rfl (ymv rfl) ?_
            refine oy rfl (yex rfl rfl) ?_
            refine oy rfl (yex rfl rfl) ?_
            refine oy rfl (yas rfl) ?_
            refine oy rfl (yas rfl) ?_
            refine on ?_
            refine pn ?_
            refine rsr ?_
            refine oy rfl (ymv rfl) ?_
            refine oy rfl (ymv rfl) ?_
            refine oyg rfl rfl rfl (ymv rfl) ?_
            refine oyg rfl rfl rfl (ybI rfl rfl rfl) ?_
            refine oy rfl (ypT rfl rfl) ?_
            refine on ?_
            refine pn ?_
            refine rcd rfl (fun c3 => ?_) (fun c3 => by exfalso; omega)
            refine rsr ?_
            refine oy rfl (ymv rfl) ?_
            refine oy rfl (ymv rfl) ?_
            refine oy rfl (yshr 8 256 rfl rfl rfl (by decide)) ?_
            refine oy rfl (ycU rfl) ?_
            refine oy rfl (yoU 192 _ rfl rfl) ?_
            refine oy rfl (ymv rfl) ?_
            refine oy rfl (ycU rfl) ?_
            refine l0 ?_
            refine oli EB [_, _] rfl rfl rfl rfl rfl (fun g4 w4 l4 => ?_)
            refine l0 ?_
            refine oapl 1 rfl rfl rfl rfl rfl rfl (by simp only [List.length_append, List.length_take, List.length_drop, List.length_cons, List.length_nil]; omega) rfl (fun v5 w5 => ?_)
            refine oy rfl (yas rfl) ?_
            refine oy rfl (yas rfl) ?_
            refine on ?_
            refine pn ?_
            refine rt ?_
            refine pr ?_
            refine pbr ?_
            refine pr ?_
            refine pr ?_
            refine pbr ?_
            refine pr ?_
            refine ret_ rfl (fun hM => ?_)
            rotate_left
          rw [hd] at hg htp
          rw [tput_hit hg hp4] at htp
          refine ⟨_, hM.sub (List.sublist_cons_self _ _), gm, _, rfl, ?_⟩
          rw [htp]; rfl
        · focus
            refine rsr ?_
            refine oy rfl (ybI rfl rfl rfl) ?_
            refine on ?_
            refine pn ?_
            refine rs_ ?_
            refine rcd rfl (fun c1 => ?_) (fun c1 => by exfalso; omega)
            refine rk ?_
            refine pn ?_
            refine rs_ ?_
            refine rb ?_
            refine rsr ?_
            refine oy rfl (ymv rfl) ?_
            refine oy rfl (yas rfl) ?_
            refine on ?_
            refine pn ?_
            refine rsr ?_
            refine oy rfl (ymv rfl) ?_
            refine oy rfl (ymv rfl) ?_
            refine oy rfl (yp1 rfl rfl rfl (sl_own 0 rfl) (by omega)) ?_
            refine l0 ?_
            refine ocd rfl rfl (fun hM => Join_spec _ (l1.drop i) _ (sub_tailS (sl_own 0 rfl) (by omega) _ hM) hne (by omega)) (fun w2 => ?_)
            refine oy rfl (yas rfl) ?_
            refine on ?_
            refine pn ?_
            refine rs_ ?_
            refine rsr ?_
            refine oy rfl (ymv rfl) ?_
            refine oy rfl (ync rfl) ?_
            refine oy rfl (yfa rfl) ?_
            refine oy rfl (yld 2 rfl rfl rfl) ?_
            refine oy rfl (ymv rfl) ?_
            refine oy rfl (ylk1 3 rfl rfl rfl (by assumption)) ?_
            refine oy rfl (ymv rfl) ?_
            refine oy rfl (yex rfl rfl) ?_
            refine oy rfl (yex rfl rfl) ?_
            refine oy rfl (yas rfl) ?_
            refine oy rfl (yas rfl) ?_
            refine on ?_
            refine pn ?_
            refine rsr ?_
            refine oy rfl (ymv rfl) ?_
            refine oy rfl (ymv rfl) ?_
            refine oyg rfl rfl rfl (ymv rfl) ?_
            refine oyg rfl rfl rfl (ybI rfl rfl rfl) ?_
            refine oy rfl (ypT rfl rfl) ?_
            refine on ?_
            refine pn ?_
            refine rcd rfl (fun c3 => by exfalso; omega) (fun c3 => ?_)
            refine rsr ?_
            refine oy rfl (ymv rfl) ?_
            refine oy rfl (yno rfl) ?_
            refine on ?_
            refine pn ?_
            refine rcF rfl ?_
            refine rk ?_
            refine pn ?_
            refine rd [ow ES 9 v1 l1] rfl ?_
            refine dt (i := 0) rfl (by decide +kernel) (by repeat (first | exact List.nil_sublist _ | apply List.Sublist.cons_cons | apply List.Sublist.cons)) rfl (fun _ ha => g0 ha) (ymv rfl) ?_
            refine dt (i := 1) rfl (by decide +kernel) (by repeat (first | exact List.nil_sublist _ | apply List.Sublist.cons_cons | apply List.Sublist.cons)) rfl (fun _ ha => g0 ha) (ymv rfl) ?_
            refine dt (i := 2) rfl (by decide +kernel) (by repeat (first | exact List.nil_sublist _ | apply List.Sublist.cons_cons | apply List.Sublist.cons)) rfl (fun _ ha => g0 ha) (ymv rfl) ?_
            refine dt (i := 3) rfl (by decide +kernel) (by repeat (first | exact List.nil_sublist _ | apply List.Sublist.cons_cons | apply List.Sublist.cons)) rfl (fun _ ha => g0 ha) (yix rfl rfl rfl (sl_own 0 rfl) (by omega)) ?_
            refine dt (i := 4) rfl (by decide +kernel) (by repeat (first | exact List.nil_sublist _ | apply List.Sublist.cons_cons | apply List.Sublist.cons)) rfl (fun _ ha => g0 ha) (yleN rfl rfl (sl_own 0 rfl) (by omega)) ?_
            refine dt (i := 5) rfl (by decide +kernel) (by repeat (first | exact List.nil_sublist _ | apply List.Sublist.cons_cons | apply List.Sublist.cons)) rfl (fun _ ha => g0 ha) (yln rfl) ?_
            refine dt (i := 6) rfl (by decide +kernel) (by repeat (first | exact List.nil_sublist _ | apply List.Sublist.cons_cons | apply List.Sublist.cons)) rfl (fun _ ha => g0 ha) (ycU rfl) ?_
            refine dt (i := 9) rfl (by decide +kernel) (by repeat (first | exact List.nil_sublist _ | apply List.Sublist.cons_cons | apply List.Sublist.cons)) rfl (fun _ ha => g0 ha) (ymv rfl) ?_
            refine dt (i := 10) rfl (by decide +kernel) (by repeat (first | exact List.nil_sublist _ | apply List.Sublist.cons_cons | apply List.Sublist.cons)) rfl (fun _ ha => g0 ha) (ymv rfl) ?_
            refine dt (i := 11) rfl (by decide +kernel) (by repeat (first | exact List.nil_sublist _ | apply List.Sublist.cons_cons | apply List.Sublist.cons)) rfl (fun _ ha => g0 ha) (yix rfl rfl rfl (sl_own 0 rfl) (by omega)) ?_
            refine dt (i := 12) rfl (by decide +kernel) (by repeat (first | exact List.nil_sublist _ | apply List.Sublist.cons_cons | apply List.Sublist.cons)) rfl (fun _ ha => g0 ha) (yleN rfl rfl (sl_own 0 rfl) (by omega)) ?_
            refine d1 (i := 7) (by decide +kernel) rfl ?_
            refine wz ?_
            refine oli EB [_] rfl rfl rfl rfl rfl (fun g4 w4 l4 => ?_)
            refine dg (by repeat (first | exact List.nil_sublist _ | apply List.Sublist.cons_cons | apply List.Sublist.cons)) ?_
            refine d1 (i := 8) (by decide +kernel) rfl ?_
            refine wz ?_
            refine oapl 1 rfl rfl rfl rfl rfl rfl (by simp only [List.length_append, List.length_take, List.length_drop, List.length_cons, List.length_nil]; omega) rfl (fun v5 w5 => ?_)
            refine dg (by repeat (first | exact List.nil_sublist _ | apply List.Sublist.cons_cons | apply List.Sublist.cons)) ?_
            refine d1 (i := 13) (by decide +kernel) rfl ?_
            refine wz ?_
            refine oas 1 rfl rfl rfl rfl rfl (by simp only [List.length_append, List.length_take, List.length_drop, List.length_cons, List.length_nil]; omega) rfl (fun v6 w6 => ?_)
            refine dg (by repeat (first | exact List.nil_sublist _ | apply List.Sublist.cons_cons | apply List.Sublist.cons)) ?_
            refine dt (i := 14) rfl (by decide +kernel) (by repeat (first | exact List.nil_sublist _ | apply List.Sublist.cons_cons | apply List.Sublist.cons)) rfl (fun _ ha => g0 ha) (yas rfl) ?_
            refine de (by decide +kernel) ?_
            refine pbn ?_
            refine pn ?_
            refine rr ?_
            refine oy rfl (ybW rfl rfl rfl (by omega)) ?_
            refine oy rfl (ymv rfl) ?_
            refine on ?_
            refine pn ?_
            rotate_left
          refine round rfl rfl (List.Sublist.refl _) ⟨i + 1, _, _, _, rfl, rfl, by omega, ?_, ?_⟩ (show l1.length - (i + 1) < l1.length - i by omega)
          · rw [hd] at hg htp
            rw [htp, tput_far hg hp4]; simp [enc1]
          · rw [hft]; simp only [enc1, List.length_append, List.length_cons, List.length_nil]; omega
    · focus
        refine rsr ?_
        refine oy rfl (ybI rfl rfl rfl) ?_
        refine on ?_
        refine pn ?_
        refine rs_ ?_
        refine rcd rfl (fun c1 => by exfalso; omega) (fun c1 => ?_)
        refine re ?_
        refine pe ?_
        refine pe ?_
        refine pbe ?_
        refine pn ?_
        refine rsr ?_
        refine oy rfl (ymv rfl) ?_
        refine l0 ?_
        refine oli EB [0] rfl rfl rfl rfl rfl (fun g2 w2 l2 => ?_)
        refine l0 ?_
        refine oapl 1 rfl rfl rfl rfl rfl rfl (by simp only [List.length_append, List.length_take, List.length_drop, List.length_cons, List.length_nil]; omega) rfl (fun v3 w3 => ?_)
        refine oy rfl (yas rfl) ?_
        refine oy rfl (yas rfl) ?_
        refine on ?_
        refine pn ?_
        refine rt ?_
        refine ret_ rfl (fun hM => ?_)
        rotate_left
      have h9 : l1.drop i = [] := List.drop_eq_nil_of_le (by omega)
      rw [h9] at htp
      refine ⟨_, hM.sub (List.sublist_cons_self _ _), gm, _, rfl, ?_⟩
      rw [htp]; rfl
  · rw [hl] at e1; cases e1
end Go.Proofs.YtkhlmpkodjoioaaDoor
