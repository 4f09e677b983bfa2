/- Names put behind each other: the document's DocPut. -/
import Derived.Test.YtkhlmpkodjoioaaDoorN20
import Derived.Test.YtkhlmpkodjoioaaDoorDp
set_option linter.unusedVariables false
set_option linter.unusedSimpArgs false
set_option maxRecDepth 100000
set_option maxHeartbeats 8000000
namespace Go.Proofs.YtkhlmpkodjoioaaDoor
def EK : En (List UInt8 × Nat) := ⟨2, fun p => .agg #[.string (sOf p.1), .int .i64 p.2], fun _ => rfl, fun _ u h => by simp [Value.cells] at h; rcases h with rfl | rfl <;> rfl, by decide⟩
instance : Ld Tryd.prog EK 81 := Ld.struct rfl fun _ => rfl
section
variable {P : Program} {n : Nat} {e : Env} {M : Mem} {ds : Option Tmp} {ty : TypeId} {ps : String} {af : Array Edge} {gd : Option (Nat × Bool)} {x y : Operand} {t t' : TypeId}
theorem yquo {m : Int} {i : Nat} [hm : NatI m i] (q : Nat) (hx : ev e x = some (.int .i64 m)) (hy : ev e y = some (.int .i64 q)) (hq : 0 < q) (hi : i ≤ 9223372036854775807) : Yd P n e M ⟨ds, .binOp .quo t x y t', ty, ps, af, gd⟩ (.int .i64 (i / q : Nat)) := by
  obtain rfl := hm.out
  have h := ybO (P := P) (n := n) (M := M) (ds := ds) (ty := ty) (ps := ps) (af := af) (gd := gd) (t := t) (t' := t') (o := .quo) hx hy rfl ⟨rfl, by omega⟩
  have h2 : ((i : Int)).tdiv q = ((i / q : Nat) : Int) := by rw [Int.tdiv_eq_ediv_of_nonneg (by omega)]; simp
  have h3 : i / q ≤ i := Nat.div_le_self _ _
  rw [h2] at h
  generalize i / q = z at *
  rw [wrap_eq (by omega) (by omega)] at h
  exact h
theorem yrem {m : Int} {i : Nat} [hm : NatI m i] (q : Nat) (hx : ev e x = some (.int .i64 m)) (hy : ev e y = some (.int .i64 q)) (hq : 0 < q) : Yd P n e M ⟨ds, .binOp .rem t x y t', ty, ps, af, gd⟩ (.int .i64 (i % q : Nat)) := by
  obtain rfl := hm.out
  have h := ybO (P := P) (n := n) (M := M) (ds := ds) (ty := ty) (ps := ps) (af := af) (gd := gd) (t := t) (t' := t') (o := .rem) hx hy rfl ⟨rfl, by omega⟩
  have h2 : ((i : Int)).tmod q = ((i % q : Nat) : Int) := by rw [Int.tmod_eq_emod_of_nonneg (by omega)]; simp
  rw [h2] at h
  exact h
end
theorem dget_no {l : Pls} {k : List UInt8} (h : ∀ j (hj : j < l.length), dhit k l[j] = false) : dget l k = none := by
  unfold dget
  rw [List.find?_eq_none.2 fun p hp => ?_]; rfl
  obtain ⟨j, hj, rfl⟩ := List.mem_iff_getElem.1 hp
  rw [h j hj]; simp
theorem dget_at {l : Pls} {k : List UInt8} {i : Nat} (hi : i < l.length) (h : ∀ j (hj : j < l.length), j < i → dhit k l[j] = false) (hh : dhit k l[i] = true) : dget l k = some l[i].2 := by
  unfold dget
  have : l.find? (dhit k) = some l[i] := List.find?_eq_some_iff_getElem.2 ⟨hh, i, hi, rfl, fun j hj => by rw [h j (by omega) hj]; rfl⟩
  rw [this]; rfl
theorem DocPut17_spec {lv : Value} {l : Pls} {b s : List UInt8} {l1 : List (List UInt8)} (w : World) (hl : labels s = some l1) (hE : Ent [ow EK 81 lv l] [] w) (hs : s.length ≤ 4294967280) (hb : b.length ≤ 1000000000) (hll : l.length ≤ 1000000000) :
    Spec Tryd.prog 14 [lv, .string (sOf b), .string (sOf s)].toArray w (fun v' w' => ∃ c', Mok ⟨blks [ow EK 81 lv l], w, [c']⟩ w' ∧ ∃ lv', v' = .tuple #[lv', .string (sOf (dputN l b l1).2), .int .i64 0] ∧ c' = ow EK 81 lv' (dputN l b l1).1) := by
  have hM0 : Mok ⟨blks [ow EK 81 lv l], w, [ow EK 81 lv l]⟩ w := hE.mok
  have hz := hE.zw
  have h0 := hE.no0
  generalize hS : blks [ow EK 81 lv l] = S at hM0 h0 ⊢
  refine Spec.intro Tryd.func14 rfl rfl (Nat.le_of_ble_eq_true rfl) hM0 ?_
  obtain ⟨hst, hok⟩ := labels_iff.1 hl
  have hb2 := hok.2
  have hl2 : l1.length ≤ (dots l1).length := by rw [dots_len]; omega
  focus
    refine rsr ?_
    refine oy rfl (yas rfl) ?_
    refine oy rfl (yas rfl) ?_
    refine oy rfl (yas rfl) ?_
    refine on ?_
    refine pn ?_
    refine rsr ?_
    refine oy rfl (ymv rfl) ?_
    refine l0 ?_
    refine DocLabels_call rfl rfl (by omega) (fun ls v1 w1 e1 => ?_) (fun w1 e1 => ?_)
    refine oy rfl (ymv rfl) ?_
    refine oy rfl (yex rfl rfl) ?_
    refine oy rfl (yex rfl rfl) ?_
    refine oy rfl (yas rfl) ?_
    refine oy rfl (yas rfl) ?_
    refine on ?_
    refine pn ?_
    refine rs_ ?_
    refine rsr ?_
    refine oy rfl (ymv rfl) ?_
    refine oy rfl (ybI rfl rfl rfl) ?_
    refine on ?_
    refine pn ?_
    refine rcF rfl ?_
    refine rk ?_
    refine pn ?_
    refine rsr ?_
    refine oy rfl (ymv rfl) ?_
    refine oy rfl (yas rfl) ?_
    refine on ?_
    refine pn ?_
    refine rs_ ?_
    refine rsr ?_
    refine oy rfl (yas rfl) ?_
    refine on ?_
    refine pn ?_
    refine rb ?_
    rotate_left
    refine oy rfl (ymv rfl) ?_
    refine oy rfl (yex rfl rfl) ?_
    refine oy rfl (yex rfl rfl) ?_
    refine oy rfl (yas rfl) ?_
    refine oy rfl (yas rfl) ?_
    refine on ?_
    refine pn ?_
    refine rs_ ?_
    refine rsr ?_
    refine oy rfl (ymv rfl) ?_
    refine oy rfl (ybI rfl rfl rfl) ?_
    refine on ?_
    refine pn ?_
    refine rcT rfl ?_
    refine rsr ?_
    refine oy rfl (ymv rfl) ?_
    refine oy rfl (ymv rfl) ?_
    refine oy rfl (yas rfl) ?_
    refine oy rfl (yas rfl) ?_
    refine oy rfl (yas rfl) ?_
    refine on ?_
    refine pn ?_
    refine rt ?_
    refine pr ?_
    refine ret_ rfl (fun hM => ?_)
    rotate_left
  · obtain rfl : l1 = ls := by rw [hl] at e1; exact Option.some.inj e1
    refine loop [0, 1, 11, 12] [9] (fun vs H => ∃ (i : Nat) (lv' : Value) (l' : Pls) (b' rest : List UInt8), vs = [lv', .string (sOf b'), .string (sOf rest), .int .i64 i] ∧ H = [ow ES 9 v1 l1, ow EK 81 lv' l'] ∧ i ≤ l1.length ∧
      dputN l b l1 = dputN l' b' (l1.drop i) ∧ b'.length = b.length + ((l1.take i).flatMap enc1).length ∧ l'.length ≤ l.length + i ∧ (l1 ≠ [] → rest = dots (l1.drop i))) (fun vs => l1.length - intAt vs 3) rfl rfl (List.Sublist.refl _)
      ⟨0, lv, l, b, s, rfl, rfl, Nat.zero_le _, rfl, by simp, Nat.le_refl _, fun hn => by rw [hst]; unfold text; rw [if_neg hn]; rfl⟩ ?_
    rintro _ _ w' ⟨i, lv', l', b', rest, rfl, rfl, hi, hdp, hbl, hll', hrest⟩
    have hb1 := flat_take_le l1 i
    by_cases hil : i < l1.length
    · have hne : l1 ≠ [] := fun h => by rw [h] at hil; simp at hil
      obtain rfl := hrest hne
      have hp := lab_le hok (List.getElem_mem hil)
      have hd := List.drop_eq_getElem_cons hil
      have hft := flat_take hil
      have hdd := dots_drop l1 i
      have hlen1 : l1[i].length + 1 ≤ (dots (l1.drop i)).length := dots_mem (List.mem_iff_getElem.2 ⟨0, by simp; omega, by simp⟩)
      focus
        refine rs_ ?_
        refine rsr ?_
        refine oy rfl (ymv rfl) ?_
        refine oy rfl (ymv rfl) ?_
        refine oy rfl (yls rfl (sl_own 0 rfl)) ?_
        refine oy rfl (ybI rfl rfl rfl) ?_
        refine on ?_
        refine pn ?_
        refine rcd rfl (fun c1 => ?_) (fun c1 => by exfalso; omega)
        refine rk ?_
        refine pn ?_
        refine rs_ ?_
        refine rb ?_
        refine rs_ ?_
        refine rsr ?_
        refine oy rfl (yas rfl) ?_
        refine on ?_
        refine pn ?_
        refine rb ?_
        rotate_left
      refine loop [13] [0, 1, 11, 9, 12] (fun vs H => ∃ k : Nat, vs = [.int .i64 k] ∧ H = [ow ES 9 v1 l1, ow EK 81 lv' l'] ∧ k ≤ l'.length ∧ ∀ j (hj : j < l'.length), j < k → dhit (dots (l1.drop i)) l'[j] = false) (fun vs => l'.length - intAt vs 0) rfl rfl (List.Sublist.refl _) ⟨0, rfl, rfl, Nat.zero_le _, fun j hj h => by omega⟩ ?_
      rintro _ _ w'' ⟨k, rfl, rfl, hk, hno⟩
      by_cases hkl : k < l'.length
      · by_cases hhit : dhit (dots (l1.drop i)) l'[k] = true
        · have hh := hhit
          simp only [dhit, decide_eq_true_eq] at hh
          obtain ⟨hh1, hh2⟩ := hh
          focus
            refine rs_ ?_
            refine rsr ?_
            refine oy rfl (ymv rfl) ?_
            refine oy rfl (ymv rfl) ?_
            refine oy rfl (yls rfl (sl_own 1 rfl)) ?_
            refine oy rfl (ybI rfl rfl rfl) ?_
            refine on ?_
            refine pn ?_
            refine rcd rfl (fun c1 => ?_) (fun c1 => by exfalso; omega)
            refine rk ?_
            refine pn ?_
            refine rs_ ?_
            refine rb ?_
            refine rsr ?_
            refine oy rfl (ymv rfl) ?_
            refine oy rfl (ymv rfl) ?_
            refine oy rfl (yix rfl rfl rfl (sl_own 1 rfl) (by omega)) ?_
            refine oy rfl (yfe rfl rfl (sl_own 1 rfl) (by omega)) ?_
            refine oy rfl (ylfN rfl rfl (sl_own 1 rfl) (by omega) rfl) ?_
            refine oy rfl (ymv rfl) ?_
            refine oy rfl (ybE rfl rfl) ?_
            refine oy rfl (ymv rfl) ?_
            refine xd (g := 43) rfl (fun c2 => ?_) (fun c2 => ?_)
            refine oyg rfl rfl rfl (ymv rfl) ?_
            refine oyg rfl rfl rfl (ymv rfl) ?_
            refine oyg rfl rfl rfl (yix rfl rfl rfl (sl_own 1 rfl) (by omega)) ?_
            refine oyg rfl rfl rfl (yfe rfl rfl (sl_own 1 rfl) (by omega)) ?_
            refine oyg rfl rfl rfl (ylfN rfl rfl (sl_own 1 rfl) (by omega) rfl) ?_
            refine oyg rfl rfl rfl (ybI rfl rfl rfl) ?_
            refine oy rfl (ypT rfl rfl) ?_
            refine on ?_
            refine pn ?_
            refine rcd rfl (fun c3 => ?_) (fun c3 => by exfalso; omega)
            refine rs_ ?_
            refine rd0 rfl ?_
            refine dt (i := 0) rfl (by decide +kernel) (List.Sublist.refl _) rfl (fun _ ha => g0 ha) (ymv rfl) ?_
            refine dt (i := 1) rfl (by decide +kernel) (List.Sublist.refl _) rfl (fun _ ha => g0 ha) (ymv rfl) ?_
            refine dt (i := 2) rfl (by decide +kernel) (List.Sublist.refl _) rfl (fun _ ha => g0 ha) (ymv rfl) ?_
            refine dt (i := 3) rfl (by decide +kernel) (List.Sublist.refl _) rfl (fun _ ha => g0 ha) (ymv rfl) ?_
            refine dt (i := 4) rfl (by decide +kernel) (List.Sublist.refl _) rfl (fun _ ha => g0 ha) (yix rfl rfl rfl (sl_own 1 rfl) (by omega)) ?_
            refine dt (i := 5) rfl (by decide +kernel) (List.Sublist.refl _) rfl (fun _ ha => g0 ha) (yfe rfl rfl (sl_own 1 rfl) (by omega)) ?_
            refine dt (i := 6) rfl (by decide +kernel) (List.Sublist.refl _) rfl (fun _ ha => g0 ha) (ylfN rfl rfl (sl_own 1 rfl) (by omega) rfl) ?_
            refine dt (i := 7) rfl (by decide +kernel) (List.Sublist.refl _) rfl (fun _ ha => g0 ha) (yquo 256 rfl rfl (by decide) (by omega)) ?_
            refine dt (i := 8) rfl (by decide +kernel) (List.Sublist.refl _) rfl (fun _ ha => g0 ha) (ybW rfl rfl rfl (by omega)) ?_
            refine dt (i := 9) rfl (by decide +kernel) (List.Sublist.refl _) rfl (fun _ ha => g0 ha) (ycU rfl) ?_
            refine dt (i := 10) rfl (by decide +kernel) (List.Sublist.refl _) rfl (fun _ ha => g0 ha) (ymv rfl) ?_
            refine dt (i := 11) rfl (by decide +kernel) (List.Sublist.refl _) rfl (fun _ ha => g0 ha) (ymv rfl) ?_
            refine dt (i := 12) rfl (by decide +kernel) (List.Sublist.refl _) rfl (fun _ ha => g0 ha) (yix rfl rfl rfl (sl_own 1 rfl) (by omega)) ?_
            refine dt (i := 13) rfl (by decide +kernel) (List.Sublist.refl _) rfl (fun _ ha => g0 ha) (yfe rfl rfl (sl_own 1 rfl) (by omega)) ?_
            refine dt (i := 14) rfl (by decide +kernel) (List.Sublist.refl _) rfl (fun _ ha => g0 ha) (ylfN rfl rfl (sl_own 1 rfl) (by omega) rfl) ?_
            refine dt (i := 15) rfl (by decide +kernel) (List.Sublist.refl _) rfl (fun _ ha => g0 ha) (yrem 256 rfl rfl (by decide)) ?_
            refine dt (i := 16) rfl (by decide +kernel) (List.Sublist.refl _) rfl (fun _ ha => g0 ha) (ycU rfl) ?_
            refine dt (i := 20) rfl (by decide +kernel) (List.Sublist.refl _) rfl (fun _ ha => g0 ha) (yas rfl) ?_
            refine d1 (i := 17) (by decide +kernel) rfl ?_
            refine wz ?_
            refine oli EB [_, _] rfl rfl rfl rfl rfl (fun g4 w4 l4 => ?_)
            refine dg (by repeat (first | exact List.nil_sublist _ | apply List.Sublist.cons_cons | apply List.Sublist.cons)) ?_
            refine d1 (i := 18) (by decide +kernel) rfl ?_
            refine wz ?_
            refine wy rfl (ycB rfl (sl_own 0 rfl)) ?_
            refine dg (by repeat (first | exact List.nil_sublist _ | apply List.Sublist.cons_cons | apply List.Sublist.cons)) ?_
            refine dt (i := 19) rfl (by decide +kernel) (by repeat (first | exact List.nil_sublist _ | apply List.Sublist.cons_cons | apply List.Sublist.cons)) rfl (fun _ ha => g0 ha) (yba rfl rfl (by (try simp only [List.length_append, List.length_take, List.length_drop, List.length_cons, List.length_nil]); omega)) ?_
            refine dt (i := 21) rfl (by decide +kernel) (by repeat (first | exact List.nil_sublist _ | apply List.Sublist.cons_cons | apply List.Sublist.cons)) rfl (fun _ ha => g0 ha) (yas rfl) ?_
            refine dt (i := 22) rfl (by decide +kernel) (by repeat (first | exact List.nil_sublist _ | apply List.Sublist.cons_cons | apply List.Sublist.cons)) rfl (fun _ ha => g0 ha) (yas rfl) ?_
            refine de (by decide +kernel) ?_
            refine pn ?_
            refine rt ?_
            refine pbr ?_
            refine pr ?_
            refine pr ?_
            refine pbr ?_
            refine pr ?_
            refine pbr ?_
            refine pr ?_
            refine pr ?_
            refine pbr ?_
            refine pr ?_
            refine ret_ rfl (fun hM => ?_)
            rotate_left
            refine ln rfl rfl rfl rfl ?_
            refine ln rfl rfl rfl rfl ?_
            refine ln rfl rfl rfl rfl ?_
            refine ln rfl rfl rfl rfl ?_
            refine ln rfl rfl rfl rfl ?_
            refine ln rfl rfl rfl rfl ?_
            refine oy rfl (ypF rfl rfl) ?_
            refine on ?_
            refine pn ?_
            refine rcF rfl ?_
            refine rk ?_
            refine pbn ?_
            refine pn ?_
            refine rr ?_
            refine oy rfl (ymv rfl) ?_
            refine oy rfl (ybW rfl rfl rfl (by omega)) ?_
            refine oy rfl (yas rfl) ?_
            refine on ?_
            refine pn ?_
            rotate_left
          · rw [hd] at hdp
            rw [dput_hit (hd ▸ dget_at hkl hno hhit)] at hdp
            refine ⟨_, hM.sub (H' := [ow EK 81 lv' l']) (List.Sublist.cons _ (List.Sublist.cons _ (List.Sublist.refl _))), lv', ?_, ?_⟩
            · rw [hdp]; rfl
            · rw [hdp]
          · exact absurd hh1 (by assumption)
        · have hh : ¬ (l'[k].1 = dots (l1.drop i) ∧ l'[k].2 < 16384) := fun h => hhit (by simpa [dhit] using h)
          have hno' : ∀ j (hj : j < l'.length), j < k + 1 → dhit (dots (l1.drop i)) l'[j] = false := fun j hj hjk => by
            rcases Nat.lt_or_ge j k with h | h
            · exact hno j hj h
            · have : j = k := by omega
              subst this; simpa using hhit
          focus
            refine rs_ ?_
            refine rsr ?_
            refine oy rfl (ymv rfl) ?_
            refine oy rfl (ymv rfl) ?_
            refine oy rfl (yls rfl (sl_own 1 rfl)) ?_
            refine oy rfl (ybI rfl rfl rfl) ?_
            refine on ?_
            refine pn ?_
            refine rcd rfl (fun c1 => ?_) (fun c1 => by exfalso; omega)
            refine rk ?_
            refine pn ?_
            refine rs_ ?_
            refine rb ?_
            refine rsr ?_
            refine oy rfl (ymv rfl) ?_
            refine oy rfl (ymv rfl) ?_
            refine oy rfl (yix rfl rfl rfl (sl_own 1 rfl) (by omega)) ?_
            refine oy rfl (yfe rfl rfl (sl_own 1 rfl) (by omega)) ?_
            refine oy rfl (ylfN rfl rfl (sl_own 1 rfl) (by omega) rfl) ?_
            refine oy rfl (ymv rfl) ?_
            refine oy rfl (ybE rfl rfl) ?_
            refine oy rfl (ymv rfl) ?_
            refine xd (g := 43) rfl (fun c2 => ?_) (fun c2 => ?_)
            refine oyg rfl rfl rfl (ymv rfl) ?_
            refine oyg rfl rfl rfl (ymv rfl) ?_
            refine oyg rfl rfl rfl (yix rfl rfl rfl (sl_own 1 rfl) (by omega)) ?_
            refine oyg rfl rfl rfl (yfe rfl rfl (sl_own 1 rfl) (by omega)) ?_
            refine oyg rfl rfl rfl (ylfN rfl rfl (sl_own 1 rfl) (by omega) rfl) ?_
            refine oyg rfl rfl rfl (ybI rfl rfl rfl) ?_
            refine oy rfl (ypT rfl rfl) ?_
            refine on ?_
            refine pn ?_
            refine rcd rfl (fun c3 => ?_) (fun c3 => ?_)
            refine rs_ ?_
            refine rd0 rfl ?_
            refine dt (i := 0) rfl (by decide +kernel) (List.Sublist.refl _) rfl (fun _ ha => g0 ha) (ymv rfl) ?_
            refine dt (i := 1) rfl (by decide +kernel) (List.Sublist.refl _) rfl (fun _ ha => g0 ha) (ymv rfl) ?_
            refine dt (i := 2) rfl (by decide +kernel) (List.Sublist.refl _) rfl (fun _ ha => g0 ha) (ymv rfl) ?_
            refine dt (i := 3) rfl (by decide +kernel) (List.Sublist.refl _) rfl (fun _ ha => g0 ha) (ymv rfl) ?_
            refine dt (i := 4) rfl (by decide +kernel) (List.Sublist.refl _) rfl (fun _ ha => g0 ha) (yix rfl rfl rfl (sl_own 1 rfl) (by omega)) ?_
            refine dt (i := 5) rfl (by decide +kernel) (List.Sublist.refl _) rfl (fun _ ha => g0 ha) (yfe rfl rfl (sl_own 1 rfl) (by omega)) ?_
            refine dt (i := 6) rfl (by decide +kernel) (List.Sublist.refl _) rfl (fun _ ha => g0 ha) (ylfN rfl rfl (sl_own 1 rfl) (by omega) rfl) ?_
            refine dt (i := 7) rfl (by decide +kernel) (List.Sublist.refl _) rfl (fun _ ha => g0 ha) (yquo 256 rfl rfl (by decide) (by omega)) ?_
            refine dt (i := 8) rfl (by decide +kernel) (List.Sublist.refl _) rfl (fun _ ha => g0 ha) (ybW rfl rfl rfl (by omega)) ?_
            refine dt (i := 9) rfl (by decide +kernel) (List.Sublist.refl _) rfl (fun _ ha => g0 ha) (ycU rfl) ?_
            refine dt (i := 10) rfl (by decide +kernel) (List.Sublist.refl _) rfl (fun _ ha => g0 ha) (ymv rfl) ?_
            refine dt (i := 11) rfl (by decide +kernel) (List.Sublist.refl _) rfl (fun _ ha => g0 ha) (ymv rfl) ?_
            refine dt (i := 12) rfl (by decide +kernel) (List.Sublist.refl _) rfl (fun _ ha => g0 ha) (yix rfl rfl rfl (sl_own 1 rfl) (by omega)) ?_
            refine dt (i := 13) rfl (by decide +kernel) (List.Sublist.refl _) rfl (fun _ ha => g0 ha) (yfe rfl rfl (sl_own 1 rfl) (by omega)) ?_
            refine dt (i := 14) rfl (by decide +kernel) (List.Sublist.refl _) rfl (fun _ ha => g0 ha) (ylfN rfl rfl (sl_own 1 rfl) (by omega) rfl) ?_
            refine dt (i := 15) rfl (by decide +kernel) (List.Sublist.refl _) rfl (fun _ ha => g0 ha) (yrem 256 rfl rfl (by decide)) ?_
            refine dt (i := 16) rfl (by decide +kernel) (List.Sublist.refl _) rfl (fun _ ha => g0 ha) (ycU rfl) ?_
            refine dt (i := 20) rfl (by decide +kernel) (List.Sublist.refl _) rfl (fun _ ha => g0 ha) (yas rfl) ?_
            refine d1 (i := 17) (by decide +kernel) rfl ?_
            refine wz ?_
            refine oli EB [_, _] rfl rfl rfl rfl rfl (fun g4 w4 l4 => ?_)
            refine dg (by repeat (first | exact List.nil_sublist _ | apply List.Sublist.cons_cons | apply List.Sublist.cons)) ?_
            refine d1 (i := 18) (by decide +kernel) rfl ?_
            refine wz ?_
            refine wy rfl (ycB rfl (sl_own 0 rfl)) ?_
            refine dg (by repeat (first | exact List.nil_sublist _ | apply List.Sublist.cons_cons | apply List.Sublist.cons)) ?_
            refine dt (i := 19) rfl (by decide +kernel) (by repeat (first | exact List.nil_sublist _ | apply List.Sublist.cons_cons | apply List.Sublist.cons)) rfl (fun _ ha => g0 ha) (yba rfl rfl (by (try simp only [List.length_append, List.length_take, List.length_drop, List.length_cons, List.length_nil]); omega)) ?_
            refine dt (i := 21) rfl (by decide +kernel) (by repeat (first | exact List.nil_sublist _ | apply List.Sublist.cons_cons | apply List.Sublist.cons)) rfl (fun _ ha => g0 ha) (yas rfl) ?_
            refine dt (i := 22) rfl (by decide +kernel) (by repeat (first | exact List.nil_sublist _ | apply List.Sublist.cons_cons | apply List.Sublist.cons)) rfl (fun _ ha => g0 ha) (yas rfl) ?_
            refine de (by decide +kernel) ?_
            refine pn ?_
            refine rt ?_
            refine pbr ?_
            refine pr ?_
            refine pr ?_
            refine pbr ?_
            refine pr ?_
            refine pbr ?_
            refine pr ?_
            refine pr ?_
            refine pbr ?_
            refine pr ?_
            refine ret_ rfl (fun hM => ?_)
            rotate_left
            refine rk ?_
            refine pbn ?_
            refine pn ?_
            refine rr ?_
            refine oy rfl (ymv rfl) ?_
            refine oy rfl (ybW rfl rfl rfl (by omega)) ?_
            refine oy rfl (yas rfl) ?_
            refine on ?_
            refine pn ?_
            rotate_left
            refine ln rfl rfl rfl rfl ?_
            refine ln rfl rfl rfl rfl ?_
            refine ln rfl rfl rfl rfl ?_
            refine ln rfl rfl rfl rfl ?_
            refine ln rfl rfl rfl rfl ?_
            refine ln rfl rfl rfl rfl ?_
            refine oy rfl (ypF rfl rfl) ?_
            refine on ?_
            refine pn ?_
            refine rcF rfl ?_
            refine rk ?_
            refine pbn ?_
            refine pn ?_
            refine rr ?_
            refine oy rfl (ymv rfl) ?_
            refine oy rfl (ybW rfl rfl rfl (by omega)) ?_
            refine oy rfl (yas rfl) ?_
            refine on ?_
            refine pn ?_
            rotate_left
          · exact absurd ⟨by assumption, by omega⟩ hh
          · exact round rfl rfl (List.Sublist.refl _) ⟨k + 1, rfl, rfl, by omega, hno'⟩ (show l'.length - (k + 1) < l'.length - k by omega)
          · exact round rfl rfl (List.Sublist.refl _) ⟨k + 1, rfl, rfl, by omega, hno'⟩ (show l'.length - (k + 1) < l'.length - k by omega)
      · focus
          refine rs_ ?_
          refine rsr ?_
          refine oy rfl (ymv rfl) ?_
          refine oy rfl (ymv rfl) ?_
          refine oy rfl (yls rfl (sl_own 1 rfl)) ?_
          refine oy rfl (ybI rfl rfl rfl) ?_
          refine on ?_
          refine pn ?_
          refine rcd rfl (fun c1 => by exfalso; omega) (fun c1 => ?_)
          refine re ?_
          refine pe ?_
          refine pe ?_
          refine pbe ?_
          refine pn ?_
          refine rsr ?_
          refine l0 ?_
          refine oli EK [] rfl rfl rfl rfl rfl (fun g7 w7 l7 => ?_)
          refine oy rfl (ymv rfl) ?_
          refine l0 ?_
          refine oap 0 rfl rfl rfl rfl rfl (sl_own 2 rfl) (by (try simp only [List.length_append, List.length_take, List.length_drop, List.length_cons, List.length_nil]); omega) rfl (fun v3 w3 => ?_)
          refine oy rfl (ymv rfl) ?_
          refine oy rfl (ymv rfl) ?_
          refine oy rfl (yln rfl) ?_
          refine oy rfl (ybd rfl rfl) ?_
          refine l0 ?_
          refine oli EK [(dots (l1.drop i), b'.length)] rfl rfl rfl rfl rfl (fun g8 w8 l8 => ?_)
          refine l0 ?_
          refine oapl 0 rfl rfl rfl rfl rfl rfl (by (try simp only [List.length_append, List.length_take, List.length_drop, List.length_cons, List.length_nil]); omega) rfl (fun v5 w5 => ?_)
          refine oy rfl (yas rfl) ?_
          refine on ?_
          refine pn ?_
          refine rs_ ?_
          refine rd [ow ES 9 v1 l1] rfl ?_
          refine dt (i := 0) rfl (by decide +kernel) (by repeat (first | exact List.nil_sublist _ | apply List.Sublist.cons_cons | apply List.Sublist.cons)) rfl (fun _ ha => g0 ha) (ymv rfl) ?_
          refine dt (i := 1) rfl (by decide +kernel) (by repeat (first | exact List.nil_sublist _ | apply List.Sublist.cons_cons | apply List.Sublist.cons)) rfl (fun _ ha => g0 ha) (ymv rfl) ?_
          refine dt (i := 2) rfl (by decide +kernel) (by repeat (first | exact List.nil_sublist _ | apply List.Sublist.cons_cons | apply List.Sublist.cons)) rfl (fun _ ha => g0 ha) (ymv rfl) ?_
          refine dt (i := 3) rfl (by decide +kernel) (by repeat (first | exact List.nil_sublist _ | apply List.Sublist.cons_cons | apply List.Sublist.cons)) rfl (fun _ ha => g0 ha) (yix rfl rfl rfl (sl_own 0 rfl) (by omega)) ?_
          refine dt (i := 4) rfl (by decide +kernel) (by repeat (first | exact List.nil_sublist _ | apply List.Sublist.cons_cons | apply List.Sublist.cons)) rfl (fun _ ha => g0 ha) (yleN rfl rfl (sl_own 0 rfl) (by omega)) ?_
          refine dt (i := 5) rfl (by decide +kernel) (by repeat (first | exact List.nil_sublist _ | apply List.Sublist.cons_cons | apply List.Sublist.cons)) rfl (fun _ ha => g0 ha) (yln rfl) ?_
          refine dt (i := 6) rfl (by decide +kernel) (by repeat (first | exact List.nil_sublist _ | apply List.Sublist.cons_cons | apply List.Sublist.cons)) rfl (fun _ ha => g0 ha) (ycU rfl) ?_
          refine dt (i := 10) rfl (by decide +kernel) (by repeat (first | exact List.nil_sublist _ | apply List.Sublist.cons_cons | apply List.Sublist.cons)) rfl (fun _ ha => g0 ha) (ymv rfl) ?_
          refine dt (i := 11) rfl (by decide +kernel) (by repeat (first | exact List.nil_sublist _ | apply List.Sublist.cons_cons | apply List.Sublist.cons)) rfl (fun _ ha => g0 ha) (ymv rfl) ?_
          refine dt (i := 12) rfl (by decide +kernel) (by repeat (first | exact List.nil_sublist _ | apply List.Sublist.cons_cons | apply List.Sublist.cons)) rfl (fun _ ha => g0 ha) (yix rfl rfl rfl (sl_own 0 rfl) (by omega)) ?_
          refine dt (i := 13) rfl (by decide +kernel) (by repeat (first | exact List.nil_sublist _ | apply List.Sublist.cons_cons | apply List.Sublist.cons)) rfl (fun _ ha => g0 ha) (yleN rfl rfl (sl_own 0 rfl) (by omega)) ?_
          refine d1 (i := 7) (by decide +kernel) rfl ?_
          refine wz ?_
          refine oli EB [_] rfl rfl rfl rfl rfl (fun g6 w6 l6 => ?_)
          refine dg (by repeat (first | exact List.nil_sublist _ | apply List.Sublist.cons_cons | apply List.Sublist.cons)) ?_
          refine d1 (i := 8) (by decide +kernel) rfl ?_
          refine wz ?_
          refine wy rfl (ycB rfl (sl_own 0 rfl)) ?_
          refine dg (by repeat (first | exact List.nil_sublist _ | apply List.Sublist.cons_cons | apply List.Sublist.cons)) ?_
          refine dt (i := 9) rfl (by decide +kernel) (by repeat (first | exact List.nil_sublist _ | apply List.Sublist.cons_cons | apply List.Sublist.cons)) rfl (fun _ ha => g0 ha) (yba rfl rfl (by (try simp only [List.length_append, List.length_take, List.length_drop, List.length_cons, List.length_nil]); omega)) ?_
          refine dt (i := 14) rfl (by decide +kernel) (by repeat (first | exact List.nil_sublist _ | apply List.Sublist.cons_cons | apply List.Sublist.cons)) rfl (fun _ ha => g0 ha) (yba rfl rfl (by (try simp only [List.length_append, List.length_take, List.length_drop, List.length_cons, List.length_nil]); omega)) ?_
          refine dt (i := 15) rfl (by decide +kernel) (by repeat (first | exact List.nil_sublist _ | apply List.Sublist.cons_cons | apply List.Sublist.cons)) rfl (fun _ ha => g0 ha) (yas rfl) ?_
          refine de (by decide +kernel) ?_
          refine pn ?_
          refine rr ?_
          refine oy rfl (ymv rfl) ?_
          refine oy rfl (ymv rfl) ?_
          refine oy rfl (ymv rfl) ?_
          refine oy rfl (yix rfl rfl rfl (sl_own 2 rfl) (by omega)) ?_
          refine oy rfl (yleN rfl rfl (sl_own 2 rfl) (by omega)) ?_
          refine oy rfl (yln rfl) ?_
          refine oy rfl (ybW rfl rfl rfl (by omega)) ?_
          refine oy rfl (ys2N rfl rfl (by omega)) ?_
          refine oy rfl (yas rfl) ?_
          refine on ?_
          refine pbn ?_
          refine pn ?_
          refine rr ?_
          refine oy rfl (ymv rfl) ?_
          refine oy rfl (ybW rfl rfl rfl (by omega)) ?_
          refine oy rfl (yas rfl) ?_
          refine on ?_
          refine pn ?_
          rotate_left
        have hdn : dget l' (dots (l1[i] :: l1.drop (i + 1))) = none := by rw [← hd]; exact dget_no fun j hj => hno j hj (by omega)
        have e2 := dput_none (b := b') hdn
        refine wperm (List.reverse_perm [_, _, _, _]) ?_
        refine round (H' := [ow ES 9 v1 l1, ow EK 81 v5 (l' ++ [(dots (l1.drop i), b'.length)])]) rfl rfl (List.Sublist.cons _ (List.Sublist.cons_cons _ (List.Sublist.cons_cons _ (List.nil_sublist _)))) ⟨i + 1, _, _, _, _, rfl, rfl, by omega, ?_, ?_, ?_, ?_⟩ (show l1.length - (i + 1) < l1.length - i by omega)
        · rw [hdp, hd, e2]; simp [enc1]
        · rw [hft]; simp only [enc1, List.length_append, List.length_cons, List.length_nil]; omega
        · simp; omega
        · intro _
          rw [hd]
          have e1 : ∀ (p : List UInt8) (r : List (List UInt8)), dots (p :: r) = p ++ 46 :: dots r := fun p r => by simp [dots]
          rw [e1, List.drop_append]
          simp
    · focus
        refine rs_ ?_
        refine rsr ?_
        refine oy rfl (ymv rfl) ?_
        refine oy rfl (ymv rfl) ?_
        refine oy rfl (yls rfl (sl_own 0 rfl)) ?_
        refine oy rfl (ybI rfl rfl rfl) ?_
        refine on ?_
        refine pn ?_
        refine rcd rfl (fun c1 => by exfalso; omega) (fun c1 => ?_)
        refine re ?_
        refine pe ?_
        refine pe ?_
        refine pbe ?_
        refine pn ?_
        refine rsr ?_
        refine oy rfl (ymv rfl) ?_
        refine oy rfl (ymv rfl) ?_
        refine oy rfl (yba rfl rfl (by (try simp only [List.length_append, List.length_take, List.length_drop, List.length_cons, List.length_nil]); omega)) ?_
        refine oy rfl (yas rfl) ?_
        refine oy rfl (yas rfl) ?_
        refine oy rfl (yas rfl) ?_
        refine on ?_
        refine pn ?_
        refine rt ?_
        refine ret_ rfl (fun hM => ?_)
        rotate_left
      have h9 : l1.drop i = [] := List.drop_eq_nil_of_le (by omega)
      rw [h9] at hdp
      refine ⟨_, hM.sub (H' := [ow EK 81 lv' l']) (List.Sublist.cons _ (List.Sublist.refl _)), lv', ?_, ?_⟩
      · rw [hdp]; rfl
      · rw [hdp]; rfl
  · rw [hl] at e1; cases e1
end Go.Proofs.YtkhlmpkodjoioaaDoor
