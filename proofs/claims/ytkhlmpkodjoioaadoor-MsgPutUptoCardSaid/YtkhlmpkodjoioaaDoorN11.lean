/- Records: the program's Check, Target, Serial. -/
import Derived.Test.YtkhlmpkodjoioaaDoorN10
set_option linter.unusedVariables false
set_option linter.unusedSimpArgs false
set_option maxRecDepth 10000
namespace Go.Proofs.YtkhlmpkodjoioaaDoor
def checkN (r : Rec) : Nat := if rightRec r then 0 else 2
theorem Check_spec (r : Rec) (w : World) (hn : r.name.length ≤ 4294967280) (hd : r.data.length ≤ 4294967280) (hz : Zw w) : Spec Tryd.prog 28 [r.val].toArray w (fun v w' => Ext [] w w' ∧ v = .int .i64 (checkN r)) := by
  refine Spec.intro Tryd.func28 rfl rfl (Nat.le_of_ble_eq_true rfl) (Mok.start w) ?_
  focus
    refine rsr ?_
    refine l0 ?_
    refine obx rfl rfl (fun g1 w1 l1 => ?_)
    refine oy rfl (yas rfl) ?_
    refine on ?_
    refine pn ?_
    refine rs_ ?_
    refine rsr ?_
    refine oy rfl (yfa rfl) ?_
    refine oy rfl (yld 0 rfl rfl rfl) ?_
    refine l0 ?_
    refine ocd rfl rfl (fun hM => isName_spec _ _ (by omega) (hM.zw hz (by simp))) (fun w2 => ?_)
    refine oy rfl (yno rfl) ?_
    refine oy rfl (ymv rfl) ?_
    refine xb (g := 7) rfl (fun c3 => ?_) (fun c3 => ?_)
    refine ln rfl rfl rfl rfl ?_
    refine ln rfl rfl rfl rfl ?_
    refine ln rfl rfl rfl rfl ?_
    refine ln rfl rfl rfl rfl ?_
    refine oy rfl (ypT rfl rfl) ?_
    refine oy rfl (ymv rfl) ?_
    refine ln rfl rfl rfl rfl ?_
    refine ln rfl rfl rfl rfl ?_
    refine ln rfl rfl rfl rfl ?_
    refine ln rfl rfl rfl rfl ?_
    refine oy rfl (ypT rfl rfl) ?_
    refine oy rfl (ymv rfl) ?_
    refine ln rfl rfl rfl rfl ?_
    refine ln rfl rfl rfl rfl ?_
    refine ln rfl rfl rfl rfl ?_
    refine ln rfl rfl rfl rfl ?_
    refine oy rfl (ypT rfl rfl) ?_
    refine oy rfl (ymv rfl) ?_
    refine ln rfl rfl rfl rfl ?_
    refine ln rfl rfl rfl rfl ?_
    refine ln rfl rfl rfl rfl ?_
    refine ln rfl rfl rfl rfl ?_
    refine ln rfl rfl rfl rfl ?_
    refine ln rfl rfl rfl rfl ?_
    refine ln rfl rfl rfl rfl ?_
    refine oy rfl (ypT rfl rfl) ?_
    refine on ?_
    refine pn ?_
    refine rcT rfl ?_
    refine rsr ?_
    refine oy rfl (yas rfl) ?_
    refine on ?_
    refine pn ?_
    refine rt ?_
    refine pr ?_
    refine ret_ rfl (fun hM => ?_)
    rotate_left
    refine oyg rfl rfl rfl (yfa rfl) ?_
    refine oyg rfl rfl rfl (yld 0 rfl rfl rfl) ?_
    refine lg rfl rfl ?_
    refine ocd rfl rfl (fun hM => within_spec _ _ _ _) (fun w4 => ?_)
    refine oyg rfl rfl rfl (yno rfl) ?_
    refine oy rfl (ypF rfl rfl) ?_
    refine oy rfl (ymv rfl) ?_
    refine xn (g := 13) rfl (fun c5 => ?_) (fun c5 => ?_)
    refine ln rfl rfl rfl rfl ?_
    refine ln rfl rfl rfl rfl ?_
    refine ln rfl rfl rfl rfl ?_
    refine ln rfl rfl rfl rfl ?_
    refine oy rfl (ypT rfl rfl) ?_
    refine oy rfl (ymv rfl) ?_
    refine ln rfl rfl rfl rfl ?_
    refine ln rfl rfl rfl rfl ?_
    refine ln rfl rfl rfl rfl ?_
    refine ln rfl rfl rfl rfl ?_
    refine oy rfl (ypT rfl rfl) ?_
    refine oy rfl (ymv rfl) ?_
    refine ln rfl rfl rfl rfl ?_
    refine ln rfl rfl rfl rfl ?_
    refine ln rfl rfl rfl rfl ?_
    refine ln rfl rfl rfl rfl ?_
    refine ln rfl rfl rfl rfl ?_
    refine ln rfl rfl rfl rfl ?_
    refine ln rfl rfl rfl rfl ?_
    refine oy rfl (ypT rfl rfl) ?_
    refine on ?_
    refine pn ?_
    refine rcT rfl ?_
    refine rsr ?_
    refine oy rfl (yas rfl) ?_
    refine on ?_
    refine pn ?_
    refine rt ?_
    refine pr ?_
    refine ret_ rfl (fun hM => ?_)
    rotate_left
    refine oyg rfl rfl rfl (yfa rfl) ?_
    refine oyg rfl rfl rfl (yld 0 rfl rfl rfl) ?_
    refine lg rfl rfl ?_
    refine ocd rfl rfl (fun hM => within_spec _ _ _ _) (fun w6 => ?_)
    refine oyg rfl rfl rfl (yno rfl) ?_
    refine oy rfl (ypF rfl rfl) ?_
    refine oy rfl (ymv rfl) ?_
    refine xn (g := 19) rfl (fun c7 => ?_) (fun c7 => ?_)
    refine ln rfl rfl rfl rfl ?_
    refine ln rfl rfl rfl rfl ?_
    refine ln rfl rfl rfl rfl ?_
    refine ln rfl rfl rfl rfl ?_
    refine oy rfl (ypT rfl rfl) ?_
    refine oy rfl (ymv rfl) ?_
    refine ln rfl rfl rfl rfl ?_
    refine ln rfl rfl rfl rfl ?_
    refine ln rfl rfl rfl rfl ?_
    refine ln rfl rfl rfl rfl ?_
    refine ln rfl rfl rfl rfl ?_
    refine ln rfl rfl rfl rfl ?_
    refine ln rfl rfl rfl rfl ?_
    refine oy rfl (ypT rfl rfl) ?_
    refine on ?_
    refine pn ?_
    refine rcT rfl ?_
    refine rsr ?_
    refine oy rfl (yas rfl) ?_
    refine on ?_
    refine pn ?_
    refine rt ?_
    refine pr ?_
    refine ret_ rfl (fun hM => ?_)
    rotate_left
    refine oyg rfl rfl rfl (yfa rfl) ?_
    refine oyg rfl rfl rfl (yld 0 rfl rfl rfl) ?_
    refine oyg rfl rfl rfl (yln rfl) ?_
    refine oyg rfl rfl rfl (ybI rfl rfl rfl) ?_
    refine oy rfl (ypF rfl rfl) ?_
    refine oy rfl (ymv rfl) ?_
    refine xd (g := 25) rfl (fun c8 => ?_) (fun c8 => ?_)
    refine ln rfl rfl rfl rfl ?_
    refine ln rfl rfl rfl rfl ?_
    refine ln rfl rfl rfl rfl ?_
    refine ln rfl rfl rfl rfl ?_
    refine ln rfl rfl rfl rfl ?_
    refine ln rfl rfl rfl rfl ?_
    refine ln rfl rfl rfl rfl ?_
    refine oy rfl (ypT rfl rfl) ?_
    refine on ?_
    refine pn ?_
    refine rcT rfl ?_
    refine rsr ?_
    refine oy rfl (yas rfl) ?_
    refine on ?_
    refine pn ?_
    refine rt ?_
    refine pr ?_
    refine ret_ rfl (fun hM => ?_)
    rotate_left
    refine oyg rfl rfl rfl (yfa rfl) ?_
    refine oyg rfl rfl rfl (yld 0 rfl rfl rfl) ?_
    refine oyg rfl rfl rfl (yfa rfl) ?_
    refine oyg rfl rfl rfl (yld 0 rfl rfl rfl) ?_
    refine lg rfl rfl ?_
    refine osb rfl rfl (by omega) (fun g9 c9 w9 l9 => ?_)
    refine lg rfl rfl ?_
    refine ocd rfl rfl (fun hM => rightData_spec _ _ _ _ (sl_sr 0 rfl _ hM) (by omega) (hM.zw hz (by simp))) (fun w10 => ?_)
    refine oyg rfl rfl rfl (yno rfl) ?_
    refine oy rfl (ypF rfl rfl) ?_
    refine on ?_
    refine pn ?_
    refine rc rfl (fun c11 => ?_) (fun c11 => ?_)
    refine rsr ?_
    refine oy rfl (yas rfl) ?_
    refine on ?_
    refine pn ?_
    refine rt ?_
    refine pr ?_
    refine ret_ rfl (fun hM => ?_)
    rotate_left
    refine rk ?_
    refine pn ?_
    refine rsr ?_
    refine oy rfl (yas rfl) ?_
    refine on ?_
    refine pn ?_
    refine rt ?_
    refine ret_ rfl (fun hM => ?_)
    rotate_left
  all_goals
    refine ⟨hM.ext, ?_⟩
    simp only [ret1, checkN]
    first
      | (rw [if_neg (by simp only [rightRec]; simp_all <;> omega)]; rfl)
      | (rw [if_pos (by simp only [rightRec]; simp_all <;> omega)]; rfl)
theorem right_plain {r : Rec} (h : rightRec r = true) (ht : r.type = 2 ∨ r.type = 5 ∨ r.type = 6) : 0 < plainN r.data := by
  simp only [rightRec, Bool.and_eq_true] at h
  have h1 := h.2
  rcases ht with ht | ht | ht <;> simp only [rightData, ht] at h1 <;> simp at h1 <;> omega
theorem right_mx2 {r : Rec} (h : rightRec r = true) (ht : r.type = 15) : 0 < plainN (r.data.drop 2) := by
  simp only [rightRec, Bool.and_eq_true] at h
  have h1 := h.2
  simp only [rightData, ht] at h1
  simp at h1
  omega
theorem target_0 {r : Rec} (h : rightRec r = true) (ht : r.type = 2 ∨ r.type = 5 ∨ r.type = 6) : (getN r.data 0).2.2 = 0 := by
  obtain ⟨l, _, _, h0, _⟩ := plain_wire (right_plain h ht)
  exact h0
theorem target_2 {r : Rec} (h : rightRec r = true) (ht : r.type = 15) : (getN r.data 2).2.2 = 0 ∧ (getN r.data 2).1 = (getN (r.data.drop 2) 0).1 := by
  obtain ⟨l, hok, h1, h0, _, h2⟩ := plain_wire (right_mx2 h ht)
  have hl := right_mx h ht
  have h3 : r.data = r.data.take 2 ++ (wireOf l ++ (r.data.drop 2).drop (plainN (r.data.drop 2))) := by rw [← h2, List.take_append_drop]
  have h4 := getN_wire hok (r.data.take 2) ((r.data.drop 2).drop (plainN (r.data.drop 2)))
  rw [← h3, List.length_take, Nat.min_eq_left (by omega)] at h4
  rw [h4, h1]
  exact ⟨rfl, rfl⟩
theorem checkN_of {r : Rec} (h : rightRec r = true) : checkN r = 0 := if_pos h
theorem checkN_no {r : Rec} (h : rightRec r = false) : checkN r = 2 := if_neg (by simp [h])
theorem Target_spec (r : Rec) (w : World) (hn : r.name.length ≤ 4294967280) (hd : r.data.length ≤ 4294967280) (hz : Zw w) : Spec Tryd.prog 30 [r.val].toArray w (fun v w' => Ext [] w w' ∧ v = wire2 (targetN r)) := by
  refine Spec.intro Tryd.func30 rfl rfl (Nat.le_of_ble_eq_true rfl) (Mok.start w) ?_
  by_cases hr : rightRec r = true
  · have hc := checkN_of hr
    focus
      refine rsr ?_
      refine l0 ?_
      refine obx rfl rfl (fun g1 w1 l1 => ?_)
      refine oy rfl (yas rfl) ?_
      refine oy rfl (yas rfl) ?_
      refine on ?_
      refine pn ?_
      refine rs_ ?_
      refine rsr ?_
      refine oy rfl (ylS 0 rfl rfl rfl) ?_
      refine l0 ?_
      refine ocd rfl rfl (fun hM => Check_spec r _ hn hd (hM.zw hz (by simp))) (fun w2 => ?_)
      refine oy rfl (yas rfl) ?_
      refine on ?_
      refine pn ?_
      refine rsr ?_
      refine oy rfl (ymv rfl) ?_
      refine oy rfl (ybI rfl rfl rfl) ?_
      refine on ?_
      refine pn ?_
      refine rcd rfl (fun c3 => by exfalso; omega) (fun c3 => ?_)
      refine rk ?_
      refine pn ?_
      refine rsr ?_
      refine oy rfl (yas rfl) ?_
      refine on ?_
      refine pn ?_
      refine rs_ ?_
      refine rsr ?_
      refine oy rfl (yfa rfl) ?_
      refine oy rfl (yld 0 rfl rfl rfl) ?_
      refine on ?_
      refine pn ?_
      refine rb ?_
      refine rsr ?_
      refine oy rfl (ybI rfl rfl rfl) ?_
      refine oy rfl (yas rfl) ?_
      refine on ?_
      refine pn ?_
      refine rcd rfl (fun c4 => ?_) (fun c4 => ?_)
      refine rr ?_
      refine oy rfl (yas rfl) ?_
      refine on ?_
      refine pbn ?_
      refine pn ?_
      refine rsr ?_
      refine oy rfl (yfa rfl) ?_
      refine oy rfl (yld 0 rfl rfl rfl) ?_
      refine l0 ?_
      refine osb rfl rfl (by omega) (fun g5 c5 w5 l5 => ?_)
      refine oy rfl (ymv rfl) ?_
      refine l0 ?_
      refine ocd rfl rfl (fun hM => Get_spec _ _ 2 _ (sl_sr 0 rfl _ hM) (by omega) (by omega)) (fun w6 => ?_)
      refine oy rfl (ymv rfl) ?_
      refine oy rfl (yex rfl rfl) ?_
      refine oy rfl (yex rfl rfl) ?_
      refine oy rfl (yex rfl rfl) ?_
      refine oy rfl (yas rfl) ?_
      refine oy rfl (yas rfl) ?_
      refine oy rfl (yas rfl) ?_
      refine on ?_
      refine pn ?_
      refine rsr ?_
      refine oy rfl (ymv rfl) ?_
      refine oy rfl (ymv rfl) ?_
      refine oy rfl (yas rfl) ?_
      refine oy rfl (yas rfl) ?_
      refine on ?_
      refine pn ?_
      refine rt ?_
      refine ret_ rfl (fun hM => ?_)
      rotate_left
      refine rs_ ?_
      refine rsr ?_
      refine oy rfl (ybI rfl rfl rfl) ?_
      refine oy rfl (yas rfl) ?_
      refine on ?_
      refine pn ?_
      refine rcd rfl (fun c7 => ?_) (fun c7 => ?_)
      refine rk ?_
      refine pn ?_
      refine rcd rfl (fun c8 => ?_) (fun c8 => by exfalso; omega)
      refine rk ?_
      refine pbn ?_
      refine pn ?_
      refine rsr ?_
      refine oy rfl (yfa rfl) ?_
      refine oy rfl (yld 0 rfl rfl rfl) ?_
      refine l0 ?_
      refine osb rfl rfl (by omega) (fun g9 c9 w9 l9 => ?_)
      refine oy rfl (ymv rfl) ?_
      refine l0 ?_
      refine ocd rfl rfl (fun hM => Get_spec _ _ 0 _ (sl_sr 0 rfl _ hM) (by omega) (by omega)) (fun w10 => ?_)
      refine oy rfl (ymv rfl) ?_
      refine oy rfl (yex rfl rfl) ?_
      refine oy rfl (yex rfl rfl) ?_
      refine oy rfl (yex rfl rfl) ?_
      refine oy rfl (yas rfl) ?_
      refine oy rfl (yas rfl) ?_
      refine oy rfl (yas rfl) ?_
      refine on ?_
      refine pn ?_
      refine rsr ?_
      refine oy rfl (ymv rfl) ?_
      refine oy rfl (ymv rfl) ?_
      refine oy rfl (yas rfl) ?_
      refine oy rfl (yas rfl) ?_
      refine on ?_
      refine pn ?_
      refine rt ?_
      refine ret_ rfl (fun hM => ?_)
      rotate_left
      refine rsr ?_
      refine oy rfl (ybI rfl rfl rfl) ?_
      refine oy rfl (yas rfl) ?_
      refine on ?_
      refine pn ?_
      refine rcd rfl (fun c11 => ?_) (fun c11 => ?_)
      refine rk ?_
      refine pn ?_
      refine rcd rfl (fun c12 => ?_) (fun c12 => by exfalso; omega)
      refine rk ?_
      refine pbn ?_
      refine pn ?_
      refine rsr ?_
      refine oy rfl (yfa rfl) ?_
      refine oy rfl (yld 0 rfl rfl rfl) ?_
      refine l0 ?_
      refine osb rfl rfl (by omega) (fun g13 c13 w13 l13 => ?_)
      refine oy rfl (ymv rfl) ?_
      refine l0 ?_
      refine ocd rfl rfl (fun hM => Get_spec _ _ 0 _ (sl_sr 0 rfl _ hM) (by omega) (by omega)) (fun w14 => ?_)
      refine oy rfl (ymv rfl) ?_
      refine oy rfl (yex rfl rfl) ?_
      refine oy rfl (yex rfl rfl) ?_
      refine oy rfl (yex rfl rfl) ?_
      refine oy rfl (yas rfl) ?_
      refine oy rfl (yas rfl) ?_
      refine oy rfl (yas rfl) ?_
      refine on ?_
      refine pn ?_
      refine rsr ?_
      refine oy rfl (ymv rfl) ?_
      refine oy rfl (ymv rfl) ?_
      refine oy rfl (yas rfl) ?_
      refine oy rfl (yas rfl) ?_
      refine on ?_
      refine pn ?_
      refine rt ?_
      refine ret_ rfl (fun hM => ?_)
      rotate_left
      refine rr ?_
      refine oy rfl (ybI rfl rfl rfl) ?_
      refine oy rfl (yas rfl) ?_
      refine on ?_
      refine pn ?_
      refine rcd rfl (fun c15 => ?_) (fun c15 => ?_)
      refine rk ?_
      refine pbn ?_
      refine pn ?_
      refine rsr ?_
      refine oy rfl (yfa rfl) ?_
      refine oy rfl (yld 0 rfl rfl rfl) ?_
      refine l0 ?_
      refine osb rfl rfl (by omega) (fun g16 c16 w16 l16 => ?_)
      refine oy rfl (ymv rfl) ?_
      refine l0 ?_
      refine ocd rfl rfl (fun hM => Get_spec _ _ 0 _ (sl_sr 0 rfl _ hM) (by omega) (by omega)) (fun w17 => ?_)
      refine oy rfl (ymv rfl) ?_
      refine oy rfl (yex rfl rfl) ?_
      refine oy rfl (yex rfl rfl) ?_
      refine oy rfl (yex rfl rfl) ?_
      refine oy rfl (yas rfl) ?_
      refine oy rfl (yas rfl) ?_
      refine oy rfl (yas rfl) ?_
      refine on ?_
      refine pn ?_
      refine rsr ?_
      refine oy rfl (ymv rfl) ?_
      refine oy rfl (ymv rfl) ?_
      refine oy rfl (yas rfl) ?_
      refine oy rfl (yas rfl) ?_
      refine on ?_
      refine pn ?_
      refine rt ?_
      refine ret_ rfl (fun hM => ?_)
      rotate_left
      refine rsr ?_
      refine oy rfl (yas rfl) ?_
      refine oy rfl (yas rfl) ?_
      refine on ?_
      refine pn ?_
      refine rt ?_
      refine pbr ?_
      refine pr ?_
      refine ret_ rfl (fun hM => ?_)
      rotate_left
    all_goals refine ⟨hM.ext, ?_⟩
    · have h2 := target_2 hr (by omega)
      simp_all [ret1, targetN, wire2]
    · have h2 := target_0 hr (by omega)
      simp_all [ret1, targetN, wire2]
    · have h2 := target_0 hr (by omega)
      simp_all [ret1, targetN, wire2]
    · have h2 := target_0 hr (by omega)
      simp_all [ret1, targetN, wire2]
    · simp_all [ret1, targetN, wire2]
      rfl
  · have hr : rightRec r = false := by simpa using hr
    have hc := checkN_no hr
    focus
      refine rsr ?_
      refine l0 ?_
      refine obx rfl rfl (fun g1 w1 l1 => ?_)
      refine oy rfl (yas rfl) ?_
      refine oy rfl (yas rfl) ?_
      refine on ?_
      refine pn ?_
      refine rs_ ?_
      refine rsr ?_
      refine oy rfl (ylS 0 rfl rfl rfl) ?_
      refine l0 ?_
      refine ocd rfl rfl (fun hM => Check_spec r _ hn hd (hM.zw hz (by simp))) (fun w2 => ?_)
      refine oy rfl (yas rfl) ?_
      refine on ?_
      refine pn ?_
      refine rsr ?_
      refine oy rfl (ymv rfl) ?_
      refine oy rfl (ybI rfl rfl rfl) ?_
      refine on ?_
      refine pn ?_
      refine rcd rfl (fun c3 => ?_) (fun c3 => by exfalso; omega)
      refine rsr ?_
      refine oy rfl (ymv rfl) ?_
      refine oy rfl (yas rfl) ?_
      refine oy rfl (yas rfl) ?_
      refine on ?_
      refine pn ?_
      refine rt ?_
      refine pr ?_
      refine ret_ rfl (fun hM => ?_)
      rotate_left
    exact ⟨hM.ext, by simp [targetN, hr, hc, ret1, wire2]; rfl⟩
theorem or_pow {a b k : Nat} (h : b < 2 ^ k) : a * 2 ^ k ||| b = a * 2 ^ k + b := by
  have := Nat.shiftLeft_add_eq_or_of_lt (i := k) (b := b) h a
  rw [Nat.shiftLeft_eq] at this
  exact this.symm
theorem or4 {a b c d : Nat} (ha : a < 256) (hb : b < 256) (hc : c < 256) (hd : d < 256) : ((a * 16777216 ||| b * 65536) ||| c * 256) ||| d = ((a * 256 + b) * 256 + c) * 256 + d := by
  have h1 : a * 16777216 ||| b * 65536 = (a * 256 + b) * 65536 := by
    rw [show a * 16777216 = a * 2 ^ 24 by omega, or_pow (by omega)]; omega
  have h2 : (a * 256 + b) * 65536 ||| c * 256 = ((a * 256 + b) * 256 + c) * 256 := by
    rw [show (a * 256 + b) * 65536 = (a * 256 + b) * 2 ^ 16 by omega, or_pow (by omega)]; omega
  rw [h1, h2, show ((a * 256 + b) * 256 + c) * 256 = ((a * 256 + b) * 256 + c) * 2 ^ 8 by omega, or_pow (by omega)]
theorem of4 {t : List UInt8} (h : 4 ≤ t.length) : ofBytes (t.take 4) = (((t.getD 0 0).toNat * 256 + (t.getD 1 0).toNat) * 256 + (t.getD 2 0).toNat) * 256 + (t.getD 3 0).toNat := by
  match t, h with
  | a :: b :: c :: d :: t, _ => simp [ofBytes]
theorem Serial_spec (r : Rec) (w : World) (hn : r.name.length ≤ 4294967280) (hd : r.data.length ≤ 4294967280) (hz : Zw w) : Spec Tryd.prog 32 [r.val].toArray w (fun v w' => Ext [] w w' ∧ v = .tuple #[.int .i64 (serial2 r).1, .int .i64 (serial2 r).2]) := by
  refine Spec.intro Tryd.func32 rfl rfl (Nat.le_of_ble_eq_true rfl) (Mok.start w) ?_
  by_cases hr : rightRec r = true
  · have hc := checkN_of hr
    have hs := right_soa hr
    by_cases ht : r.type = 6
    · have hs := hs ht
      have hb := fun i => (((r.data.drop ((r.data.length : Int) - 20).toNat).getD i 0)).toNat_lt
      have b0 := hb 0
      have b1 := hb 1
      have b2 := hb 2
      have b3 := hb 3
      have o1 := Nat.or_lt_two_pow (n := 32) (x := ((r.data.drop ((r.data.length : Int) - 20).toNat).getD 0 0).toNat * 16777216) (y := ((r.data.drop ((r.data.length : Int) - 20).toNat).getD 1 0).toNat * 65536) (by omega) (by omega)
      have o2 := Nat.or_lt_two_pow (n := 32) (y := ((r.data.drop ((r.data.length : Int) - 20).toNat).getD 2 0).toNat * 256) o1 (by omega)
      focus
        refine rsr ?_
        refine l0 ?_
        refine obx rfl rfl (fun g1 w1 l1 => ?_)
        refine oy rfl (yas rfl) ?_
        refine oy rfl (yas rfl) ?_
        refine on ?_
        refine pn ?_
        refine rs_ ?_
        refine rsr ?_
        refine oy rfl (ylS 0 rfl rfl rfl) ?_
        refine l0 ?_
        refine ocd rfl rfl (fun hM => Check_spec r _ hn hd (hM.zw hz (by simp))) (fun w2 => ?_)
        refine oy rfl (yas rfl) ?_
        refine on ?_
        refine pn ?_
        refine rsr ?_
        refine oy rfl (ymv rfl) ?_
        refine oy rfl (ybI rfl rfl rfl) ?_
        refine on ?_
        refine pn ?_
        refine rcd rfl (fun c3 => by exfalso; omega) (fun c3 => ?_)
        refine rk ?_
        refine pn ?_
        refine rs_ ?_
        refine rsr ?_
        refine oy rfl (yfa rfl) ?_
        refine oy rfl (yld 0 rfl rfl rfl) ?_
        refine oy rfl (ybI rfl rfl rfl) ?_
        refine on ?_
        refine pn ?_
        refine rcd rfl (fun c4 => by exfalso; omega) (fun c4 => ?_)
        refine rk ?_
        refine pn ?_
        refine rsr ?_
        refine oy rfl (yfa rfl) ?_
        refine oy rfl (yld 0 rfl rfl rfl) ?_
        refine oy rfl (yfa rfl) ?_
        refine oy rfl (yld 0 rfl rfl rfl) ?_
        refine oy rfl (yln rfl) ?_
        refine oy rfl (ybW rfl rfl rfl (by omega)) ?_
        refine oy rfl (ys2 rfl rfl (by omega)) ?_
        refine oy rfl (yas rfl) ?_
        refine on ?_
        refine pn ?_
        refine rs_ ?_
        refine rq rfl (by decide +kernel) ?_
        refine qy rfl (ymv rfl) ?_
        refine qy rfl (ysiN rfl rfl (by simp only [List.length_append, List.length_take, List.length_drop, List.length_cons, List.length_nil]; omega)) ?_
        refine qy rfl (ycb _ rfl) ?_
        refine qy rfl (yshl 24 16777216 rfl rfl rfl (by decide) (by omega)) ?_
        refine qy rfl (ymv rfl) ?_
        refine qy rfl (ysiN rfl rfl (by simp only [List.length_append, List.length_take, List.length_drop, List.length_cons, List.length_nil]; omega)) ?_
        refine qy rfl (ycb _ rfl) ?_
        refine qy rfl (yshl 16 65536 rfl rfl rfl (by decide) (by omega)) ?_
        refine qy rfl (yor rfl rfl (by omega) (by omega)) ?_
        refine qy rfl (ymv rfl) ?_
        refine qy rfl (ysiN rfl rfl (by simp only [List.length_append, List.length_take, List.length_drop, List.length_cons, List.length_nil]; omega)) ?_
        refine qy rfl (ycb _ rfl) ?_
        refine qy rfl (yshl 8 256 rfl rfl rfl (by decide) (by omega)) ?_
        refine qy rfl (yor rfl rfl (by omega) (by omega)) ?_
        refine qy rfl (ymv rfl) ?_
        refine qy rfl (ysiN rfl rfl (by simp only [List.length_append, List.length_take, List.length_drop, List.length_cons, List.length_nil]; omega)) ?_
        refine qy rfl (ycb _ rfl) ?_
        refine qy rfl (yor rfl rfl (by omega) (by omega)) ?_
        refine qy rfl (yas rfl) ?_
        refine qy rfl (yas rfl) ?_
        refine qend (fun w5 => ?_)
        refine pn ?_
        refine rt ?_
        refine ret_ rfl (fun hM => ?_)
        rotate_left
      refine ⟨hM.ext, ?_⟩
      have e1 : ((r.data.length : Int) - 20).toNat = r.data.length - 20 := by omega
      rw [or4 b0 b1 b2 b3, ← of4 (by rw [List.length_drop]; omega), e1]
      simp [serial2, hr, ht, ret1, serialN]
    · focus
        refine rsr ?_
        refine l0 ?_
        refine obx rfl rfl (fun g1 w1 l1 => ?_)
        refine oy rfl (yas rfl) ?_
        refine oy rfl (yas rfl) ?_
        refine on ?_
        refine pn ?_
        refine rs_ ?_
        refine rsr ?_
        refine oy rfl (ylS 0 rfl rfl rfl) ?_
        refine l0 ?_
        refine ocd rfl rfl (fun hM => Check_spec r _ hn hd (hM.zw hz (by simp))) (fun w2 => ?_)
        refine oy rfl (yas rfl) ?_
        refine on ?_
        refine pn ?_
        refine rsr ?_
        refine oy rfl (ymv rfl) ?_
        refine oy rfl (ybI rfl rfl rfl) ?_
        refine on ?_
        refine pn ?_
        refine rcd rfl (fun c3 => by exfalso; omega) (fun c3 => ?_)
        refine rk ?_
        refine pn ?_
        refine rs_ ?_
        refine rsr ?_
        refine oy rfl (yfa rfl) ?_
        refine oy rfl (yld 0 rfl rfl rfl) ?_
        refine oy rfl (ybI rfl rfl rfl) ?_
        refine on ?_
        refine pn ?_
        refine rcd rfl (fun c4 => ?_) (fun c4 => by exfalso; omega)
        refine rsr ?_
        refine oy rfl (yas rfl) ?_
        refine oy rfl (yas rfl) ?_
        refine on ?_
        refine pn ?_
        refine rt ?_
        refine pr ?_
        refine ret_ rfl (fun hM => ?_)
        rotate_left
      exact ⟨hM.ext, by simp [serial2, hr, ht, ret1]⟩
  · have hr : rightRec r = false := by simpa using hr
    have hc := checkN_no hr
    focus
      refine rsr ?_
      refine l0 ?_
      refine obx rfl rfl (fun g1 w1 l1 => ?_)
      refine oy rfl (yas rfl) ?_
      refine oy rfl (yas rfl) ?_
      refine on ?_
      refine pn ?_
      refine rs_ ?_
      refine rsr ?_
      refine oy rfl (ylS 0 rfl rfl rfl) ?_
      refine l0 ?_
      refine ocd rfl rfl (fun hM => Check_spec r _ hn hd (hM.zw hz (by simp))) (fun w2 => ?_)
      refine oy rfl (yas rfl) ?_
      refine on ?_
      refine pn ?_
      refine rsr ?_
      refine oy rfl (ymv rfl) ?_
      refine oy rfl (ybI rfl rfl rfl) ?_
      refine on ?_
      refine pn ?_
      refine rcd rfl (fun c3 => ?_) (fun c3 => by exfalso; omega)
      refine rsr ?_
      refine oy rfl (ymv rfl) ?_
      refine oy rfl (yas rfl) ?_
      refine oy rfl (yas rfl) ?_
      refine on ?_
      refine pn ?_
      refine rt ?_
      refine pr ?_
      refine ret_ rfl (fun hM => ?_)
      rotate_left
    exact ⟨hM.ext, by simp [serial2, hr, hc, ret1]⟩
end Go.Proofs.YtkhlmpkodjoioaaDoor
