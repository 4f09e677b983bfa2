/- Names and data: the program's Wire, plain, isName, rightData. -/
import Derived.Test.YtkhlmpkodjoioaaDoorN9
set_option linter.unusedVariables false
set_option linter.unusedSimpArgs false
set_option maxRecDepth 10000
namespace Go.Proofs.YtkhlmpkodjoioaaDoor
theorem Labels_call {n : Nat} {e : Env} {Q : Post} {K : Act → World → Prop} {S : List Nat} {w0 w : World} {H : List Hc} {d : Nat} {ty : TypeId} {ps : String} {af : Array Edge} {gd : Option (Nat × Bool)} {ar : Array Operand} {ts : Array TypeId} {s : List UInt8}
    (hd : Nat.ble (d + 1) n = true) (ha : evs e ar.toList = some [.string (sOf s)]) (hs : s.length ≤ 4294967280) (hz : Zw w0) (h0 : 0 ∉ S)
    (h1 : ∀ l sv w', labels s = some l → WK n K ((d, .tuple #[sv, .int .i64 0]) :: e) ⟨S, w0, ow ES 9 sv l :: H⟩ w')
    (h2 : ∀ w', labels s = none → WK n K ((d, .tuple #[.slice none 0 0, .int .i64 14]) :: e) ⟨S, w0, H⟩ w') :
    WK n (wo Tryd.prog Q ⟨some d, .call { callee := .value (.func 37), args := ar, argTypes := ts }, ty, ps, af, gd⟩ K) e ⟨S, w0, H⟩ w :=
  ocm hd ha fun hM => (Labels_spec s w hs (hM.zw hz h0)).mono fun v w' ⟨he, hr⟩ => by
    unfold labR at hr
    split at hr
    · rename_i l hl; obtain ⟨sv, rfl, ho⟩ := hr; exact ⟨_, hM.addo he ho, h1 _ _ _ hl⟩
    · rename_i hl; subst hr; exact ⟨_, hM.e0 he, h2 _ hl⟩
theorem isName_spec (s : List UInt8) (w : World) (hs : s.length ≤ 4294967280) (hz : Zw w) : Spec Tryd.prog 55 [.string (sOf s)].toArray w (fun v w' => Ext [] w w' ∧ v = .bool (rightName s)) := by
  refine Spec.intro Tryd.func55 rfl rfl (Nat.le_of_ble_eq_true rfl) (Mok.start w) ?_
  focus
    refine rsr ?_
    refine oy rfl (yas rfl) ?_
    refine on ?_
    refine pn ?_
    refine rsr ?_
    refine oy rfl (ymv rfl) ?_
    refine l0 ?_
    refine Labels_call rfl rfl (by omega) hz (by simp) (fun l1 v1 w1 e1 => ?_) (fun w1 e1 => ?_)
    refine oy rfl (ymv rfl) ?_
    refine oy rfl (yex rfl rfl) ?_
    refine oy rfl (yex rfl rfl) ?_
    refine oy rfl (yas rfl) ?_
    refine oy rfl (yas rfl) ?_
    refine on ?_
    refine pn ?_
    refine rsr ?_
    refine oy rfl (ymv rfl) ?_
    refine oy rfl (ybI rfl rfl rfl) ?_
    refine oy rfl (yas rfl) ?_
    refine on ?_
    refine pn ?_
    refine rt ?_
    refine ret_ rfl (fun hM => ?_)
    rotate_left
    refine oy rfl (ymv rfl) ?_
    refine oy rfl (yex rfl rfl) ?_
    refine oy rfl (yex rfl rfl) ?_
    refine oy rfl (yas rfl) ?_
    refine oy rfl (yas rfl) ?_
    refine on ?_
    refine pn ?_
    refine rsr ?_
    refine oy rfl (ymv rfl) ?_
    refine oy rfl (ybI rfl rfl rfl) ?_
    refine oy rfl (yas rfl) ?_
    refine on ?_
    refine pn ?_
    refine rt ?_
    refine ret_ rfl (fun hM => ?_)
    rotate_left
  · exact ⟨hM.ext, by simp [ret1, rightName, e1]⟩
  · exact ⟨hM.ext, by simp [ret1, rightName, e1]⟩
theorem Wire_spec (s : List UInt8) (w : World) (hs : s.length ≤ 4294967280) (hz : Zw w) : Spec Tryd.prog 15 [.string (sOf s)].toArray w (fun v w' => Ext [] w w' ∧ ∃ sv, v = .tuple #[sv, .int .i64 (wireN s).2] ∧ Own EB w' w.heap.size 5 sv (wireN s).1) := by
  refine Spec.intro Tryd.func15 rfl rfl (Nat.le_of_ble_eq_true rfl) (Mok.start w) ?_
  focus
    refine rsr ?_
    refine oy rfl (yas rfl) ?_
    refine oy rfl (yas rfl) ?_
    refine on ?_
    refine pn ?_
    refine rsr ?_
    refine oy rfl (ymv rfl) ?_
    refine l0 ?_
    refine Labels_call rfl rfl (by omega) hz (by simp) (fun l1 v1 w1 e1 => ?_) (fun w1 e1 => ?_)
    refine oy rfl (ymv rfl) ?_
    refine oy rfl (yex rfl rfl) ?_
    refine oy rfl (yex rfl rfl) ?_
    refine oy rfl (yas rfl) ?_
    refine oy rfl (yas rfl) ?_
    refine on ?_
    refine pn ?_
    refine rs_ ?_
    refine rsr ?_
    refine oy rfl (ymv rfl) ?_
    refine oy rfl (ybI rfl rfl rfl) ?_
    refine on ?_
    refine pn ?_
    refine rcF rfl ?_
    refine rk ?_
    refine pn ?_
    refine rsr ?_
    refine oy rfl (yas rfl) ?_
    refine on ?_
    refine pn ?_
    refine rs_ ?_
    refine rsr ?_
    refine oy rfl (ymv rfl) ?_
    refine oy rfl (yls rfl (sl_own 0 rfl)) ?_
    refine oy rfl (ymv rfl) ?_
    refine on ?_
    refine pn ?_
    refine rb ?_
    rotate_left
    refine oy rfl (ymv rfl) ?_
    refine oy rfl (yex rfl rfl) ?_
    refine oy rfl (yex rfl rfl) ?_
    refine oy rfl (yas rfl) ?_
    refine oy rfl (yas rfl) ?_
    refine on ?_
    refine pn ?_
    refine rs_ ?_
    refine rsr ?_
    refine oy rfl (ymv rfl) ?_
    refine oy rfl (ybI rfl rfl rfl) ?_
    refine on ?_
    refine pn ?_
    refine rcT rfl ?_
    refine rsr ?_
    refine oy rfl (ymv rfl) ?_
    refine oy rfl (yas rfl) ?_
    refine oy rfl (yas rfl) ?_
    refine on ?_
    refine pn ?_
    refine rt ?_
    refine pr ?_
    refine ret_ rfl (fun hM => ?_)
    rotate_left
  · obtain ⟨-, hok⟩ := labels_iff.1 e1
    refine onil EB 5 ?_
    refine loop [6, 19] [17, 18] (fun vs H => ∃ (i : Nat) (bv : Value), vs = [bv, .int .i64 i] ∧ H = [ow EB 5 bv ((l1.take i).flatMap enc1), ow ES 9 v1 l1] ∧ i ≤ l1.length) (fun vs => l1.length - intAt vs 1) rfl rfl (List.Sublist.refl _) ⟨0, _, rfl, rfl, Nat.zero_le _⟩ ?_
    rintro _ _ w' ⟨i, bv, rfl, rfl, hi⟩
    have hb := flat_take_le l1 i
    have hb2 := hok.2
    have hl2 : l1.length ≤ (dots l1).length := by rw [dots_len]; omega
    by_cases hil : i < l1.length
    · have hp := lab_le hok (List.getElem_mem hil)
      focus
        refine rsr ?_
        refine oy rfl (ybI rfl rfl rfl) ?_
        refine on ?_
        refine pn ?_
        refine rs_ ?_
        refine rcd rfl (fun c1 => ?_) (fun c1 => by exfalso; omega)
        refine rk ?_
        refine pn ?_
        refine rs_ ?_
        refine rb ?_
        refine rsr ?_
        refine oy rfl (yix rfl rfl rfl (sl_own 1 rfl) (by omega)) ?_
        refine oy rfl (yleN rfl rfl (sl_own 1 rfl) (by omega)) ?_
        refine oy rfl (yas rfl) ?_
        refine on ?_
        refine pn ?_
        refine rr ?_
        refine oy rfl (ymv rfl) ?_
        refine oy rfl (ymv rfl) ?_
        refine oy rfl (yln rfl) ?_
        refine oy rfl (ycU rfl) ?_
        refine l0 ?_
        refine oli EB [_] rfl rfl rfl rfl rfl (fun g2 w2 l2 => ?_)
        refine l0 ?_
        refine oapl 0 rfl rfl rfl rfl rfl rfl (by simp only [List.length_append, List.length_take, List.length_drop, List.length_cons, List.length_nil]; omega) rfl (fun v3 w3 => ?_)
        refine oy rfl (ymv rfl) ?_
        refine l0 ?_
        refine oas 0 rfl rfl rfl rfl rfl (by simp only [List.length_append, List.length_take, List.length_drop, List.length_cons, List.length_nil]; omega) rfl (fun v4 w4 => ?_)
        refine oy rfl (yas rfl) ?_
        refine on ?_
        refine pbn ?_
        refine pn ?_
        refine rr ?_
        refine oy rfl (ybW rfl rfl rfl (by omega)) ?_
        refine oy rfl (ymv rfl) ?_
        refine on ?_
        refine pn ?_
        rotate_left
      refine round rfl rfl (List.Sublist.refl _) ⟨i + 1, _, rfl, ?_, by omega⟩ (show l1.length - (i + 1) < l1.length - i by omega)
      rw [flat_take hil]
      simp [enc1]
    · focus
        refine rsr ?_
        refine oy rfl (ybI rfl rfl rfl) ?_
        refine on ?_
        refine pn ?_
        refine rs_ ?_
        refine rcd rfl (fun c1 => by exfalso; omega) (fun c1 => ?_)
        refine re ?_
        refine pe ?_
        refine pe ?_
        refine pbe ?_
        refine pn ?_
        refine rsr ?_
        refine oy rfl (ymv rfl) ?_
        refine l0 ?_
        refine oli EB [0] rfl rfl rfl rfl rfl (fun g2 w2 l2 => ?_)
        refine l0 ?_
        refine oapl 0 rfl rfl rfl rfl rfl rfl (by simp only [List.length_append, List.length_take, List.length_drop, List.length_cons, List.length_nil]; omega) rfl (fun v3 w3 => ?_)
        refine oy rfl (yas rfl) ?_
        refine oy rfl (yas rfl) ?_
        refine on ?_
        refine pn ?_
        refine rt ?_
        refine ret_ rfl (fun hM => ?_)
        rotate_left
      have h0 : i = l1.length := by omega
      subst h0
      refine ⟨hM.ext, _, by simp only [ret1, wireN, e1]; rfl, ?_⟩
      have := hM.owned 0 rfl
      simpa [wireN, e1, wireOf] using this
  · exact ⟨hM.ext, .slice none 0 0, by simp [wireN, e1, ret1], by simpa [wireN, e1] using Own.nil ..⟩
theorem Wire_call {n : Nat} {e : Env} {Q : Post} {K : Act → World → Prop} {S : List Nat} {w0 w : World} {H : List Hc} {d : Nat} {ty : TypeId} {ps : String} {af : Array Edge} {gd : Option (Nat × Bool)} {ar : Array Operand} {ts : Array TypeId} {s : List UInt8}
    (hd : Nat.ble (d + 1) n = true) (ha : evs e ar.toList = some [.string (sOf s)]) (hs : s.length ≤ 4294967280) (hz : Zw w0) (h0 : 0 ∉ S)
    (h1 : ∀ sv w', WK n K ((d, .tuple #[sv, .int .i64 (wireN s).2]) :: e) ⟨S, w0, ow EB 5 sv (wireN s).1 :: H⟩ w') :
    WK n (wo Tryd.prog Q ⟨some d, .call { callee := .value (.func 15), args := ar, argTypes := ts }, ty, ps, af, gd⟩ K) e ⟨S, w0, H⟩ w :=
  ocm hd ha fun hM => (Wire_spec s w hs (hM.zw hz h0)).mono fun v w' ⟨he, sv, hr, ho⟩ => by
    subst hr; exact ⟨_, hM.addo he ho, h1 _ _⟩
theorem wireN_len (s : List UInt8) : (wireN s).1.length ≤ 255 := by
  unfold wireN
  split
  · rename_i l hl
    have := (labels_iff.1 hl).2.2
    unfold wireOf
    rw [List.length_append, enc_len]
    simp; omega
  · simp
theorem sub_take {M : Mem} {v : Value} {b : List UInt8} {h : Nat} (hs : ∀ w, Mok M w → Sl EB w v b) (hh : h ≤ b.length) : ∀ w, Mok M w → Sl EB w (subS 1 v 0 h) (b.take h) := fun w hM => subS_sl (hs w hM) (Nat.zero_le _) hh
theorem plain_spec (v : Value) (b : List UInt8) (w : World) (hv : Sl EB w v b) (hb : b.length ≤ 4294967296) (hz : Zw w) : Spec Tryd.prog 82 [v].toArray w (fun v w' => Ext [] w w' ∧ v = .int .i64 (plainN b)) := by
  refine Spec.intro Tryd.func82 rfl rfl (Nat.le_of_ble_eq_true rfl) (Mok.start w) ?_
  have h1 := getN_end b 0
  have h2 := getN_short b 0
  have h3 := wireN_len (getN b 0).1
  focus
    refine rsr ?_
    refine oy rfl (yas rfl) ?_
    refine on ?_
    refine pn ?_
    refine rsr ?_
    refine oy rfl (ymv rfl) ?_
    refine l0 ?_
    refine ocd rfl rfl (fun hM => Get_spec _ _ 0 _ (sl_arg hv rfl _ hM) hb (by omega)) (fun w1 => ?_)
    refine oy rfl (ymv rfl) ?_
    refine oy rfl (yex rfl rfl) ?_
    refine oy rfl (yex rfl rfl) ?_
    refine oy rfl (yex rfl rfl) ?_
    refine oy rfl (yas rfl) ?_
    refine oy rfl (yas rfl) ?_
    refine oy rfl (yas rfl) ?_
    refine on ?_
    refine pn ?_
    refine rs_ ?_
    refine rsr ?_
    refine oy rfl (ymv rfl) ?_
    refine oy rfl (ybI rfl rfl rfl) ?_
    refine on ?_
    refine pn ?_
    refine rcd rfl (fun c2 => ?_) (fun c2 => ?_)
    refine rsr ?_
    refine oy rfl (yas rfl) ?_
    refine on ?_
    refine pn ?_
    refine rt ?_
    refine pr ?_
    refine ret_ rfl (fun hM => ?_)
    rotate_left
    refine rk ?_
    refine pn ?_
    refine rsr ?_
    refine oy rfl (ymv rfl) ?_
    refine l0 ?_
    refine Wire_call rfl rfl (by omega) hz (by simp) (fun v1 w1 => ?_)
    refine oy rfl (ymv rfl) ?_
    refine oy rfl (yex rfl rfl) ?_
    refine oy rfl (yex rfl rfl) ?_
    refine oy rfl (yas rfl) ?_
    refine oy rfl (yas rfl) ?_
    refine on ?_
    refine pn ?_
    refine rs_ ?_
    refine rs_ ?_
    refine rq rfl (by decide +kernel) ?_
    refine qy rfl (ymv rfl) ?_
    refine qy rfl (ybI rfl rfl rfl) ?_
    refine qy rfl (ymv rfl) ?_
    refine qxd (g := 22) rfl (fun c4 => ?_) (fun c4 => ?_)
    refine qn rfl rfl rfl rfl ?_
    refine qn rfl rfl rfl rfl ?_
    refine qn rfl rfl rfl rfl ?_
    refine qn rfl rfl rfl rfl ?_
    refine qy rfl (ypT rfl rfl) ?_
    refine qy rfl (ymv rfl) ?_
    refine qn rfl rfl rfl rfl ?_
    refine qn rfl rfl rfl rfl ?_
    refine qn rfl rfl rfl rfl ?_
    refine qn rfl rfl rfl rfl ?_
    refine qn rfl rfl rfl rfl ?_
    refine qn rfl rfl rfl rfl ?_
    refine qn rfl rfl rfl rfl ?_
    refine qy rfl (ypT rfl rfl) ?_
    refine qend (fun w5 => ?_)
    refine pn ?_
    refine rcT rfl ?_
    refine rsr ?_
    refine oy rfl (yas rfl) ?_
    refine on ?_
    refine pn ?_
    refine rt ?_
    refine pr ?_
    refine ret_ rfl (fun hM => ?_)
    rotate_left
    refine qyg rfl rfl rfl (ymv rfl) ?_
    refine qyg rfl rfl rfl (ymv rfl) ?_
    refine qyg rfl rfl rfl (yls rfl (sl_own 0 rfl)) ?_
    refine qyg rfl rfl rfl (ybI rfl rfl rfl) ?_
    refine qy rfl (ypF rfl rfl) ?_
    refine qy rfl (ymv rfl) ?_
    refine qxd (g := 28) rfl (fun c6 => ?_) (fun c6 => ?_)
    refine qn rfl rfl rfl rfl ?_
    refine qn rfl rfl rfl rfl ?_
    refine qn rfl rfl rfl rfl ?_
    refine qn rfl rfl rfl rfl ?_
    refine qn rfl rfl rfl rfl ?_
    refine qn rfl rfl rfl rfl ?_
    refine qn rfl rfl rfl rfl ?_
    refine qy rfl (ypT rfl rfl) ?_
    refine qend (fun w7 => ?_)
    refine pn ?_
    refine rcT rfl ?_
    refine rsr ?_
    refine oy rfl (yas rfl) ?_
    refine on ?_
    refine pn ?_
    refine rt ?_
    refine pr ?_
    refine ret_ rfl (fun hM => ?_)
    rotate_left
    refine qyg rfl rfl rfl (ymv rfl) ?_
    refine qyg rfl rfl rfl (ymv rfl) ?_
    refine qyg rfl rfl rfl (yp2 rfl rfl rfl (sl_arg hv rfl) (by omega)) ?_
    refine qyg rfl rfl rfl (ycB rfl (sub_take (sl_arg hv rfl) h1)) ?_
    refine qyg rfl rfl rfl (ymv rfl) ?_
    refine qyg rfl rfl rfl (ycB rfl (sl_own 0 rfl)) ?_
    refine qyg rfl rfl rfl (ybN rfl rfl) ?_
    refine qy rfl (ypF rfl rfl) ?_
    refine qend (fun w8 => ?_)
    refine pn ?_
    refine rcd rfl (fun c9 => ?_) (fun c9 => ?_)
    refine rsr ?_
    refine oy rfl (yas rfl) ?_
    refine on ?_
    refine pn ?_
    refine rt ?_
    refine pr ?_
    refine ret_ rfl (fun hM => ?_)
    rotate_left
    refine rk ?_
    refine pn ?_
    refine rsr ?_
    refine oy rfl (ymv rfl) ?_
    refine oy rfl (yas rfl) ?_
    refine on ?_
    refine pn ?_
    refine rt ?_
    refine ret_ rfl (fun hM => ?_)
    rotate_left
  all_goals refine ⟨hM.ext, ?_⟩
  all_goals unfold plainN
  · rw [if_neg (by rintro ⟨a, b, c, d⟩; omega)]; rfl
  · rw [if_neg (by rintro ⟨a, b, c, d⟩; omega)]; rfl
  · rw [if_neg (by rintro ⟨a, b, c, d⟩; omega)]; rfl
  · rw [if_neg (by rintro ⟨a, b, c, d⟩; exact absurd d (by assumption))]; rfl
  · rw [if_pos ⟨by omega, by omega, by omega, Decidable.not_not.1 (by assumption)⟩]; rfl
theorem rightData_spec (k : Int) (v : Value) (b : List UInt8) (w : World) (hv : Sl EB w v b) (hb : b.length ≤ 4294967296) (hz : Zw w) : Spec Tryd.prog 57 [.int .i64 k, v].toArray w (fun v w' => Ext [] w w' ∧ v = .bool (rightData k b)) := by
  refine Spec.intro Tryd.func57 rfl rfl (Nat.le_of_ble_eq_true rfl) (Mok.start w) ?_
  have h1 := plainN_le b
  have h2 := plainN_le (b.drop 2)
  have h3 := plainN_le (b.drop (plainN b))
  simp only [List.length_drop] at h2 h3
  focus
    refine rsr ?_
    refine oy rfl (yas rfl) ?_
    refine on ?_
    refine pn ?_
    refine rs_ ?_
    refine rsr ?_
    refine oy rfl (ymv rfl) ?_
    refine on ?_
    refine pn ?_
    refine rb ?_
    refine rsr ?_
    refine oy rfl (ybI rfl rfl rfl) ?_
    refine oy rfl (yas rfl) ?_
    refine on ?_
    refine pn ?_
    refine rcd rfl (fun c1 => ?_) (fun c1 => ?_)
    refine rsr ?_
    refine oy rfl (ymv rfl) ?_
    refine oy rfl (yls rfl (sl_arg hv rfl)) ?_
    refine oy rfl (ybI rfl rfl rfl) ?_
    refine oy rfl (yas rfl) ?_
    refine on ?_
    refine pn ?_
    refine rt ?_
    refine pbr ?_
    refine pr ?_
    refine ret_ rfl (fun hM => ?_)
    rotate_left
    refine rsr ?_
    refine oy rfl (ybI rfl rfl rfl) ?_
    refine oy rfl (yas rfl) ?_
    refine on ?_
    refine pn ?_
    refine rcd rfl (fun c2 => ?_) (fun c2 => ?_)
    refine rsr ?_
    refine oy rfl (ymv rfl) ?_
    refine oy rfl (yls rfl (sl_arg hv rfl)) ?_
    refine oy rfl (ybI rfl rfl rfl) ?_
    refine oy rfl (yas rfl) ?_
    refine on ?_
    refine pn ?_
    refine rt ?_
    refine pbr ?_
    refine pr ?_
    refine ret_ rfl (fun hM => ?_)
    rotate_left
    refine rs_ ?_
    refine rsr ?_
    refine oy rfl (ybI rfl rfl rfl) ?_
    refine oy rfl (yas rfl) ?_
    refine on ?_
    refine pn ?_
    refine rcd rfl (fun c3 => ?_) (fun c3 => ?_)
    refine rk ?_
    refine pn ?_
    refine rcd rfl (fun c4 => ?_) (fun c4 => by exfalso; omega)
    refine rsr ?_
    refine oy rfl (ymv rfl) ?_
    refine oy rfl (yls rfl (sl_arg hv rfl)) ?_
    refine oy rfl (ybI rfl rfl rfl) ?_
    refine oy rfl (ymv rfl) ?_
    refine xd (g := 25) rfl (fun c5 => ?_) (fun c5 => ?_)
    refine oyg rfl rfl rfl (ymv rfl) ?_
    refine lg rfl rfl ?_
    refine ocd rfl rfl (fun hM => plain_spec _ _ _ (sl_arg hv rfl _ hM) hb (hM.zw hz (by simp))) (fun w6 => ?_)
    refine oyg rfl rfl rfl (ymv rfl) ?_
    refine oyg rfl rfl rfl (yls rfl (sl_arg hv rfl)) ?_
    refine oyg rfl rfl rfl (ybI rfl rfl rfl) ?_
    refine oy rfl (ypT rfl rfl) ?_
    refine oy rfl (yas rfl) ?_
    refine on ?_
    refine pn ?_
    refine rt ?_
    refine pbr ?_
    refine pr ?_
    refine ret_ rfl (fun hM => ?_)
    rotate_left
    refine ln rfl rfl rfl rfl ?_
    refine ln rfl rfl rfl rfl ?_
    refine ln rfl rfl rfl rfl ?_
    refine ln rfl rfl rfl rfl ?_
    refine ln rfl rfl rfl rfl ?_
    refine oy rfl (ypF rfl rfl) ?_
    refine oy rfl (yas rfl) ?_
    refine on ?_
    refine pn ?_
    refine rt ?_
    refine pbr ?_
    refine pr ?_
    refine ret_ rfl (fun hM => ?_)
    rotate_left
    refine rr ?_
    refine oy rfl (ybI rfl rfl rfl) ?_
    refine oy rfl (yas rfl) ?_
    refine on ?_
    refine pn ?_
    refine rcd rfl (fun c7 => ?_) (fun c7 => ?_)
    refine rsr ?_
    refine oy rfl (ymv rfl) ?_
    refine oy rfl (yls rfl (sl_arg hv rfl)) ?_
    refine oy rfl (ybI rfl rfl rfl) ?_
    refine oy rfl (ymv rfl) ?_
    refine xd (g := 25) rfl (fun c8 => ?_) (fun c8 => ?_)
    refine oyg rfl rfl rfl (ymv rfl) ?_
    refine lg rfl rfl ?_
    refine ocd rfl rfl (fun hM => plain_spec _ _ _ (sl_arg hv rfl _ hM) hb (hM.zw hz (by simp))) (fun w9 => ?_)
    refine oyg rfl rfl rfl (ymv rfl) ?_
    refine oyg rfl rfl rfl (yls rfl (sl_arg hv rfl)) ?_
    refine oyg rfl rfl rfl (ybI rfl rfl rfl) ?_
    refine oy rfl (ypT rfl rfl) ?_
    refine oy rfl (yas rfl) ?_
    refine on ?_
    refine pn ?_
    refine rt ?_
    refine pbr ?_
    refine pr ?_
    refine ret_ rfl (fun hM => ?_)
    rotate_left
    refine ln rfl rfl rfl rfl ?_
    refine ln rfl rfl rfl rfl ?_
    refine ln rfl rfl rfl rfl ?_
    refine ln rfl rfl rfl rfl ?_
    refine ln rfl rfl rfl rfl ?_
    refine oy rfl (ypF rfl rfl) ?_
    refine oy rfl (yas rfl) ?_
    refine on ?_
    refine pn ?_
    refine rt ?_
    refine pbr ?_
    refine pr ?_
    refine ret_ rfl (fun hM => ?_)
    rotate_left
    refine rsr ?_
    refine oy rfl (ybI rfl rfl rfl) ?_
    refine oy rfl (yas rfl) ?_
    refine on ?_
    refine pn ?_
    refine rcd rfl (fun c10 => ?_) (fun c10 => ?_)
    refine rsr ?_
    refine oy rfl (ymv rfl) ?_
    refine oy rfl (yls rfl (sl_arg hv rfl)) ?_
    refine oy rfl (ybI rfl rfl rfl) ?_
    refine oy rfl (ymv rfl) ?_
    refine xd (g := 37) rfl (fun c11 => ?_) (fun c11 => ?_)
    refine oyg rfl rfl rfl (ymv rfl) ?_
    refine oyg rfl rfl rfl (yp1 rfl rfl rfl (sl_arg hv rfl) (by omega)) ?_
    refine lg rfl rfl ?_
    refine ocd rfl rfl (fun hM => plain_spec _ _ _ (sub_tail (sl_arg hv rfl) (by omega) _ hM) (by simp only [List.length_drop]; omega) (hM.zw hz (by simp))) (fun w12 => ?_)
    refine oyg rfl rfl rfl (ymv rfl) ?_
    refine oyg rfl rfl rfl (yls rfl (sl_arg hv rfl)) ?_
    refine oyg rfl rfl rfl (ybW rfl rfl rfl (by omega)) ?_
    refine oyg rfl rfl rfl (ybI rfl rfl rfl) ?_
    refine oy rfl (ypT rfl rfl) ?_
    refine oy rfl (yas rfl) ?_
    refine on ?_
    refine pn ?_
    refine rt ?_
    refine pbr ?_
    refine pr ?_
    refine ret_ rfl (fun hM => ?_)
    rotate_left
    refine ln rfl rfl rfl rfl ?_
    refine ln rfl rfl rfl rfl ?_
    refine ln rfl rfl rfl rfl ?_
    refine ln rfl rfl rfl rfl ?_
    refine ln rfl rfl rfl rfl ?_
    refine ln rfl rfl rfl rfl ?_
    refine ln rfl rfl rfl rfl ?_
    refine oy rfl (ypF rfl rfl) ?_
    refine oy rfl (yas rfl) ?_
    refine on ?_
    refine pn ?_
    refine rt ?_
    refine pbr ?_
    refine pr ?_
    refine ret_ rfl (fun hM => ?_)
    rotate_left
    refine rsr ?_
    refine oy rfl (ybI rfl rfl rfl) ?_
    refine oy rfl (yas rfl) ?_
    refine on ?_
    refine pn ?_
    refine rcd rfl (fun c13 => ?_) (fun c13 => ?_)
    refine rsr ?_
    refine oy rfl (ymv rfl) ?_
    refine l0 ?_
    refine ocd rfl rfl (fun hM => plain_spec _ _ _ (sl_arg hv rfl _ hM) hb (hM.zw hz (by simp))) (fun w14 => ?_)
    refine oy rfl (yas rfl) ?_
    refine on ?_
    refine pn ?_
    refine rs_ ?_
    refine rsr ?_
    refine oy rfl (ymv rfl) ?_
    refine oy rfl (ybI rfl rfl rfl) ?_
    refine on ?_
    refine pn ?_
    refine rcd rfl (fun c15 => ?_) (fun c15 => ?_)
    refine rsr ?_
    refine oy rfl (yas rfl) ?_
    refine on ?_
    refine pn ?_
    refine rt ?_
    refine pr ?_
    refine pbr ?_
    refine pr ?_
    refine ret_ rfl (fun hM => ?_)
    rotate_left
    refine rk ?_
    refine pn ?_
    refine rsr ?_
    refine oy rfl (ymv rfl) ?_
    refine oy rfl (ymv rfl) ?_
    refine oy rfl (yp1 rfl rfl rfl (sl_arg hv rfl) (by omega)) ?_
    refine l0 ?_
    refine ocd rfl rfl (fun hM => plain_spec _ _ _ (sub_tail (sl_arg hv rfl) (by omega) _ hM) (by simp only [List.length_drop]; omega) (hM.zw hz (by simp))) (fun w16 => ?_)
    refine oy rfl (yas rfl) ?_
    refine on ?_
    refine pn ?_
    refine rsr ?_
    refine oy rfl (ymv rfl) ?_
    refine oy rfl (ybI rfl rfl rfl) ?_
    refine oy rfl (ymv rfl) ?_
    refine xd (g := 58) rfl (fun c17 => ?_) (fun c17 => ?_)
    refine oyg rfl rfl rfl (ymv rfl) ?_
    refine oyg rfl rfl rfl (yls rfl (sl_arg hv rfl)) ?_
    refine oyg rfl rfl rfl (ymv rfl) ?_
    refine oyg rfl rfl rfl (ymv rfl) ?_
    refine oyg rfl rfl rfl (ybW rfl rfl rfl (by omega)) ?_
    refine oyg rfl rfl rfl (ybW rfl rfl rfl (by omega)) ?_
    refine oyg rfl rfl rfl (ybI rfl rfl rfl) ?_
    refine oy rfl (ypT rfl rfl) ?_
    refine oy rfl (yas rfl) ?_
    refine on ?_
    refine pn ?_
    refine rt ?_
    refine pbr ?_
    refine pr ?_
    refine ret_ rfl (fun hM => ?_)
    rotate_left
    refine ln rfl rfl rfl rfl ?_
    refine ln rfl rfl rfl rfl ?_
    refine ln rfl rfl rfl rfl ?_
    refine ln rfl rfl rfl rfl ?_
    refine ln rfl rfl rfl rfl ?_
    refine ln rfl rfl rfl rfl ?_
    refine ln rfl rfl rfl rfl ?_
    refine oy rfl (ypF rfl rfl) ?_
    refine oy rfl (yas rfl) ?_
    refine on ?_
    refine pn ?_
    refine rt ?_
    refine pbr ?_
    refine pr ?_
    refine ret_ rfl (fun hM => ?_)
    rotate_left
    refine rsr ?_
    refine oy rfl (ybI rfl rfl rfl) ?_
    refine oy rfl (yas rfl) ?_
    refine on ?_
    refine pn ?_
    refine rcd rfl (fun c18 => ?_) (fun c18 => ?_)
    refine rsr ?_
    refine oy rfl (yas rfl) ?_
    refine on ?_
    refine pn ?_
    refine rs_ ?_
    refine rb ?_
    rotate_left
    refine rk ?_
    refine pbn ?_
    refine pn ?_
    refine rsr ?_
    refine oy rfl (yas rfl) ?_
    refine on ?_
    refine pn ?_
    refine rt ?_
    refine ret_ rfl (fun hM => ?_)
    rotate_left
  all_goals first
    | (refine ⟨hM.ext, ?_⟩
       simp only [ret1, Value.bool.injEq, rightData]
       rw [Bool.eq_iff_iff]
       simp_all
       try omega)
    | skip
  refine loop [7] [1] (fun vs H => ∃ i : Nat, vs = [.int .i64 i] ∧ H = [] ∧ i ≤ b.length + 256 ∧ txtEnd b 0 = txtEnd b i) (fun vs => b.length + 256 - intAt vs 0) rfl rfl (List.nil_sublist _) ⟨0, rfl, rfl, by omega, rfl⟩ ?_
  rintro _ _ w' ⟨i, rfl, rfl, hi, hti⟩
  by_cases hil : i < b.length
  · have hc2 := b[i].toNat_lt
    focus
      refine rs_ ?_
      refine rsr ?_
      refine oy rfl (ymv rfl) ?_
      refine oy rfl (ymv rfl) ?_
      refine oy rfl (yls rfl (sl_arg hv rfl)) ?_
      refine oy rfl (ybI rfl rfl rfl) ?_
      refine on ?_
      refine pn ?_
      refine rcd rfl (fun c1 => ?_) (fun c1 => by exfalso; omega)
      refine rk ?_
      refine pn ?_
      refine rb ?_
      refine rr ?_
      refine oy rfl (ymv rfl) ?_
      refine oy rfl (ymv rfl) ?_
      refine oy rfl (ymv rfl) ?_
      refine oy rfl (yix rfl rfl rfl (sl_arg hv rfl) (by omega)) ?_
      refine oy rfl (yleN rfl rfl (sl_arg hv rfl) (by omega)) ?_
      refine oy rfl (ycb _ rfl) ?_
      refine oy rfl (ybW rfl rfl rfl (by omega)) ?_
      refine oy rfl (ybW rfl rfl rfl (by omega)) ?_
      refine oy rfl (yas rfl) ?_
      refine on ?_
      refine pbn ?_
      refine pn ?_
      rotate_left
    refine round (vs := [.int .i64 ((i : Int) + (1 + (b[i].toNat : Int)))]) rfl rfl (List.nil_sublist _) ⟨i + (1 + b[i].toNat), by simp, rfl, by omega, ?_⟩ (by simp [intAt]; omega)
    rw [hti, txtEnd, dif_pos hil, getD_get hil, Nat.add_assoc]
  · focus
      refine rs_ ?_
      refine rsr ?_
      refine oy rfl (ymv rfl) ?_
      refine oy rfl (ymv rfl) ?_
      refine oy rfl (yls rfl (sl_arg hv rfl)) ?_
      refine oy rfl (ybI rfl rfl rfl) ?_
      refine on ?_
      refine pn ?_
      refine rcd rfl (fun c1 => by exfalso; omega) (fun c1 => ?_)
      refine re ?_
      refine pe ?_
      refine pe ?_
      refine pbe ?_
      refine pn ?_
      refine rsr ?_
      refine oy rfl (ymv rfl) ?_
      refine oy rfl (ybI rfl rfl rfl) ?_
      refine oy rfl (ymv rfl) ?_
      refine xd (g := 83) rfl (fun c2 => ?_) (fun c2 => ?_)
      refine oyg rfl rfl rfl (ymv rfl) ?_
      refine oyg rfl rfl rfl (ymv rfl) ?_
      refine oyg rfl rfl rfl (yls rfl (sl_arg hv rfl)) ?_
      refine oyg rfl rfl rfl (ybI rfl rfl rfl) ?_
      refine oy rfl (ypT rfl rfl) ?_
      refine oy rfl (yas rfl) ?_
      refine on ?_
      refine pn ?_
      refine rt ?_
      refine pbr ?_
      refine pr ?_
      refine ret_ rfl (fun hM => ?_)
      rotate_left
      refine ln rfl rfl rfl rfl ?_
      refine ln rfl rfl rfl rfl ?_
      refine ln rfl rfl rfl rfl ?_
      refine ln rfl rfl rfl rfl ?_
      refine oy rfl (ypF rfl rfl) ?_
      refine oy rfl (yas rfl) ?_
      refine on ?_
      refine pn ?_
      refine rt ?_
      refine pbr ?_
      refine pr ?_
      refine ret_ rfl (fun hM => ?_)
      rotate_left
    all_goals
      refine ⟨hM.ext, ?_⟩
      simp only [ret1, Value.bool.injEq, rightData]
      have ht : txtEnd b 0 = i := by rw [hti, txtEnd, dif_neg (by omega)]
      clear hti
      rw [Bool.eq_iff_iff]
      simp_all
      try omega
end Go.Proofs.YtkhlmpkodjoioaaDoor
