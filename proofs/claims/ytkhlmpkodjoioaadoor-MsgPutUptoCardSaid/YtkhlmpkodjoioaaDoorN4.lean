/- Records: the document's Right. -/
import Derived.Test.YtkhlmpkodjoioaaDoorN3
set_option linter.unusedVariables false
set_option linter.unusedSimpArgs false
set_option maxRecDepth 10000
namespace Go.Proofs.YtkhlmpkodjoioaaDoor
theorem plain18_spec (s : List UInt8) (w : World) (hs : s.length ≤ 4294967296) : Spec Tryd.prog 59 [.string (sOf s)].toArray w (fun v w' => Ext [] w w' ∧ v = .int .i64 (plainN s)) := by
  refine Spec.intro Tryd.func59 rfl rfl (Nat.le_of_ble_eq_true rfl) (Mok.start w) ?_
  have h1 := getN_end s 0
  have h2 := getN_short s 0
  focus
    refine rsr ?_
    refine oy rfl (yas rfl) ?_
    refine on ?_
    refine pn ?_
    refine rsr ?_
    refine oy rfl (ymv rfl) ?_
    refine l0 ?_
    refine ocd rfl rfl (fun hM => DocGet_spec _ 0 _ (by omega) (by omega)) (fun w1 => ?_)
    refine oy rfl (ymv rfl) ?_
    refine oy rfl (yex rfl rfl) ?_
    refine oy rfl (yex rfl rfl) ?_
    refine oy rfl (yex rfl rfl) ?_
    refine oy rfl (yas rfl) ?_
    refine oy rfl (yas rfl) ?_
    refine oy rfl (yas rfl) ?_
    refine on ?_
    refine pn ?_
    refine rsr ?_
    refine oy rfl (ymv rfl) ?_
    refine l0 ?_
    refine ocd rfl rfl (fun hM => DocWire_spec _ _ (by omega)) (fun w2 => ?_)
    refine oy rfl (ymv rfl) ?_
    refine oy rfl (yex rfl rfl) ?_
    refine oy rfl (yex rfl rfl) ?_
    refine oy rfl (yas rfl) ?_
    refine oy rfl (yas rfl) ?_
    refine on ?_
    refine pn ?_
    refine rs_ ?_
    refine rsr ?_
    refine oy rfl (ymv rfl) ?_
    refine oy rfl (ybI rfl rfl rfl) ?_
    refine oy rfl (ymv rfl) ?_
    refine xd (g := 21) rfl (fun c3 => ?_) (fun c3 => ?_)
    refine ln rfl rfl rfl rfl ?_
    refine ln rfl rfl rfl rfl ?_
    refine oy rfl (ypT rfl rfl) ?_
    refine oy rfl (ymv rfl) ?_
    refine ln rfl rfl rfl rfl ?_
    refine ln rfl rfl rfl rfl ?_
    refine ln rfl rfl rfl rfl ?_
    refine ln rfl rfl rfl rfl ?_
    refine oy rfl (ypT rfl rfl) ?_
    refine oy rfl (ymv rfl) ?_
    refine ln rfl rfl rfl rfl ?_
    refine ln rfl rfl rfl rfl ?_
    refine ln rfl rfl rfl rfl ?_
    refine ln rfl rfl rfl rfl ?_
    refine ln rfl rfl rfl rfl ?_
    refine oy rfl (ypT rfl rfl) ?_
    refine on ?_
    refine pn ?_
    refine rcT rfl ?_
    refine rsr ?_
    refine oy rfl (yas rfl) ?_
    refine on ?_
    refine pn ?_
    refine rt ?_
    refine pr ?_
    refine ret_ rfl (fun hM => ?_)
    rotate_left
    refine oyg rfl rfl rfl (ymv rfl) ?_
    refine oyg rfl rfl rfl (ybI rfl rfl rfl) ?_
    refine oy rfl (ypF rfl rfl) ?_
    refine oy rfl (ymv rfl) ?_
    refine xd (g := 25) rfl (fun c4 => ?_) (fun c4 => ?_)
    refine ln rfl rfl rfl rfl ?_
    refine ln rfl rfl rfl rfl ?_
    refine ln rfl rfl rfl rfl ?_
    refine ln rfl rfl rfl rfl ?_
    refine oy rfl (ypT rfl rfl) ?_
    refine oy rfl (ymv rfl) ?_
    refine ln rfl rfl rfl rfl ?_
    refine ln rfl rfl rfl rfl ?_
    refine ln rfl rfl rfl rfl ?_
    refine ln rfl rfl rfl rfl ?_
    refine ln rfl rfl rfl rfl ?_
    refine oy rfl (ypT rfl rfl) ?_
    refine on ?_
    refine pn ?_
    refine rcT rfl ?_
    refine rsr ?_
    refine oy rfl (yas rfl) ?_
    refine on ?_
    refine pn ?_
    refine rt ?_
    refine pr ?_
    refine ret_ rfl (fun hM => ?_)
    rotate_left
    refine oyg rfl rfl rfl (ymv rfl) ?_
    refine oyg rfl rfl rfl (ymv rfl) ?_
    refine oyg rfl rfl rfl (yln rfl) ?_
    refine oyg rfl rfl rfl (ybI rfl rfl rfl) ?_
    refine oy rfl (ypF rfl rfl) ?_
    refine oy rfl (ymv rfl) ?_
    refine xd (g := 31) rfl (fun c5 => ?_) (fun c5 => ?_)
    refine ln rfl rfl rfl rfl ?_
    refine ln rfl rfl rfl rfl ?_
    refine ln rfl rfl rfl rfl ?_
    refine ln rfl rfl rfl rfl ?_
    refine ln rfl rfl rfl rfl ?_
    refine oy rfl (ypT rfl rfl) ?_
    refine on ?_
    refine pn ?_
    refine rcT rfl ?_
    refine rsr ?_
    refine oy rfl (yas rfl) ?_
    refine on ?_
    refine pn ?_
    refine rt ?_
    refine pr ?_
    refine ret_ rfl (fun hM => ?_)
    rotate_left
    refine oyg rfl rfl rfl (ymv rfl) ?_
    refine oyg rfl rfl rfl (ymv rfl) ?_
    refine oyg rfl rfl rfl (ys1N rfl rfl (by omega)) ?_
    refine oyg rfl rfl rfl (ymv rfl) ?_
    refine oyg rfl rfl rfl (ybN rfl rfl) ?_
    refine oy rfl (ypF rfl rfl) ?_
    refine on ?_
    refine pn ?_
    refine rcd rfl (fun c6 => ?_) (fun c6 => ?_)
    refine rsr ?_
    refine oy rfl (yas rfl) ?_
    refine on ?_
    refine pn ?_
    refine rt ?_
    refine pr ?_
    refine ret_ rfl (fun hM => ?_)
    rotate_left
    refine rk ?_
    refine pn ?_
    refine rsr ?_
    refine oy rfl (ymv rfl) ?_
    refine oy rfl (yas rfl) ?_
    refine on ?_
    refine pn ?_
    refine rt ?_
    refine ret_ rfl (fun hM => ?_)
    rotate_left
  all_goals refine ⟨hM.ext, ?_⟩
  all_goals unfold plainN
  · rw [if_neg (by rintro ⟨a, b, c, d⟩; omega)]; rfl
  · rw [if_neg (by rintro ⟨a, b, c, d⟩; omega)]; rfl
  · rw [if_neg (by rintro ⟨a, b, c, d⟩; omega)]; rfl
  · rw [if_neg (by rintro ⟨a, b, c, d⟩; exact c6 d)]; rfl
  · rw [if_pos ⟨by omega, by omega, by omega, Decidable.not_not.1 c6⟩]; rfl
def rightRec (r : Rec) : Bool := rightName r.name && decide (1 ≤ r.type ∧ r.type ≤ 65535 ∧ 0 ≤ r.ttl ∧ r.ttl ≤ 2147483647 ∧ r.data.length ≤ 1000) && rightData r.type r.data
theorem Right18_spec (r : Rec) (w : World) (hn : r.name.length ≤ 4294967296) (hd : r.data.length ≤ 4294967296) : Spec Tryd.prog 33 [r.val].toArray w (fun v w' => Ext [] w w' ∧ v = .bool (rightRec r)) := by
  refine Spec.intro Tryd.func33 rfl rfl (Nat.le_of_ble_eq_true rfl) (Mok.start w) ?_
  have h1 := plainN_le r.data
  have h2 := plainN_le (r.data.drop 2)
  have h3 := plainN_le (r.data.drop (plainN r.data))
  simp only [List.length_drop] at h2 h3
  focus
    refine rsr ?_
    refine l0 ?_
    refine obx rfl rfl (fun g1 w1 l1 => ?_)
    refine oy rfl (yas rfl) ?_
    refine on ?_
    refine pn ?_
    refine rsr ?_
    refine oy rfl (yfa rfl) ?_
    refine oy rfl (yld 0 rfl rfl rfl) ?_
    refine oy rfl (yas rfl) ?_
    refine on ?_
    refine pn ?_
    refine rs_ ?_
    refine rsr ?_
    refine oy rfl (yfa rfl) ?_
    refine oy rfl (yld 0 rfl rfl rfl) ?_
    refine l0 ?_
    refine ocd rfl rfl (fun hM => Right17_spec _ _ (by omega)) (fun w2 => ?_)
    refine oy rfl (yno rfl) ?_
    refine oy rfl (ymv rfl) ?_
    refine xb (g := 14) rfl (fun c3 => ?_) (fun c3 => ?_)
    refine ln rfl rfl rfl rfl ?_
    refine ln rfl rfl rfl rfl ?_
    refine ln rfl rfl rfl rfl ?_
    refine oy rfl (ypT rfl rfl) ?_
    refine oy rfl (ymv rfl) ?_
    refine ln rfl rfl rfl rfl ?_
    refine ln rfl rfl rfl rfl ?_
    refine ln rfl rfl rfl rfl ?_
    refine oy rfl (ypT rfl rfl) ?_
    refine oy rfl (ymv rfl) ?_
    refine ln rfl rfl rfl rfl ?_
    refine ln rfl rfl rfl rfl ?_
    refine ln rfl rfl rfl rfl ?_
    refine oy rfl (ypT rfl rfl) ?_
    refine oy rfl (ymv rfl) ?_
    refine ln rfl rfl rfl rfl ?_
    refine ln rfl rfl rfl rfl ?_
    refine ln rfl rfl rfl rfl ?_
    refine oy rfl (ypT rfl rfl) ?_
    refine oy rfl (ymv rfl) ?_
    refine ln rfl rfl rfl rfl ?_
    refine ln rfl rfl rfl rfl ?_
    refine ln rfl rfl rfl rfl ?_
    refine oy rfl (ypT rfl rfl) ?_
    refine on ?_
    refine pn ?_
    refine rcT rfl ?_
    refine rsr ?_
    refine oy rfl (yas rfl) ?_
    refine on ?_
    refine pn ?_
    refine rt ?_
    refine pr ?_
    refine ret_ rfl (fun hM => ?_)
    rotate_left
    refine oyg rfl rfl rfl (yfa rfl) ?_
    refine oyg rfl rfl rfl (yld 0 rfl rfl rfl) ?_
    refine oyg rfl rfl rfl (ybI rfl rfl rfl) ?_
    refine oy rfl (ypF rfl rfl) ?_
    refine oy rfl (ymv rfl) ?_
    refine xd (g := 19) rfl (fun c4 => ?_) (fun c4 => ?_)
    refine ln rfl rfl rfl rfl ?_
    refine ln rfl rfl rfl rfl ?_
    refine ln rfl rfl rfl rfl ?_
    refine oy rfl (ypT rfl rfl) ?_
    refine oy rfl (ymv rfl) ?_
    refine ln rfl rfl rfl rfl ?_
    refine ln rfl rfl rfl rfl ?_
    refine ln rfl rfl rfl rfl ?_
    refine oy rfl (ypT rfl rfl) ?_
    refine oy rfl (ymv rfl) ?_
    refine ln rfl rfl rfl rfl ?_
    refine ln rfl rfl rfl rfl ?_
    refine ln rfl rfl rfl rfl ?_
    refine oy rfl (ypT rfl rfl) ?_
    refine oy rfl (ymv rfl) ?_
    refine ln rfl rfl rfl rfl ?_
    refine ln rfl rfl rfl rfl ?_
    refine ln rfl rfl rfl rfl ?_
    refine oy rfl (ypT rfl rfl) ?_
    refine on ?_
    refine pn ?_
    refine rcT rfl ?_
    refine rsr ?_
    refine oy rfl (yas rfl) ?_
    refine on ?_
    refine pn ?_
    refine rt ?_
    refine pr ?_
    refine ret_ rfl (fun hM => ?_)
    rotate_left
    refine oyg rfl rfl rfl (yfa rfl) ?_
    refine oyg rfl rfl rfl (yld 0 rfl rfl rfl) ?_
    refine oyg rfl rfl rfl (ybI rfl rfl rfl) ?_
    refine oy rfl (ypF rfl rfl) ?_
    refine oy rfl (ymv rfl) ?_
    refine xd (g := 24) rfl (fun c5 => ?_) (fun c5 => ?_)
    refine ln rfl rfl rfl rfl ?_
    refine ln rfl rfl rfl rfl ?_
    refine ln rfl rfl rfl rfl ?_
    refine oy rfl (ypT rfl rfl) ?_
    refine oy rfl (ymv rfl) ?_
    refine ln rfl rfl rfl rfl ?_
    refine ln rfl rfl rfl rfl ?_
    refine ln rfl rfl rfl rfl ?_
    refine oy rfl (ypT rfl rfl) ?_
    refine oy rfl (ymv rfl) ?_
    refine ln rfl rfl rfl rfl ?_
    refine ln rfl rfl rfl rfl ?_
    refine ln rfl rfl rfl rfl ?_
    refine oy rfl (ypT rfl rfl) ?_
    refine on ?_
    refine pn ?_
    refine rcT rfl ?_
    refine rsr ?_
    refine oy rfl (yas rfl) ?_
    refine on ?_
    refine pn ?_
    refine rt ?_
    refine pr ?_
    refine ret_ rfl (fun hM => ?_)
    rotate_left
    refine oyg rfl rfl rfl (yfa rfl) ?_
    refine oyg rfl rfl rfl (yld 0 rfl rfl rfl) ?_
    refine oyg rfl rfl rfl (ybI rfl rfl rfl) ?_
    refine oy rfl (ypF rfl rfl) ?_
    refine oy rfl (ymv rfl) ?_
    refine xd (g := 29) rfl (fun c6 => ?_) (fun c6 => ?_)
    refine ln rfl rfl rfl rfl ?_
    refine ln rfl rfl rfl rfl ?_
    refine ln rfl rfl rfl rfl ?_
    refine oy rfl (ypT rfl rfl) ?_
    refine oy rfl (ymv rfl) ?_
    refine ln rfl rfl rfl rfl ?_
    refine ln rfl rfl rfl rfl ?_
    refine ln rfl rfl rfl rfl ?_
    refine oy rfl (ypT rfl rfl) ?_
    refine on ?_
    refine pn ?_
    refine rcT rfl ?_
    refine rsr ?_
    refine oy rfl (yas rfl) ?_
    refine on ?_
    refine pn ?_
    refine rt ?_
    refine pr ?_
    refine ret_ rfl (fun hM => ?_)
    rotate_left
    refine oyg rfl rfl rfl (yfa rfl) ?_
    refine oyg rfl rfl rfl (yld 0 rfl rfl rfl) ?_
    refine oyg rfl rfl rfl (ybI rfl rfl rfl) ?_
    refine oy rfl (ypF rfl rfl) ?_
    refine oy rfl (ymv rfl) ?_
    refine xd (g := 34) rfl (fun c7 => ?_) (fun c7 => ?_)
    refine ln rfl rfl rfl rfl ?_
    refine ln rfl rfl rfl rfl ?_
    refine ln rfl rfl rfl rfl ?_
    refine oy rfl (ypT rfl rfl) ?_
    refine on ?_
    refine pn ?_
    refine rcT rfl ?_
    refine rsr ?_
    refine oy rfl (yas rfl) ?_
    refine on ?_
    refine pn ?_
    refine rt ?_
    refine pr ?_
    refine ret_ rfl (fun hM => ?_)
    rotate_left
    refine oyg rfl rfl rfl (ymv rfl) ?_
    refine oyg rfl rfl rfl (yln rfl) ?_
    refine oyg rfl rfl rfl (ybI rfl rfl rfl) ?_
    refine oy rfl (ypF rfl rfl) ?_
    refine on ?_
    refine pn ?_
    refine rcd rfl (fun c8 => ?_) (fun c8 => ?_)
    refine rsr ?_
    refine oy rfl (yas rfl) ?_
    refine on ?_
    refine pn ?_
    refine rt ?_
    refine pr ?_
    refine ret_ rfl (fun hM => ?_)
    rotate_left
    refine rk ?_
    refine pn ?_
    refine rs_ ?_
    refine rsr ?_
    refine oy rfl (yfa rfl) ?_
    refine oy rfl (yld 0 rfl rfl rfl) ?_
    refine on ?_
    refine pn ?_
    refine rb ?_
    refine rsr ?_
    refine oy rfl (ybI rfl rfl rfl) ?_
    refine oy rfl (yas rfl) ?_
    refine on ?_
    refine pn ?_
    refine rcd rfl (fun c9 => ?_) (fun c9 => ?_)
    refine rsr ?_
    refine oy rfl (ymv rfl) ?_
    refine oy rfl (yln rfl) ?_
    refine oy rfl (ybI rfl rfl rfl) ?_
    refine oy rfl (yas rfl) ?_
    refine on ?_
    refine pn ?_
    refine rt ?_
    refine pbr ?_
    refine pr ?_
    refine ret_ rfl (fun hM => ?_)
    rotate_left
    refine rsr ?_
    refine oy rfl (ybI rfl rfl rfl) ?_
    refine oy rfl (yas rfl) ?_
    refine on ?_
    refine pn ?_
    refine rcd rfl (fun c10 => ?_) (fun c10 => ?_)
    refine rsr ?_
    refine oy rfl (ymv rfl) ?_
    refine oy rfl (yln rfl) ?_
    refine oy rfl (ybI rfl rfl rfl) ?_
    refine oy rfl (yas rfl) ?_
    refine on ?_
    refine pn ?_
    refine rt ?_
    refine pbr ?_
    refine pr ?_
    refine ret_ rfl (fun hM => ?_)
    rotate_left
    refine rs_ ?_
    refine rsr ?_
    refine oy rfl (ybI rfl rfl rfl) ?_
    refine oy rfl (yas rfl) ?_
    refine on ?_
    refine pn ?_
    refine rcd rfl (fun c11 => ?_) (fun c11 => ?_)
    refine rk ?_
    refine pn ?_
    refine rcd rfl (fun c12 => ?_) (fun c12 => by exfalso; omega)
    refine rsr ?_
    refine oy rfl (ymv rfl) ?_
    refine l0 ?_
    refine ocd rfl rfl (fun hM => plain18_spec _ _ (by omega)) (fun w13 => ?_)
    refine oy rfl (yas rfl) ?_
    refine on ?_
    refine pn ?_
    refine rsr ?_
    refine oy rfl (ymv rfl) ?_
    refine oy rfl (ybI rfl rfl rfl) ?_
    refine oy rfl (ymv rfl) ?_
    refine xd (g := 58) rfl (fun c14 => ?_) (fun c14 => ?_)
    refine oyg rfl rfl rfl (ymv rfl) ?_
    refine oyg rfl rfl rfl (ymv rfl) ?_
    refine oyg rfl rfl rfl (yln rfl) ?_
    refine oyg rfl rfl rfl (ybI rfl rfl rfl) ?_
    refine oy rfl (ypT rfl rfl) ?_
    refine oy rfl (yas rfl) ?_
    refine on ?_
    refine pn ?_
    refine rt ?_
    refine pbr ?_
    refine pr ?_
    refine ret_ rfl (fun hM => ?_)
    rotate_left
    refine ln rfl rfl rfl rfl ?_
    refine ln rfl rfl rfl rfl ?_
    refine ln rfl rfl rfl rfl ?_
    refine ln rfl rfl rfl rfl ?_
    refine oy rfl (ypF rfl rfl) ?_
    refine oy rfl (yas rfl) ?_
    refine on ?_
    refine pn ?_
    refine rt ?_
    refine pbr ?_
    refine pr ?_
    refine ret_ rfl (fun hM => ?_)
    rotate_left
    refine rr ?_
    refine oy rfl (ybI rfl rfl rfl) ?_
    refine oy rfl (yas rfl) ?_
    refine on ?_
    refine pn ?_
    refine rcd rfl (fun c15 => ?_) (fun c15 => ?_)
    refine rsr ?_
    refine oy rfl (ymv rfl) ?_
    refine l0 ?_
    refine ocd rfl rfl (fun hM => plain18_spec _ _ (by omega)) (fun w16 => ?_)
    refine oy rfl (yas rfl) ?_
    refine on ?_
    refine pn ?_
    refine rsr ?_
    refine oy rfl (ymv rfl) ?_
    refine oy rfl (ybI rfl rfl rfl) ?_
    refine oy rfl (ymv rfl) ?_
    refine xd (g := 58) rfl (fun c17 => ?_) (fun c17 => ?_)
    refine oyg rfl rfl rfl (ymv rfl) ?_
    refine oyg rfl rfl rfl (ymv rfl) ?_
    refine oyg rfl rfl rfl (yln rfl) ?_
    refine oyg rfl rfl rfl (ybI rfl rfl rfl) ?_
    refine oy rfl (ypT rfl rfl) ?_
    refine oy rfl (yas rfl) ?_
    refine on ?_
    refine pn ?_
    refine rt ?_
    refine pbr ?_
    refine pr ?_
    refine ret_ rfl (fun hM => ?_)
    rotate_left
    refine ln rfl rfl rfl rfl ?_
    refine ln rfl rfl rfl rfl ?_
    refine ln rfl rfl rfl rfl ?_
    refine ln rfl rfl rfl rfl ?_
    refine oy rfl (ypF rfl rfl) ?_
    refine oy rfl (yas rfl) ?_
    refine on ?_
    refine pn ?_
    refine rt ?_
    refine pbr ?_
    refine pr ?_
    refine ret_ rfl (fun hM => ?_)
    rotate_left
    refine rsr ?_
    refine oy rfl (ybI rfl rfl rfl) ?_
    refine oy rfl (yas rfl) ?_
    refine on ?_
    refine pn ?_
    refine rcd rfl (fun c18 => ?_) (fun c18 => ?_)
    refine rsr ?_
    refine oy rfl (ymv rfl) ?_
    refine oy rfl (yln rfl) ?_
    refine oy rfl (ybI rfl rfl rfl) ?_
    refine oy rfl (ymv rfl) ?_
    refine xd (g := 69) rfl (fun c19 => ?_) (fun c19 => ?_)
    refine oyg rfl rfl rfl (ymv rfl) ?_
    refine oyg rfl rfl rfl (ys2N rfl rfl (by omega)) ?_
    refine lg rfl rfl ?_
    refine ocd rfl rfl (fun hM => plain18_spec _ _ (by simp only [List.length_drop]; omega)) (fun w20 => ?_)
    refine oyg rfl rfl rfl (ymv rfl) ?_
    refine oyg rfl rfl rfl (yln rfl) ?_
    refine oyg rfl rfl rfl (ybW rfl rfl rfl (by omega)) ?_
    refine oyg rfl rfl rfl (ybI rfl rfl rfl) ?_
    refine oy rfl (ypT rfl rfl) ?_
    refine oy rfl (yas rfl) ?_
    refine on ?_
    refine pn ?_
    refine rt ?_
    refine pbr ?_
    refine pr ?_
    refine ret_ rfl (fun hM => ?_)
    rotate_left
    refine ln rfl rfl rfl rfl ?_
    refine ln rfl rfl rfl rfl ?_
    refine ln rfl rfl rfl rfl ?_
    refine ln rfl rfl rfl rfl ?_
    refine ln rfl rfl rfl rfl ?_
    refine ln rfl rfl rfl rfl ?_
    refine ln rfl rfl rfl rfl ?_
    refine oy rfl (ypF rfl rfl) ?_
    refine oy rfl (yas rfl) ?_
    refine on ?_
    refine pn ?_
    refine rt ?_
    refine pbr ?_
    refine pr ?_
    refine ret_ rfl (fun hM => ?_)
    rotate_left
    refine rsr ?_
    refine oy rfl (ybI rfl rfl rfl) ?_
    refine oy rfl (yas rfl) ?_
    refine on ?_
    refine pn ?_
    refine rcd rfl (fun c21 => ?_) (fun c21 => ?_)
    refine rsr ?_
    refine oy rfl (ymv rfl) ?_
    refine l0 ?_
    refine ocd rfl rfl (fun hM => plain18_spec _ _ (by omega)) (fun w22 => ?_)
    refine oy rfl (yas rfl) ?_
    refine on ?_
    refine pn ?_
    refine rs_ ?_
    refine rsr ?_
    refine oy rfl (ymv rfl) ?_
    refine oy rfl (ybI rfl rfl rfl) ?_
    refine on ?_
    refine pn ?_
    refine rcd rfl (fun c23 => ?_) (fun c23 => ?_)
    refine rsr ?_
    refine oy rfl (yas rfl) ?_
    refine on ?_
    refine pn ?_
    refine rt ?_
    refine pr ?_
    refine pbr ?_
    refine pr ?_
    refine ret_ rfl (fun hM => ?_)
    rotate_left
    refine rk ?_
    refine pn ?_
    refine rsr ?_
    refine oy rfl (ymv rfl) ?_
    refine oy rfl (ymv rfl) ?_
    refine oy rfl (ys2N rfl rfl (by omega)) ?_
    refine l0 ?_
    refine ocd rfl rfl (fun hM => plain18_spec _ _ (by simp only [List.length_drop]; omega)) (fun w24 => ?_)
    refine oy rfl (yas rfl) ?_
    refine on ?_
    refine pn ?_
    refine rsr ?_
    refine oy rfl (ymv rfl) ?_
    refine oy rfl (ybI rfl rfl rfl) ?_
    refine oy rfl (ymv rfl) ?_
    refine xd (g := 90) rfl (fun c25 => ?_) (fun c25 => ?_)
    refine oyg rfl rfl rfl (ymv rfl) ?_
    refine oyg rfl rfl rfl (yln rfl) ?_
    refine oyg rfl rfl rfl (ymv rfl) ?_
    refine oyg rfl rfl rfl (ymv rfl) ?_
    refine oyg rfl rfl rfl (ybW rfl rfl rfl (by omega)) ?_
    refine oyg rfl rfl rfl (ybW rfl rfl rfl (by omega)) ?_
    refine oyg rfl rfl rfl (ybI rfl rfl rfl) ?_
    refine oy rfl (ypT rfl rfl) ?_
    refine oy rfl (yas rfl) ?_
    refine on ?_
    refine pn ?_
    refine rt ?_
    refine pbr ?_
    refine pr ?_
    refine ret_ rfl (fun hM => ?_)
    rotate_left
    refine ln rfl rfl rfl rfl ?_
    refine ln rfl rfl rfl rfl ?_
    refine ln rfl rfl rfl rfl ?_
    refine ln rfl rfl rfl rfl ?_
    refine ln rfl rfl rfl rfl ?_
    refine ln rfl rfl rfl rfl ?_
    refine ln rfl rfl rfl rfl ?_
    refine oy rfl (ypF rfl rfl) ?_
    refine oy rfl (yas rfl) ?_
    refine on ?_
    refine pn ?_
    refine rt ?_
    refine pbr ?_
    refine pr ?_
    refine ret_ rfl (fun hM => ?_)
    rotate_left
    refine rsr ?_
    refine oy rfl (ybI rfl rfl rfl) ?_
    refine oy rfl (yas rfl) ?_
    refine on ?_
    refine pn ?_
    refine rcd rfl (fun c26 => ?_) (fun c26 => ?_)
    refine rsr ?_
    refine oy rfl (yas rfl) ?_
    refine on ?_
    refine pn ?_
    refine rs_ ?_
    refine rb ?_
    rotate_left
    refine rk ?_
    refine pbn ?_
    refine pn ?_
    refine rsr ?_
    refine oy rfl (yas rfl) ?_
    refine on ?_
    refine pn ?_
    refine rt ?_
    refine ret_ rfl (fun hM => ?_)
    rotate_left
  all_goals first
    | (refine ⟨hM.ext, ?_⟩
       simp only [ret1, Value.bool.injEq, rightRec, rightData]
       rw [Bool.eq_iff_iff]
       simp_all
       try omega)
    | skip
  refine loop [7] [3] (fun vs H => ∃ i : Nat, vs = [.int .i64 i] ∧ H = [] ∧ i ≤ 2000 ∧ txtEnd r.data 0 = txtEnd r.data i) (fun vs => 2000 - intAt vs 0) rfl rfl (List.nil_sublist _) ⟨0, rfl, rfl, by omega, rfl⟩ ?_
  rintro _ _ w' ⟨i, rfl, rfl, hi, hti⟩
  have hb := (r.data.getD i 0).toNat_lt
  focus
    refine rs_ ?_
    refine rsr ?_
    refine oy rfl (ymv rfl) ?_
    refine oy rfl (ymv rfl) ?_
    refine oy rfl (yln rfl) ?_
    refine oy rfl (ybI rfl rfl rfl) ?_
    refine on ?_
    refine pn ?_
    refine rcd rfl (fun c1 => ?_) (fun c1 => ?_)
    refine rk ?_
    refine pn ?_
    refine rb ?_
    refine rr ?_
    refine oy rfl (ymv rfl) ?_
    refine oy rfl (ybW rfl rfl rfl (by omega)) ?_
    refine oy rfl (ymv rfl) ?_
    refine oy rfl (ymv rfl) ?_
    refine oy rfl (ysiN rfl rfl (by omega)) ?_
    refine oy rfl (ycb _ rfl) ?_
    refine oy rfl (ybW rfl rfl rfl (by omega)) ?_
    refine oy rfl (yas rfl) ?_
    refine on ?_
    refine pbn ?_
    refine pn ?_
    rotate_left
    refine re ?_
    refine pe ?_
    refine pe ?_
    refine pbe ?_
    refine pn ?_
    refine rsr ?_
    refine oy rfl (ymv rfl) ?_
    refine oy rfl (ybN rfl rfl) ?_
    refine oy rfl (ymv rfl) ?_
    refine xd (g := 114) rfl (fun c2 => ?_) (fun c2 => ?_)
    refine oyg rfl rfl rfl (ymv rfl) ?_
    refine oyg rfl rfl rfl (ymv rfl) ?_
    refine oyg rfl rfl rfl (yln rfl) ?_
    refine oyg rfl rfl rfl (ybI rfl rfl rfl) ?_
    refine oy rfl (ypT rfl rfl) ?_
    refine oy rfl (yas rfl) ?_
    refine on ?_
    refine pn ?_
    refine rt ?_
    refine pbr ?_
    refine pr ?_
    refine ret_ rfl (fun hM => ?_)
    rotate_left
    refine ln rfl rfl rfl rfl ?_
    refine ln rfl rfl rfl rfl ?_
    refine ln rfl rfl rfl rfl ?_
    refine ln rfl rfl rfl rfl ?_
    refine oy rfl (ypF rfl rfl) ?_
    refine oy rfl (yas rfl) ?_
    refine on ?_
    refine pn ?_
    refine rt ?_
    refine pbr ?_
    refine pr ?_
    refine ret_ rfl (fun hM => ?_)
    rotate_left
  · refine round (vs := [.int .i64 (i + 1 + (r.data.getD i 0).toNat : Nat)]) rfl rfl (List.nil_sublist _) ⟨_, rfl, rfl, by omega, ?_⟩ (show 2000 - (i + 1 + (r.data.getD i 0).toNat) < 2000 - i by omega)
    rw [hti, txtEnd, dif_pos (by omega)]
  all_goals
    refine ⟨hM.ext, ?_⟩
    simp only [ret1, Value.bool.injEq, rightRec, rightData]
    have ht : txtEnd r.data 0 = i := by rw [hti, txtEnd, dif_neg (by omega)]
    clear hti hb
    rw [Bool.eq_iff_iff]
    simp_all
    try (have h9 := List.length_pos_iff.2 c2; omega)
end Go.Proofs.YtkhlmpkodjoioaaDoor
