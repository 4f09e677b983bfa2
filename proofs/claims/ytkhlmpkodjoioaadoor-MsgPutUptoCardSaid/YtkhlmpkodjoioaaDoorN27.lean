/- Messages: a message is the same as itself. -/
import Derived.Test.YtkhlmpkodjoioaaDoorN26
set_option linter.unusedVariables false
set_option linter.unusedSimpArgs false
set_option maxRecDepth 100000
set_option maxHeartbeats 8000000
namespace Go.Proofs.YtkhlmpkodjoioaaDoor
theorem Same_spec (m : Msg) (s s' : MsgS) (w : World) (hI : MsgIn w m s) (hJ : MsgIn w m s') : Spec Tryd.prog 20 [m.val s, m.val s'].toArray w (fun v w' => Ext [] w w' ∧ v = .bool true) := by
  refine Spec.intro Tryd.func20 rfl rfl (Nat.le_of_ble_eq_true rfl) (Mok.start w) ?_
  focus
    refine rsr ?_
    refine l0 ?_
    refine obx rfl rfl (fun g1 w1 l1 => ?_)
    refine l0 ?_
    refine obx rfl rfl (fun g2 w2 l2 => ?_)
    refine oy rfl (yas rfl) ?_
    refine on ?_
    refine pn ?_
    refine rsr ?_
    refine oy rfl (yfa rfl) ?_
    refine oy rfl (yld 1 rfl rfl rfl) ?_
    refine oy rfl (yfa rfl) ?_
    refine oy rfl (yld 0 rfl rfl rfl) ?_
    refine oy rfl (ybI rfl rfl rfl) ?_
    refine oy rfl (ymv rfl) ?_
    refine xd (g := 10) rfl (fun c3 => ?_) (fun c3 => by exfalso; omega)
    refine oyg rfl rfl rfl (yfa rfl) ?_
    refine oyg rfl rfl rfl (yld 1 rfl rfl rfl) ?_
    refine oyg rfl rfl rfl (yfa rfl) ?_
    refine oyg rfl rfl rfl (yld 0 rfl rfl rfl) ?_
    refine oyg rfl rfl rfl (ybb rfl rfl) ?_
    refine oy rfl (ypT rfl rfl) ?_
    refine oy rfl (ymv rfl) ?_
    refine xd (g := 17) rfl (fun c4 => ?_) (fun c4 => ?_)
    refine oyg rfl rfl rfl (yfa rfl) ?_
    refine oyg rfl rfl rfl (yld 1 rfl rfl rfl) ?_
    refine oyg rfl rfl rfl (yfa rfl) ?_
    refine oyg rfl rfl rfl (yld 0 rfl rfl rfl) ?_
    refine oyg rfl rfl rfl (ybI rfl rfl rfl) ?_
    refine oy rfl (ypT rfl rfl) ?_
    refine oy rfl (ymv rfl) ?_
    refine xd (g := 24) rfl (fun c5 => ?_) (fun c5 => by exfalso; omega)
    refine oyg rfl rfl rfl (yfa rfl) ?_
    refine oyg rfl rfl rfl (yld 1 rfl rfl rfl) ?_
    refine oyg rfl rfl rfl (yfa rfl) ?_
    refine oyg rfl rfl rfl (yld 0 rfl rfl rfl) ?_
    refine oyg rfl rfl rfl (ybb rfl rfl) ?_
    refine oy rfl (ypT rfl rfl) ?_
    refine oy rfl (ymv rfl) ?_
    refine xd (g := 31) rfl (fun c6 => ?_) (fun c6 => ?_)
    refine oyg rfl rfl rfl (yfa rfl) ?_
    refine oyg rfl rfl rfl (yld 1 rfl rfl rfl) ?_
    refine oyg rfl rfl rfl (yfa rfl) ?_
    refine oyg rfl rfl rfl (yld 0 rfl rfl rfl) ?_
    refine oyg rfl rfl rfl (ybb rfl rfl) ?_
    refine oy rfl (ypT rfl rfl) ?_
    refine oy rfl (ymv rfl) ?_
    refine xd (g := 38) rfl (fun c7 => ?_) (fun c7 => ?_)
    refine oyg rfl rfl rfl (yfa rfl) ?_
    refine oyg rfl rfl rfl (yld 1 rfl rfl rfl) ?_
    refine oyg rfl rfl rfl (yfa rfl) ?_
    refine oyg rfl rfl rfl (yld 0 rfl rfl rfl) ?_
    refine oyg rfl rfl rfl (ybb rfl rfl) ?_
    refine oy rfl (ypT rfl rfl) ?_
    refine oy rfl (ymv rfl) ?_
    refine xd (g := 45) rfl (fun c8 => ?_) (fun c8 => ?_)
    refine oyg rfl rfl rfl (yfa rfl) ?_
    refine oyg rfl rfl rfl (yld 1 rfl rfl rfl) ?_
    refine oyg rfl rfl rfl (yfa rfl) ?_
    refine oyg rfl rfl rfl (yld 0 rfl rfl rfl) ?_
    refine oyg rfl rfl rfl (ybb rfl rfl) ?_
    refine oy rfl (ypT rfl rfl) ?_
    refine oy rfl (ymv rfl) ?_
    refine xd (g := 52) rfl (fun c9 => ?_) (fun c9 => ?_)
    refine oyg rfl rfl rfl (yfa rfl) ?_
    refine oyg rfl rfl rfl (yld 1 rfl rfl rfl) ?_
    refine oyg rfl rfl rfl (yfa rfl) ?_
    refine oyg rfl rfl rfl (yld 0 rfl rfl rfl) ?_
    refine oyg rfl rfl rfl (ybI rfl rfl rfl) ?_
    refine oy rfl (ypT rfl rfl) ?_
    refine oy rfl (ymv rfl) ?_
    refine xd (g := 59) rfl (fun c10 => ?_) (fun c10 => by exfalso; omega)
    refine oyg rfl rfl rfl (yfa rfl) ?_
    refine oyg rfl rfl rfl (yld 1 rfl rfl rfl) ?_
    refine oyg rfl rfl rfl (yfa rfl) ?_
    refine oyg rfl rfl rfl (yld 0 rfl rfl rfl) ?_
    refine lg rfl rfl ?_
    refine ocd rfl rfl (fun hM => Questions_spec _ _ _ _ _ (sl_arg hI.a rfl _ hM) (sl_arg hJ.a rfl _ hM)) (fun w11 => ?_)
    refine oy rfl (ypT rfl rfl) ?_
    refine oy rfl (ymv rfl) ?_
    refine xd (g := 66) rfl (fun c12 => ?_) (fun c12 => ?_)
    refine oyg rfl rfl rfl (yfa rfl) ?_
    refine oyg rfl rfl rfl (yld 1 rfl rfl rfl) ?_
    refine oyg rfl rfl rfl (yfa rfl) ?_
    refine oyg rfl rfl rfl (yld 0 rfl rfl rfl) ?_
    refine lg rfl rfl ?_
    refine ocd rfl rfl (fun hM => Records_spec _ _ _ _ _ (sl_arg hI.b rfl _ hM) (sl_arg hJ.b rfl _ hM)) (fun w13 => ?_)
    refine oy rfl (ypT rfl rfl) ?_
    refine oy rfl (ymv rfl) ?_
    refine xd (g := 73) rfl (fun c14 => ?_) (fun c14 => ?_)
    refine oyg rfl rfl rfl (yfa rfl) ?_
    refine oyg rfl rfl rfl (yld 1 rfl rfl rfl) ?_
    refine oyg rfl rfl rfl (yfa rfl) ?_
    refine oyg rfl rfl rfl (yld 0 rfl rfl rfl) ?_
    refine lg rfl rfl ?_
    refine ocd rfl rfl (fun hM => Records_spec _ _ _ _ _ (sl_arg hI.c rfl _ hM) (sl_arg hJ.c rfl _ hM)) (fun w15 => ?_)
    refine oy rfl (ypT rfl rfl) ?_
    refine oy rfl (ymv rfl) ?_
    refine xd (g := 80) rfl (fun c16 => ?_) (fun c16 => ?_)
    refine oyg rfl rfl rfl (yfa rfl) ?_
    refine oyg rfl rfl rfl (yld 1 rfl rfl rfl) ?_
    refine oyg rfl rfl rfl (yfa rfl) ?_
    refine oyg rfl rfl rfl (yld 0 rfl rfl rfl) ?_
    refine lg rfl rfl ?_
    refine ocd rfl rfl (fun hM => Records_spec _ _ _ _ _ (sl_arg hI.d rfl _ hM) (sl_arg hJ.d rfl _ hM)) (fun w17 => ?_)
    refine oy rfl (ypT rfl rfl) ?_
    refine oy rfl (yas rfl) ?_
    refine on ?_
    refine pn ?_
    refine rt ?_
    refine ret_ rfl (fun hM => ?_)
    rotate_left
    refine ln rfl rfl rfl rfl ?_
    refine ln rfl rfl rfl rfl ?_
    refine ln rfl rfl rfl rfl ?_
    refine ln rfl rfl rfl rfl ?_
    refine ln rfl rfl rfl rfl ?_
    refine oy rfl (ypF rfl rfl) ?_
    refine oy rfl (yas rfl) ?_
    refine on ?_
    refine pn ?_
    refine rt ?_
    refine ret_ rfl (fun hM => ?_)
    rotate_left
    refine ln rfl rfl rfl rfl ?_
    refine ln rfl rfl rfl rfl ?_
    refine ln rfl rfl rfl rfl ?_
    refine ln rfl rfl rfl rfl ?_
    refine ln rfl rfl rfl rfl ?_
    refine oy rfl (ypF rfl rfl) ?_
    refine oy rfl (ymv rfl) ?_
    refine ln rfl rfl rfl rfl ?_
    refine ln rfl rfl rfl rfl ?_
    refine ln rfl rfl rfl rfl ?_
    refine ln rfl rfl rfl rfl ?_
    refine ln rfl rfl rfl rfl ?_
    refine oy rfl (ypF rfl rfl) ?_
    refine oy rfl (yas rfl) ?_
    refine on ?_
    refine pn ?_
    refine rt ?_
    refine ret_ rfl (fun hM => ?_)
    rotate_left
    refine ln rfl rfl rfl rfl ?_
    refine ln rfl rfl rfl rfl ?_
    refine ln rfl rfl rfl rfl ?_
    refine ln rfl rfl rfl rfl ?_
    refine ln rfl rfl rfl rfl ?_
    refine oy rfl (ypF rfl rfl) ?_
    refine oy rfl (ymv rfl) ?_
    refine ln rfl rfl rfl rfl ?_
    refine ln rfl rfl rfl rfl ?_
    refine ln rfl rfl rfl rfl ?_
    refine ln rfl rfl rfl rfl ?_
    refine ln rfl rfl rfl rfl ?_
    refine oy rfl (ypF rfl rfl) ?_
    refine oy rfl (ymv rfl) ?_
    refine ln rfl rfl rfl rfl ?_
    refine ln rfl rfl rfl rfl ?_
    refine ln rfl rfl rfl rfl ?_
    refine ln rfl rfl rfl rfl ?_
    refine ln rfl rfl rfl rfl ?_
    refine oy rfl (ypF rfl rfl) ?_
    refine oy rfl (yas rfl) ?_
    refine on ?_
    refine pn ?_
    refine rt ?_
    refine ret_ rfl (fun hM => ?_)
    rotate_left
    refine ln rfl rfl rfl rfl ?_
    refine ln rfl rfl rfl rfl ?_
    refine ln rfl rfl rfl rfl ?_
    refine ln rfl rfl rfl rfl ?_
    refine ln rfl rfl rfl rfl ?_
    refine oy rfl (ypF rfl rfl) ?_
    refine oy rfl (ymv rfl) ?_
    refine ln rfl rfl rfl rfl ?_
    refine ln rfl rfl rfl rfl ?_
    refine ln rfl rfl rfl rfl ?_
    refine ln rfl rfl rfl rfl ?_
    refine ln rfl rfl rfl rfl ?_
    refine oy rfl (ypF rfl rfl) ?_
    refine oy rfl (ymv rfl) ?_
    refine ln rfl rfl rfl rfl ?_
    refine ln rfl rfl rfl rfl ?_
    refine ln rfl rfl rfl rfl ?_
    refine ln rfl rfl rfl rfl ?_
    refine ln rfl rfl rfl rfl ?_
    refine oy rfl (ypF rfl rfl) ?_
    refine oy rfl (ymv rfl) ?_
    refine ln rfl rfl rfl rfl ?_
    refine ln rfl rfl rfl rfl ?_
    refine ln rfl rfl rfl rfl ?_
    refine ln rfl rfl rfl rfl ?_
    refine ln rfl rfl rfl rfl ?_
    refine oy rfl (ypF rfl rfl) ?_
    refine oy rfl (ymv rfl) ?_
    refine ln rfl rfl rfl rfl ?_
    refine ln rfl rfl rfl rfl ?_
    refine ln rfl rfl rfl rfl ?_
    refine ln rfl rfl rfl rfl ?_
    refine ln rfl rfl rfl rfl ?_
    refine oy rfl (ypF rfl rfl) ?_
    refine oy rfl (yas rfl) ?_
    refine on ?_
    refine pn ?_
    refine rt ?_
    refine ret_ rfl (fun hM => ?_)
    rotate_left
    refine ln rfl rfl rfl rfl ?_
    refine ln rfl rfl rfl rfl ?_
    refine ln rfl rfl rfl rfl ?_
    refine ln rfl rfl rfl rfl ?_
    refine ln rfl rfl rfl rfl ?_
    refine oy rfl (ypF rfl rfl) ?_
    refine oy rfl (ymv rfl) ?_
    refine ln rfl rfl rfl rfl ?_
    refine ln rfl rfl rfl rfl ?_
    refine ln rfl rfl rfl rfl ?_
    refine ln rfl rfl rfl rfl ?_
    refine ln rfl rfl rfl rfl ?_
    refine oy rfl (ypF rfl rfl) ?_
    refine oy rfl (ymv rfl) ?_
    refine ln rfl rfl rfl rfl ?_
    refine ln rfl rfl rfl rfl ?_
    refine ln rfl rfl rfl rfl ?_
    refine ln rfl rfl rfl rfl ?_
    refine ln rfl rfl rfl rfl ?_
    refine oy rfl (ypF rfl rfl) ?_
    refine oy rfl (ymv rfl) ?_
    refine ln rfl rfl rfl rfl ?_
    refine ln rfl rfl rfl rfl ?_
    refine ln rfl rfl rfl rfl ?_
    refine ln rfl rfl rfl rfl ?_
    refine ln rfl rfl rfl rfl ?_
    refine oy rfl (ypF rfl rfl) ?_
    refine oy rfl (ymv rfl) ?_
    refine ln rfl rfl rfl rfl ?_
    refine ln rfl rfl rfl rfl ?_
    refine ln rfl rfl rfl rfl ?_
    refine ln rfl rfl rfl rfl ?_
    refine ln rfl rfl rfl rfl ?_
    refine oy rfl (ypF rfl rfl) ?_
    refine oy rfl (ymv rfl) ?_
    refine ln rfl rfl rfl rfl ?_
    refine ln rfl rfl rfl rfl ?_
    refine ln rfl rfl rfl rfl ?_
    refine ln rfl rfl rfl rfl ?_
    refine ln rfl rfl rfl rfl ?_
    refine oy rfl (ypF rfl rfl) ?_
    refine oy rfl (yas rfl) ?_
    refine on ?_
    refine pn ?_
    refine rt ?_
    refine ret_ rfl (fun hM => ?_)
    rotate_left
    refine ln rfl rfl rfl rfl ?_
    refine ln rfl rfl rfl rfl ?_
    refine ln rfl rfl rfl rfl ?_
    refine ln rfl rfl rfl rfl ?_
    refine ln rfl rfl rfl rfl ?_
    refine oy rfl (ypF rfl rfl) ?_
    refine oy rfl (ymv rfl) ?_
    refine ln rfl rfl rfl rfl ?_
    refine ln rfl rfl rfl rfl ?_
    refine ln rfl rfl rfl rfl ?_
    refine ln rfl rfl rfl rfl ?_
    refine ln rfl rfl rfl rfl ?_
    refine oy rfl (ypF rfl rfl) ?_
    refine oy rfl (ymv rfl) ?_
    refine ln rfl rfl rfl rfl ?_
    refine ln rfl rfl rfl rfl ?_
    refine ln rfl rfl rfl rfl ?_
    refine ln rfl rfl rfl rfl ?_
    refine ln rfl rfl rfl rfl ?_
    refine oy rfl (ypF rfl rfl) ?_
    refine oy rfl (ymv rfl) ?_
    refine ln rfl rfl rfl rfl ?_
    refine ln rfl rfl rfl rfl ?_
    refine ln rfl rfl rfl rfl ?_
    refine ln rfl rfl rfl rfl ?_
    refine ln rfl rfl rfl rfl ?_
    refine oy rfl (ypF rfl rfl) ?_
    refine oy rfl (ymv rfl) ?_
    refine ln rfl rfl rfl rfl ?_
    refine ln rfl rfl rfl rfl ?_
    refine ln rfl rfl rfl rfl ?_
    refine ln rfl rfl rfl rfl ?_
    refine ln rfl rfl rfl rfl ?_
    refine oy rfl (ypF rfl rfl) ?_
    refine oy rfl (ymv rfl) ?_
    refine ln rfl rfl rfl rfl ?_
    refine ln rfl rfl rfl rfl ?_
    refine ln rfl rfl rfl rfl ?_
    refine ln rfl rfl rfl rfl ?_
    refine ln rfl rfl rfl rfl ?_
    refine oy rfl (ypF rfl rfl) ?_
    refine oy rfl (ymv rfl) ?_
    refine ln rfl rfl rfl rfl ?_
    refine ln rfl rfl rfl rfl ?_
    refine ln rfl rfl rfl rfl ?_
    refine ln rfl rfl rfl rfl ?_
    refine ln rfl rfl rfl rfl ?_
    refine oy rfl (ypF rfl rfl) ?_
    refine oy rfl (yas rfl) ?_
    refine on ?_
    refine pn ?_
    refine rt ?_
    refine ret_ rfl (fun hM => ?_)
    rotate_left
    refine ln rfl rfl rfl rfl ?_
    refine ln rfl rfl rfl rfl ?_
    refine ln rfl rfl rfl rfl ?_
    refine ln rfl rfl rfl rfl ?_
    refine ln rfl rfl rfl rfl ?_
    refine oy rfl (ypF rfl rfl) ?_
    refine oy rfl (ymv rfl) ?_
    refine ln rfl rfl rfl rfl ?_
    refine ln rfl rfl rfl rfl ?_
    refine ln rfl rfl rfl rfl ?_
    refine ln rfl rfl rfl rfl ?_
    refine ln rfl rfl rfl rfl ?_
    refine oy rfl (ypF rfl rfl) ?_
    refine oy rfl (ymv rfl) ?_
    refine ln rfl rfl rfl rfl ?_
    refine ln rfl rfl rfl rfl ?_
    refine ln rfl rfl rfl rfl ?_
    refine ln rfl rfl rfl rfl ?_
    refine ln rfl rfl rfl rfl ?_
    refine oy rfl (ypF rfl rfl) ?_
    refine oy rfl (ymv rfl) ?_
    refine ln rfl rfl rfl rfl ?_
    refine ln rfl rfl rfl rfl ?_
    refine ln rfl rfl rfl rfl ?_
    refine ln rfl rfl rfl rfl ?_
    refine ln rfl rfl rfl rfl ?_
    refine oy rfl (ypF rfl rfl) ?_
    refine oy rfl (ymv rfl) ?_
    refine ln rfl rfl rfl rfl ?_
    refine ln rfl rfl rfl rfl ?_
    refine ln rfl rfl rfl rfl ?_
    refine ln rfl rfl rfl rfl ?_
    refine ln rfl rfl rfl rfl ?_
    refine oy rfl (ypF rfl rfl) ?_
    refine oy rfl (ymv rfl) ?_
    refine ln rfl rfl rfl rfl ?_
    refine ln rfl rfl rfl rfl ?_
    refine ln rfl rfl rfl rfl ?_
    refine ln rfl rfl rfl rfl ?_
    refine ln rfl rfl rfl rfl ?_
    refine oy rfl (ypF rfl rfl) ?_
    refine oy rfl (ymv rfl) ?_
    refine ln rfl rfl rfl rfl ?_
    refine ln rfl rfl rfl rfl ?_
    refine ln rfl rfl rfl rfl ?_
    refine ln rfl rfl rfl rfl ?_
    refine ln rfl rfl rfl rfl ?_
    refine oy rfl (ypF rfl rfl) ?_
    refine oy rfl (ymv rfl) ?_
    refine ln rfl rfl rfl rfl ?_
    refine ln rfl rfl rfl rfl ?_
    refine ln rfl rfl rfl rfl ?_
    refine ln rfl rfl rfl rfl ?_
    refine ln rfl rfl rfl rfl ?_
    refine oy rfl (ypF rfl rfl) ?_
    refine oy rfl (yas rfl) ?_
    refine on ?_
    refine pn ?_
    refine rt ?_
    refine ret_ rfl (fun hM => ?_)
    rotate_left
    refine ln rfl rfl rfl rfl ?_
    refine ln rfl rfl rfl rfl ?_
    refine ln rfl rfl rfl rfl ?_
    refine ln rfl rfl rfl rfl ?_
    refine ln rfl rfl rfl rfl ?_
    refine oy rfl (ypF rfl rfl) ?_
    refine oy rfl (ymv rfl) ?_
    refine ln rfl rfl rfl rfl ?_
    refine ln rfl rfl rfl rfl ?_
    refine ln rfl rfl rfl rfl ?_
    refine ln rfl rfl rfl rfl ?_
    refine ln rfl rfl rfl rfl ?_
    refine oy rfl (ypF rfl rfl) ?_
    refine oy rfl (ymv rfl) ?_
    refine ln rfl rfl rfl rfl ?_
    refine ln rfl rfl rfl rfl ?_
    refine ln rfl rfl rfl rfl ?_
    refine ln rfl rfl rfl rfl ?_
    refine ln rfl rfl rfl rfl ?_
    refine oy rfl (ypF rfl rfl) ?_
    refine oy rfl (ymv rfl) ?_
    refine ln rfl rfl rfl rfl ?_
    refine ln rfl rfl rfl rfl ?_
    refine ln rfl rfl rfl rfl ?_
    refine ln rfl rfl rfl rfl ?_
    refine ln rfl rfl rfl rfl ?_
    refine oy rfl (ypF rfl rfl) ?_
    refine oy rfl (ymv rfl) ?_
    refine ln rfl rfl rfl rfl ?_
    refine ln rfl rfl rfl rfl ?_
    refine ln rfl rfl rfl rfl ?_
    refine ln rfl rfl rfl rfl ?_
    refine ln rfl rfl rfl rfl ?_
    refine oy rfl (ypF rfl rfl) ?_
    refine oy rfl (ymv rfl) ?_
    refine ln rfl rfl rfl rfl ?_
    refine ln rfl rfl rfl rfl ?_
    refine ln rfl rfl rfl rfl ?_
    refine ln rfl rfl rfl rfl ?_
    refine ln rfl rfl rfl rfl ?_
    refine oy rfl (ypF rfl rfl) ?_
    refine oy rfl (ymv rfl) ?_
    refine ln rfl rfl rfl rfl ?_
    refine ln rfl rfl rfl rfl ?_
    refine ln rfl rfl rfl rfl ?_
    refine ln rfl rfl rfl rfl ?_
    refine ln rfl rfl rfl rfl ?_
    refine oy rfl (ypF rfl rfl) ?_
    refine oy rfl (ymv rfl) ?_
    refine ln rfl rfl rfl rfl ?_
    refine ln rfl rfl rfl rfl ?_
    refine ln rfl rfl rfl rfl ?_
    refine ln rfl rfl rfl rfl ?_
    refine ln rfl rfl rfl rfl ?_
    refine oy rfl (ypF rfl rfl) ?_
    refine oy rfl (ymv rfl) ?_
    refine ln rfl rfl rfl rfl ?_
    refine ln rfl rfl rfl rfl ?_
    refine ln rfl rfl rfl rfl ?_
    refine ln rfl rfl rfl rfl ?_
    refine ln rfl rfl rfl rfl ?_
    refine oy rfl (ypF rfl rfl) ?_
    refine oy rfl (ymv rfl) ?_
    refine ln rfl rfl rfl rfl ?_
    refine ln rfl rfl rfl rfl ?_
    refine ln rfl rfl rfl rfl ?_
    refine ln rfl rfl rfl rfl ?_
    refine ln rfl rfl rfl rfl ?_
    refine oy rfl (ypF rfl rfl) ?_
    refine oy rfl (yas rfl) ?_
    refine on ?_
    refine pn ?_
    refine rt ?_
    refine ret_ rfl (fun hM => ?_)
    rotate_left
  all_goals first
    | exact absurd rfl (by assumption)
    | exact ⟨hM.ext, by simp [ret1]⟩
end Go.Proofs.YtkhlmpkodjoioaaDoor
