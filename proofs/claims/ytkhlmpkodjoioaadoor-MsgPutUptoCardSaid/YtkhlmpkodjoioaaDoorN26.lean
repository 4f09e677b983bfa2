/- Messages: the same, the document's out of the program's. -/
import Derived.Test.YtkhlmpkodjoioaaDoorN25
import Derived.Test.YtkhlmpkodjoioaaDoorMq
set_option linter.unusedVariables false
set_option linter.unusedSimpArgs false
set_option maxRecDepth 100000
set_option maxHeartbeats 8000000
namespace Go.Proofs.YtkhlmpkodjoioaaDoor
theorem from_spec (m : Msg) (s : MsgS) (w : World) : Spec Tryd.prog 27 [m.val s].toArray w (fun v w' => Ext [] w w' ∧ v = m.val s) := by
  refine Spec.intro Tryd.func27 rfl rfl (Nat.le_of_ble_eq_true rfl) (Mok.start w) ?_
  focus
    refine rsr ?_
    refine l0 ?_
    refine obx rfl rfl (fun g1 w1 l1 => ?_)
    refine l0 ?_
    refine oal rfl (fun g2 w2 l2 => ?_)
    refine on ?_
    refine pn ?_
    refine rsr ?_
    refine oy rfl (yfa rfl) ?_
    refine oy rfl (yld 1 rfl rfl rfl) ?_
    refine oy rfl (yfa rfl) ?_
    refine oy rfl (yld 1 rfl rfl rfl) ?_
    refine oy rfl (yfa rfl) ?_
    refine oy rfl (yld 1 rfl rfl rfl) ?_
    refine oy rfl (yfa rfl) ?_
    refine oy rfl (yld 1 rfl rfl rfl) ?_
    refine oy rfl (yfa rfl) ?_
    refine oy rfl (yld 1 rfl rfl rfl) ?_
    refine oy rfl (yfa rfl) ?_
    refine oy rfl (yld 1 rfl rfl rfl) ?_
    refine oy rfl (yfa rfl) ?_
    refine oy rfl (yld 1 rfl rfl rfl) ?_
    refine oy rfl (yfa rfl) ?_
    refine oy rfl (yld 1 rfl rfl rfl) ?_
    refine oy rfl (yfa rfl) ?_
    refine oy rfl (yld 1 rfl rfl rfl) ?_
    refine oy rfl (yfa rfl) ?_
    refine oy rfl (yld 1 rfl rfl rfl) ?_
    refine oy rfl (yfa rfl) ?_
    refine oy rfl (yld 1 rfl rfl rfl) ?_
    refine oy rfl (yfa rfl) ?_
    refine oy rfl (yld 1 rfl rfl rfl) ?_
    refine oy rfl (ybd (cells := (m.val s).cells) rfl (by kernel_rfl)) ?_
    refine l0 ?_
    refine osts 0 rfl rfl rfl rfl rfl rfl (fun w3 => ?_)
    refine on ?_
    refine pn ?_
    refine rt ?_
    rotate_left
  refine fallc 0 rfl rfl rfl rfl (fun hM => ?_)
  exact ⟨hM.ext, rfl⟩
end Go.Proofs.YtkhlmpkodjoioaaDoor
