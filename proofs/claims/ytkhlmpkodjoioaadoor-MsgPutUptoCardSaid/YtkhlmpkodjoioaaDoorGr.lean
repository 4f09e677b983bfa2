/- slices.Grow, at records. -/
import Derived.Test.YtkhlmpkodjoioaaDoorN11
import Derived.Shelf.Spec.SlicesGrow
set_option linter.unusedVariables false
set_option linter.unusedSimpArgs false
set_option maxRecDepth 10000
namespace Go.Proofs.YtkhlmpkodjoioaaDoor
def growRen : Go.Shelf.Ren := ⟨fun | 4 => 81 | n => n, fun | 22 => 44 | 25 => 61 | n => n, fun n => n⟩
theorem growLaid : Go.Proofs.Lays8.n4 Tryd.prog growRen := {
  mixed := by kernel_rfl
  f4 := ⟨Tryd.f81.name, by kernel_rfl, Tryd.func81.trans (congrArg some (by kernel_rfl))⟩
  t0 := Tryd.underlying0
  a0 := Tryd.isAgg0
  z0 := Tryd.sizeOf0
  v0 := Tryd.zeroValue0
  t3 := Tryd.underlying3
  a3 := Tryd.isAgg3
  z3 := Tryd.sizeOf3
  v3 := Tryd.zeroValue3
  t4 := Tryd.underlying4
  a4 := Tryd.isAgg4
  z4 := Tryd.sizeOf4
  v4 := Tryd.zeroValue4
  t9 := Tryd.underlying9
  a9 := Tryd.isAgg9
  z9 := Tryd.sizeOf9
  v9 := Tryd.zeroValue9
  t20 := Tryd.underlying20
  a20 := Tryd.isAgg20
  z20 := Tryd.sizeOf20
  v20 := Tryd.zeroValue20
  t22 := Tryd.underlying44
  a22 := Tryd.isAgg44
  z22 := Tryd.sizeOf44
  v22 := Tryd.zeroValue44 }
theorem Grow_spec (n : Nat) (w : World) (hn : n ≤ 1000000) : Spec Tryd.prog 81 [.slice none 0 0, .int .i64 n].toArray w (fun v w' => Ext [] w w' ∧ Own ER w' w.heap.size 61 v []) := by
  unfold Spec
  refine ⟨⟨_, Tryd.func81, rfl, rfl⟩, ?_⟩
  by_cases h0 : n = 0
  · subst h0
    exact (Any8.slices_Grow_room growLaid none 0 0 0 w (Nat.le_refl _) (by omega) (by omega) (Nat.le_refl _)).mono fun e w' ⟨he, hw⟩ => ⟨_, he, by rw [hw]; exact Ext.refl _ _, Own.nil ..⟩
  · obtain ⟨i, z, hi, hz, hsz, hbt, hzc⟩ := (El.out : TI Tryd.prog 61 4 48).ex
    have h := Any8.slices_Grow_grow growLaid i z hi hz (by omega) none 0 0 n [] w (Nat.le_refl _) (by omega) (by rw [hbt]; omega) (by omega) (by simp) (fun _ => rfl) (fun a ha => by cases ha)
    refine h.mono fun e w' ⟨he, hw⟩ => ⟨_, he, by rw [hw]; exact (Ext.drew w).trans (Ext.alloc _ _), ?_⟩
    rw [hw]
    simp only [show growRen.t 25 = 61 from rfl]
    have hge := grownCap_ge w (0 + n) 0 61
    have hcm : grownCap w (0 + n) 0 61 ≤ maxLen := grownCap_le_maxLen w _ 0 _ (by unfold maxLen; omega)
    refine Own.fresh w.drew _ _ [] _ _ (Nat.le_refl _) hcm (Nat.zero_le _) ?_ (fun j u hj => by simp [cl] at hj)
    rw [Array.size_append, Array.size_append, size_zeroCells, size_zeroCells, hzc, show ER.k = 4 from rfl]
    show _ ≤ 0 + (0 + n - 0) * 4 + (grownCap w (0 + n) 0 61 - (0 + n)) * 4
    omega
end Go.Proofs.YtkhlmpkodjoioaaDoor
