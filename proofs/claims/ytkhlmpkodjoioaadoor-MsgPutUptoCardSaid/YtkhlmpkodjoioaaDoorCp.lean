/- Proved: the law MsgPut holds for every message: the program's Put tells what the chapter's does, and changes nothing of what was handed in. Conditions: those of the given row alone (the second form: what is read is of bulk at most 1048576; the listed tables of unicode/utf8 hold what they are laid with). -/
import Derived.Test.YtkhlmpkodjoioaaDoorCm
set_option linter.unusedVariables false
set_option linter.unusedSimpArgs false
set_option maxRecDepth 100000
namespace Go.Proofs.YtkhlmpkodjoioaaDoor
open Go.ChangeShapes Go.WideShapes Go.ChangeAt Go.RowKit
theorem msgPut_contract (H : Type) (enc : TypeId × Value → H) (W : World) (base : Nat) (args : Array Value) (ds gs : List (DataW H)) (before : List MemPlace)
    (hval : ∀ (j : Nat) t v, Tryd.f5.params[j]? = some t → args[j]? = some v → Value.okWide Tryd.prog W .any base t v)
    (hW : DataW.Whole enc Tryd.prog Tryd.f5.params.toList Rows.msgPutSpec.vars false W args.toList ds gs before) (hk : Rows.uptoSmall H (ds ++ gs) = true) (hsh : W.ShapedOpen Tryd.prog) :
    Calls Tryd.prog 5 args W fun e W' => ∃ v, e = .returned v ∧ Rows.msgPutSpec.post enc Tryd.prog Tryd.f5 false true false false W args v W' := by
  have hW' := hW
  obtain ⟨p, q, hA0, hV, rfl, hfz, hnd⟩ := hW
  have hA : DataW.TrodAll enc Tryd.prog W 0 (fun _ => true) true Tryd.f5.params.toList args.toList ds p := hA0
  rw [Tryd.params5] at hA hval
  obtain ⟨v0, d0, rfl, rfl, h0⟩ := trodAll_one hA
  obtain ⟨rfl, rfl⟩ := trodVars_none hV
  obtain ⟨m, s, rfl, hI, hQ, hR⟩ := open_msg (hval 0 46 v0 rfl rfl) h0
  have hbulk : Rows.uptoBulk d0 ≤ 1048576 := by
    have h1 : Rows.uptoBulkAll ([d0] ++ []) ≤ 1048576 := of_decide_eq_true hk
    have h2 := bulk_mem (d := d0) (l := [d0] ++ []) (by simp)
    omega
  have h1 := MsgPut_spec m s W hI (zw_of hsh) (fun q hq => by have := hQ q hq; omega) (fun r hr => by have := hR r hr; omega)
  unfold Spec at h1
  refine h1.2.mono fun e W' ⟨v, he, hx, hv⟩ => ⟨v, he, ?_⟩
  subst hv
  exact law_post (tb := 4) laidOut (by decide +kernel) (by kernel_rfl) Tryd.underlying4 rfl hW' rfl hx.below
/-- The arguments of the witness: a message of nothing. -/
def msgPut_wit : Array Value := #[.agg #[.int .i64 0, .bool false, .int .i64 0, .bool false, .bool false, .bool false, .bool false, .int .i64 0, .slice none 0 0, .slice none 0 0, .slice none 0 0, .slice none 0 0]]
theorem msgPut_laid (os : Os) : laidMet Tryd.prog Rows.msgPutUptoRow.laid ((laidWorld os).forCall (fun _ _ => 0) ⟨#[], msgPut_wit, []⟩).memory :=
  (LaidIn.of_run (l := Rows.msgPutUptoRow.laid) [1, 2] 8 (by kernel_rfl) (by kernel_rfl) (by kernel_rfl) (by kernel_rfl)).met
theorem msgPut_reads (os : Os) {H : Type} (enc : TypeId × Value → H) : ∃ places, DataW.whole enc Tryd.prog ((laidWorld os).forCall (fun _ _ => 0) ⟨#[], msgPut_wit, []⟩).memory Tryd.f5.params.toList Rows.msgPutSpec.vars false msgPut_wit.toList 8 =
    some ([.agg [.lit (.int .i64 0), .lit (.bool false), .lit (.int .i64 0), .lit (.bool false), .lit (.bool false), .lit (.bool false), .lit (.bool false), .lit (.int .i64 0), .nil, .nil, .nil, .nil]], [], places) := ⟨[], by kernel_rfl⟩
theorem msgPut_lifted (os : Os) (started : os.Started) (H : Type) (enc : TypeId × Value → H) (F : Stop.Interp) :
    ReturnsInHanded {} Tryd.checked os 5 .any ((Rows.OpenSpec.upto Rows.msgPutSpec).preRow enc Tryd.prog Tryd.f5 Rows.msgPutUptoRow.domain false Rows.msgPutUptoRow.laid) (((Rows.OpenSpec.upto Rows.msgPutSpec).at F).post enc Tryd.prog Tryd.f5 false true false false) := by
  obtain ⟨places, hx⟩ := msgPut_reads os enc
  refine returnsInHanded_of_row (C := Tryd.checked) (s := Rows.OpenSpec.upto Rows.msgPutSpec) own started (by kernel_rfl) Tryd.func5
    (witness_row_at (enc := enc) (C := Tryd.checked) false (laidWorld os) msgPut_wit rfl (by kernel_rfl) (by kernel_rfl) (by kernel_rfl)
      (OpenSpec.preRow_of_cond 8 hx (by kernel_rfl) (fun k hk => by cases hk; kernel_rfl) (by kernel_rfl) (msgPut_laid os))) ?_
  intro W base args ds gs before hval hW _ hcond _ hL hsh _
  exact msgPut_contract H enc W base args ds gs before hval hW (hcond _ rfl) hsh
theorem msgPut_said : Rows.MsgPutUptoSaid :=
  OpenClaim.holds_of_cond 5 Tryd.f5 rfl rfl rfl rfl rfl rfl rfl ⟨rfl, rfl, rfl, rfl, rfl⟩ rfl rfl rfl rfl rfl (by kernel_rfl) Tryd.func5 (by kernel_rfl)
    (of_decide_eq_true (by kernel_rfl)) (by unfold Func.isWrapper; first | (rw [if_pos (by decide +kernel)]; kernel_rfl) | (rw [if_neg (by decide +kernel)]; exact ⟨rfl, rfl⟩))
    (fun os started H enc _ F => by rw [OpenClaim.pre_eq_preRow]; exact msgPut_lifted os started H enc F)
theorem msgPut_plain (f : FuncId) (fn : Func) (hf : Tryd.pinned.checked.prog.funcNamed "rhyne/rhynelaw18.MsgPut" = some f) (hfn : Tryd.pinned.checked.prog.funcs[f]? = some fn) :
    false = Tryd.pinned.checked.prog.looks [] ∧ ∀ (j : Nat) t, fn.params[j]? = some t → Tryd.pinned.checked.prog.wantsStandIn t = false := by
  obtain rfl : f = 5 := Option.some.inj ((show Tryd.prog.funcNamed "rhyne/rhynelaw18.MsgPut" = some 5 by kernel_rfl).symm.trans hf) |>.symm
  obtain rfl : fn = Tryd.f5 := (Option.some.inj (Tryd.func5.symm.trans hfn)).symm
  refine ⟨by kernel_rfl, fun j t ht => ?_⟩
  rw [Tryd.params5] at ht
  obtain rfl : t = 46 := by simpa using Array.mem_of_getElem? ht
  exact (show Tryd.prog.wantsStandIn 46 = false by kernel_rfl)
theorem msgPut_card : Rows.MsgPutUptoCardSaid :=
  Claim7.holds_tied_plain_at .later [] _ _ _ _ msgPut_said (fun _ h => by cases h) (by kernel_rfl) (fun _ h => by cases h) msgPutUpto_row_tie rfl ⟨rfl, rfl⟩ (by kernel_rfl) rfl msgPut_plain (by kernel_rfl)
#print axioms msgPut_card
end Go.Proofs.YtkhlmpkodjoioaaDoor
