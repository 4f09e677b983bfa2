/- Proved: the law MsgRecords holds for every record: Check, Target and Serial of the program tell what the chapter's do. Conditions: those of the given row alone (the listed tables of unicode/utf8 hold what they are laid with). -/
import Derived.Test.YtkhlmpkodjoioaaDoorCg
set_option linter.unusedVariables false
set_option linter.unusedSimpArgs false
set_option maxRecDepth 100000
namespace Go.Proofs.YtkhlmpkodjoioaaDoor
open Go.ChangeShapes Go.WideShapes Go.ChangeAt Go.RowKit
theorem msgRecords_contract (H : Type) (enc : TypeId × Value → H) (W : World) (base : Nat) (args : Array Value) (ds gs : List (DataW H)) (before : List MemPlace)
    (hval : ∀ (j : Nat) t v, Tryd.f6.params[j]? = some t → args[j]? = some v → Value.okWide Tryd.prog W .any base t v)
    (hW : DataW.Whole enc Tryd.prog Tryd.f6.params.toList Rows.msgRecordsSpec.vars false W args.toList ds gs before) (hsh : W.ShapedOpen Tryd.prog) :
    Calls Tryd.prog 6 args W fun e W' => ∃ v, e = .returned v ∧ Rows.msgRecordsSpec.post enc Tryd.prog Tryd.f6 false true false false W args v W' := by
  have hW' := hW
  obtain ⟨p, q, hA0, hV, rfl, hfz, hnd⟩ := hW
  have hA : DataW.TrodAll enc Tryd.prog W 0 (fun _ => true) true Tryd.f6.params.toList args.toList ds p := hA0
  rw [Tryd.params6] at hA hval
  obtain ⟨v0, d0, rfl, rfl, h0⟩ := trodAll_one hA
  obtain ⟨rfl, rfl⟩ := trodVars_none hV
  obtain ⟨r, rfl⟩ := okWide_rec (hval 0 61 v0 rfl rfl)
  have h1 := MsgRecords_spec r W (zw_of hsh)
  unfold Spec at h1
  refine h1.2.mono fun e W' ⟨v, he, hx, hv⟩ => ⟨v, he, ?_⟩
  subst hv
  exact law_post (tb := 4) laidOut (by decide +kernel) (by kernel_rfl) Tryd.underlying4 rfl hW' rfl hx.below
/-- The arguments of the witness: a record of nothing. -/
def msgRecords_wit : Array Value := #[.agg #[.string ⟨#[]⟩, .int .i64 0, .int .i64 0, .string ⟨#[]⟩]]
theorem msgRecords_laid (os : Os) : laidMet Tryd.prog Rows.msgRecordsRow.laid ((laidWorld os).forCall (fun _ _ => 0) ⟨#[], msgRecords_wit, []⟩).memory :=
  (LaidIn.of_run (l := Rows.msgRecordsRow.laid) [1, 2] 8 (by kernel_rfl) (by kernel_rfl) (by kernel_rfl) (by kernel_rfl)).met
theorem msgRecords_reads (os : Os) {H : Type} (enc : TypeId × Value → H) : ∃ places, DataW.whole enc Tryd.prog ((laidWorld os).forCall (fun _ _ => 0) ⟨#[], msgRecords_wit, []⟩).memory Tryd.f6.params.toList Rows.msgRecordsSpec.vars false msgRecords_wit.toList 8 =
    some ([.agg [.lit (.string []), .lit (.int .i64 0), .lit (.int .i64 0), .lit (.string [])]], [], places) := ⟨[], by kernel_rfl⟩
theorem msgRecords_lifted (os : Os) (started : os.Started) (H : Type) (enc : TypeId × Value → H) (F : Stop.Interp) :
    ReturnsInHanded {} Tryd.checked os 6 .any ((OpenSpec.ofChange Rows.msgRecordsSpec).preRow enc Tryd.prog Tryd.f6 Rows.msgRecordsRow.domain false Rows.msgRecordsRow.laid) (((OpenSpec.ofChange Rows.msgRecordsSpec).at F).post enc Tryd.prog Tryd.f6 false true false false) := by
  obtain ⟨places, hx⟩ := msgRecords_reads os enc
  refine returnsInHanded_of_row (C := Tryd.checked) (s := OpenSpec.ofChange Rows.msgRecordsSpec) own started (by kernel_rfl) Tryd.func6
    (witness_row_at (enc := enc) (C := Tryd.checked) false (laidWorld os) msgRecords_wit rfl (by kernel_rfl) (by kernel_rfl) (by kernel_rfl)
      (OpenSpec.preRow_of_cond 8 hx (by kernel_rfl) (fun k hk => by cases hk) (by kernel_rfl) (msgRecords_laid os))) ?_
  intro W base args ds gs before hval hW _ _ _ hL hsh _
  exact msgRecords_contract H enc W base args ds gs before hval hW hsh
theorem msgRecords_said : Rows.MsgRecordsSaid :=
  OpenClaim.holds_of_cond 6 Tryd.f6 rfl rfl rfl rfl rfl rfl rfl ⟨rfl, rfl, rfl, rfl, rfl⟩ rfl rfl rfl rfl rfl (by kernel_rfl) Tryd.func6 (by kernel_rfl)
    (of_decide_eq_true (by kernel_rfl)) (by unfold Func.isWrapper; first | (rw [if_pos (by decide +kernel)]; kernel_rfl) | (rw [if_neg (by decide +kernel)]; exact ⟨rfl, rfl⟩))
    (fun os started H enc _ F => by rw [OpenClaim.pre_eq_preRow]; exact msgRecords_lifted os started H enc F)
theorem msgRecords_plain (f : FuncId) (fn : Func) (hf : Tryd.pinned.checked.prog.funcNamed "rhyne/rhynelaw18.MsgRecords" = some f) (hfn : Tryd.pinned.checked.prog.funcs[f]? = some fn) :
    false = Tryd.pinned.checked.prog.looks [] ∧ ∀ (j : Nat) t, fn.params[j]? = some t → Tryd.pinned.checked.prog.wantsStandIn t = false := by
  obtain rfl : f = 6 := Option.some.inj ((show Tryd.prog.funcNamed "rhyne/rhynelaw18.MsgRecords" = some 6 by kernel_rfl).symm.trans hf) |>.symm
  obtain rfl : fn = Tryd.f6 := (Option.some.inj (Tryd.func6.symm.trans hfn)).symm
  refine ⟨by kernel_rfl, fun j t ht => ?_⟩
  rw [Tryd.params6] at ht
  obtain rfl : t = 61 := by simpa using Array.mem_of_getElem? ht
  exact (show Tryd.prog.wantsStandIn 61 = false by kernel_rfl)
theorem msgRecords_card : Rows.MsgRecordsCardSaid :=
  Claim7.holds_tied_plain_at .later [] _ _ _ _ msgRecords_said (fun _ h => by cases h) (by kernel_rfl) (fun _ h => by cases h) msgRecords_row_tie rfl ⟨rfl, rfl⟩ (by kernel_rfl) rfl msgRecords_plain (by kernel_rfl)
#print axioms msgRecords_card
end Go.Proofs.YtkhlmpkodjoioaaDoor
