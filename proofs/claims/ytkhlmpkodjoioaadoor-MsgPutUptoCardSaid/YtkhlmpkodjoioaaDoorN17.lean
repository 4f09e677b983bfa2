/- Messages: the program's Put: its records. -/
import Derived.Test.YtkhlmpkodjoioaaDoorN16
set_option linter.unusedVariables false
set_option linter.unusedSimpArgs false
set_option maxRecDepth 100000
set_option maxHeartbeats 8000000
namespace Go.Proofs.YtkhlmpkodjoioaaDoor
def tl : Nat → Code → Code
  | k + 1, .seq _ b => tl k b
  | _, c => c
def bodyOf (f : Func) : Code := f.body.getD .skip
def PutK (m : Msg) (w : World) (v : Value) (w' : World) : Prop := Ext [] w w' ∧ ∃ sv, v = .tuple #[sv, .int .i64 (putN m).2] ∧ Own EB w' w.heap.size 5 sv (putN m).1
theorem PutTail2 {id kn cn : Nat} {an ow' cu wa ab : Bool} {a1 a2 a3 : List Rec} {s : MsgS} {m : Msg} {w0 w : World} {g1 g2 : Nat} {cv : Value} {tq : Tab × List UInt8} {st : Option Nat} (hz : Zw w0) (he : msgErr m = 0)
    (hb : Sl ER w0 (EW.val s.b) a1) (hc : Sl ER w0 (EW.val s.c) a2) (hd : Sl ER w0 (EW.val s.d) a3) (hrs : (a1 ++ a2 ++ a3).all rightRec = true) (hl3 : (a1 ++ a2 ++ a3).length ≤ 300)
    (hB : ∀ r ∈ a1 ++ a2 ++ a3, r.name.length ≤ 4294967280 ∧ r.data.length ≤ 4294967280)
    (hst : st = none → tq.1 = []) (hlen : tq.2.length ≤ 100000) (hbody : ((a1 ++ a2 ++ a3).foldl putR tq).2 = bodyN m) :
    WP Tryd.prog Tryd.f26.ntmps (tl 8 (bodyOf Tryd.f26)) (RetQ Tryd.prog Tryd.f26 (PutK m w0)) [(1, .pointer (some ⟨g1, 0, none⟩)), (5, cv), (8, .pointer (some ⟨g2, 0, none⟩))]
      ⟨[], w0, ow EB 5 cv tq.2 :: bx g1 (.cells (msgV id an kn ow' cu wa ab cn s).cells 49 (0, 0)) :: tbE g2 tq.1 st⟩ w := by
  focus
    refine rs_ ?_
    refine rsr ?_
    refine oy rfl (yfa rfl) ?_
    refine oy rfl (yld 1 rfl rfl rfl) ?_
    refine oy rfl (yfa rfl) ?_
    refine oy rfl (yld 1 rfl rfl rfl) ?_
    refine oy rfl (yfa rfl) ?_
    refine oy rfl (yld 1 rfl rfl rfl) ?_
    refine l0 ?_
    refine oli EW [_, _, _] rfl rfl rfl rfl rfl (fun g1 w1 l1 => ?_)
    refine l0 ?_
    refine Concat_call rfl rfl (sl_own 0 rfl) (sl_arg hb rfl) (sl_arg hc rfl) (sl_arg hd rfl) (by omega) (fun v7 w7 => ?_)
    refine oy rfl (yls rfl (sl_own 0 rfl)) ?_
    refine oy rfl (ymv rfl) ?_
    refine on ?_
    refine pn ?_
    refine rb ?_
    rotate_left
  refine loop [5, 102] [8, 100, 101] (fun vs H => ∃ (i : Nat) (cv : Value) (st : Option Nat), vs = [cv, .int .i64 i] ∧ H = ow ER 61 v7 (a1 ++ a2 ++ a3) :: ow EB 5 cv (((a1 ++ a2 ++ a3).take i).foldl putR tq).2 :: tbE g2 (((a1 ++ a2 ++ a3).take i).foldl putR tq).1 st ∧ i ≤ (a1 ++ a2 ++ a3).length ∧
      (st = none → (((a1 ++ a2 ++ a3).take i).foldl putR tq).1 = []) ∧ (((a1 ++ a2 ++ a3).take i).foldl putR tq).2.length ≤ 100000 + 2000 * i) (fun vs => (a1 ++ a2 ++ a3).length - intAt vs 1) rfl rfl (by repeat (first | exact List.Sublist.refl _ | apply List.Sublist.cons_cons | apply List.Sublist.cons)) ⟨0, _, st, rfl, rfl, by omega, hst, hlen⟩ ?_
  generalize a1 ++ a2 ++ a3 = l at *
  rintro _ _ w' ⟨i, cv, st, rfl, rfl, hi, hst, hlen⟩
  by_cases hil : i < l.length
  · have hr : rightRec l[i] = true := List.all_eq_true.1 hrs _ (List.getElem_mem hil)
    have hrn := hB l[i] (List.getElem_mem hil)
    simp only [rightRec, Bool.and_eq_true, decide_eq_true_eq] at hr
    obtain ⟨⟨hr1, hr2⟩, -⟩ := hr
    have hstep : (l.take (i + 1)).foldl putR tq = putR ((l.take i).foldl putR tq) l[i] := by
      rw [List.take_succ_eq_append_getElem hil, List.foldl_append]; rfl
    have htl := tputN_len (labsOf l[i].name) ((l.take i).foldl putR tq).1 ((l.take i).foldl putR tq).2
    have hll := labsOf_len l[i].name
    generalize (l.take i).foldl putR tq = tr at *
    focus
      refine rsr ?_
      refine oy rfl (ybI rfl rfl rfl) ?_
      refine on ?_
      refine pn ?_
      refine rs_ ?_
      refine rcd rfl (fun c1 => ?_) (fun c1 => by exfalso; omega)
      refine rk ?_
      refine pn ?_
      refine rs_ ?_
      refine rb ?_
      refine rsr ?_
      refine oy rfl (yix rfl rfl rfl (sl_own 0 rfl) (by omega)) ?_
      refine oy rfl (yleN rfl rfl (sl_own 0 rfl) (by omega)) ?_
      refine l0 ?_
      refine oal rfl (fun g2 w2 l2 => ?_)
      refine l0 ?_
      refine osts 0 rfl rfl rfl rfl rfl rfl (fun w3 => ?_)
      refine on ?_
      refine pn ?_
      refine rsr ?_
      refine oy rfl (ymv rfl) ?_
      refine oy rfl (ymv rfl) ?_
      refine oy rfl (yfa rfl) ?_
      refine oy rfl (yld 0 rfl rfl rfl) ?_
      refine l0 ?_
      refine tput_call [_, _] [] rfl rfl rfl hz (by simp) hst hr1 (by omega) (by omega) (fun v8 g8 w8 => ?_)
      refine oy rfl (ymv rfl) ?_
      refine oy rfl (yex rfl rfl) ?_
      refine oy rfl (yex rfl rfl) ?_
      refine oy rfl (yas rfl) ?_
      refine on ?_
      refine pn ?_
      refine rs_ ?_
      refine rd [bx g2 (.cells #[.string (sOf l[i].name), .int .i64 l[i].type, .int .i64 l[i].ttl, .string (sOf l[i].data)] 61 (0, 0))] rfl ?_
      refine dt (i := 0) rfl (by decide +kernel) (by repeat (first | exact List.nil_sublist _ | apply List.Sublist.cons_cons | apply List.Sublist.cons)) rfl (fun _ ha => g0 ha) (ymv rfl) ?_
      refine dt (i := 1) rfl (by decide +kernel) (by repeat (first | exact List.nil_sublist _ | apply List.Sublist.cons_cons | apply List.Sublist.cons)) rfl (fun _ ha => g0 ha) (yfa rfl) ?_
      refine dt (i := 2) rfl (by decide +kernel) (by repeat (first | exact List.nil_sublist _ | apply List.Sublist.cons_cons | apply List.Sublist.cons)) rfl (fun _ ha => g0 ha) (yld 0 rfl rfl rfl) ?_
      refine dt (i := 5) rfl (by decide +kernel) (by repeat (first | exact List.nil_sublist _ | apply List.Sublist.cons_cons | apply List.Sublist.cons)) rfl (fun _ ha => g0 ha) (yfa rfl) ?_
      refine dt (i := 6) rfl (by decide +kernel) (by repeat (first | exact List.nil_sublist _ | apply List.Sublist.cons_cons | apply List.Sublist.cons)) rfl (fun _ ha => g0 ha) (yld 0 rfl rfl rfl) ?_
      refine dt (i := 8) rfl (by decide +kernel) (by repeat (first | exact List.nil_sublist _ | apply List.Sublist.cons_cons | apply List.Sublist.cons)) rfl (fun _ ha => g0 ha) (yfa rfl) ?_
      refine dt (i := 9) rfl (by decide +kernel) (by repeat (first | exact List.nil_sublist _ | apply List.Sublist.cons_cons | apply List.Sublist.cons)) rfl (fun _ ha => g0 ha) (yld 0 rfl rfl rfl) ?_
      refine dt (i := 10) rfl (by decide +kernel) (by repeat (first | exact List.nil_sublist _ | apply List.Sublist.cons_cons | apply List.Sublist.cons)) rfl (fun _ ha => g0 ha) (yln rfl) ?_
      refine d1 (i := 3) (by decide +kernel) rfl ?_
      refine wz ?_
      refine num_call 2 rfl rfl rfl hz (by simp) (by omega) (by omega) (by omega) (fun v9 w9 => ?_)
      refine dg (by repeat (first | exact List.nil_sublist _ | apply List.Sublist.cons_cons | apply List.Sublist.cons)) ?_
      refine d1 (i := 4) (by decide +kernel) rfl ?_
      refine wz ?_
      refine num_call 2 rfl rfl rfl hz (by simp) (by omega) (by omega) (by simp only [List.length_append, beN_len]; omega) (fun v9 w9 => ?_)
      refine dg (by repeat (first | exact List.nil_sublist _ | apply List.Sublist.cons_cons | apply List.Sublist.cons)) ?_
      refine d1 (i := 7) (by decide +kernel) rfl ?_
      refine wz ?_
      refine num_call 2 rfl rfl rfl hz (by simp) (by omega) (by omega) (by simp only [List.length_append, beN_len]; omega) (fun v9 w9 => ?_)
      refine dg (by repeat (first | exact List.nil_sublist _ | apply List.Sublist.cons_cons | apply List.Sublist.cons)) ?_
      refine d1 (i := 11) (by decide +kernel) rfl ?_
      refine wz ?_
      refine num_call 2 rfl rfl rfl hz (by simp) (by omega) (by omega) (by simp only [List.length_append, beN_len]; omega) (fun v9 w9 => ?_)
      refine dg (by repeat (first | exact List.nil_sublist _ | apply List.Sublist.cons_cons | apply List.Sublist.cons)) ?_
      refine dt (i := 12) rfl (by decide +kernel) (by repeat (first | exact List.nil_sublist _ | apply List.Sublist.cons_cons | apply List.Sublist.cons)) rfl (fun _ ha => g0 ha) (yas rfl) ?_
      refine de (by decide +kernel) ?_
      refine pn ?_
      refine rr ?_
      refine oy rfl (ymv rfl) ?_
      refine oy rfl (yfa rfl) ?_
      refine oy rfl (yld 0 rfl rfl rfl) ?_
      refine l0 ?_
      refine oas 2 rfl rfl rfl rfl rfl (by simp only [List.length_append, beN_len]; omega) rfl (fun v9 w9 => ?_)
      refine oy rfl (yas rfl) ?_
      refine on ?_
      refine pbn ?_
      refine pn ?_
      refine rr ?_
      refine oy rfl (ybW rfl rfl rfl (by omega)) ?_
      refine oy rfl (ymv rfl) ?_
      refine on ?_
      refine pn ?_
      rotate_left
    refine round rfl rfl (List.sublist_cons_self _ _) ⟨i + 1, _, some g8, rfl, ?_, by omega, (fun h => by cases h), ?_⟩ (show l.length - (i + 1) < l.length - i by omega)
    · rw [hstep]; rfl
    · rw [hstep]
      simp only [putR, List.length_append, beN_len]
      omega
  · have h0 : l.take i = l := List.take_of_length_le (by omega)
    rw [h0] at *
    focus
      refine rsr ?_
      refine oy rfl (ybI rfl rfl rfl) ?_
      refine on ?_
      refine pn ?_
      refine rs_ ?_
      refine rcd rfl (fun c1 => by exfalso; omega) (fun c1 => ?_)
      refine re ?_
      refine pe ?_
      refine pe ?_
      refine pbe ?_
      refine pn ?_
      refine rs_ ?_
      refine rsr ?_
      refine oy rfl (ymv rfl) ?_
      refine oy rfl (yls rfl (sl_own 1 rfl)) ?_
      refine oy rfl (ybI rfl rfl rfl) ?_
      refine on ?_
      refine pn ?_
      refine rcd rfl (fun c2 => ?_) (fun c2 => ?_)
      refine rsr ?_
      refine oy rfl (yas rfl) ?_
      refine oy rfl (yas rfl) ?_
      refine on ?_
      refine pn ?_
      refine rt ?_
      refine pr ?_
      refine ret_ rfl (fun hM => ?_)
      rotate_left
      refine rk ?_
      refine pn ?_
      refine rsr ?_
      refine oy rfl (ymv rfl) ?_
      refine oy rfl (yas rfl) ?_
      refine oy rfl (yas rfl) ?_
      refine on ?_
      refine pn ?_
      refine rt ?_
      refine ret_ rfl (fun hM => ?_)
      rotate_left
    · have hp : putN m = ([], 5) := by
        unfold putN; rw [if_pos he, if_pos (by rw [← hbody]; omega)]
      unfold PutK
      rw [hp]
      exact ⟨hM.ext, _, rfl, Own.nil ..⟩
    · have hp : putN m = (bodyN m, 0) := by
        unfold putN; rw [if_pos he, if_neg (by rw [← hbody]; omega)]
      unfold PutK
      rw [hp, ← hbody]
      exact ⟨hM.ext, _, rfl, hM.owned 1 rfl⟩
end Go.Proofs.YtkhlmpkodjoioaaDoor
