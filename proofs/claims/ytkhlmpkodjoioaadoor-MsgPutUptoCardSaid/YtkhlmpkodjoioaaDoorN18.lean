/- Messages: the program's Put: its questions. -/
import Derived.Test.YtkhlmpkodjoioaaDoorN17
set_option linter.unusedVariables false
set_option linter.unusedSimpArgs false
set_option maxRecDepth 100000
set_option maxHeartbeats 8000000
namespace Go.Proofs.YtkhlmpkodjoioaaDoor
theorem PutTail1 {id kn cn : Nat} {an ow' cu wa ab : Bool} {ask : List Que} {a1 a2 a3 : List Rec} {s : MsgS} {m : Msg} {w0 w : World} {g1 g2 : Nat} {cv : Value} {c : List UInt8} (hz : Zw w0) (he : msgErr m = 0)
    (ha : Sl EQ w0 (EW.val s.a) ask) (hb : Sl ER w0 (EW.val s.b) a1) (hc : Sl ER w0 (EW.val s.c) a2) (hd : Sl ER w0 (EW.val s.d) a3) (hqs : ask.all okQ = true) (hrs : (a1 ++ a2 ++ a3).all rightRec = true) (hl3 : (a1 ++ a2 ++ a3).length ≤ 300)
    (hla : ask.length ≤ 300) (hQ : ∀ q ∈ ask, q.name.length ≤ 4294967280) (hB : ∀ r ∈ a1 ++ a2 ++ a3, r.name.length ≤ 4294967280 ∧ r.data.length ≤ 4294967280)
    (hlen : c.length ≤ 100) (hbody : ((a1 ++ a2 ++ a3).foldl putR (ask.foldl putQ ([], c))).2 = bodyN m) :
    WP Tryd.prog Tryd.f26.ntmps (tl 7 (bodyOf Tryd.f26)) (RetQ Tryd.prog Tryd.f26 (PutK m w0)) [(1, .pointer (some ⟨g1, 0, none⟩)), (5, cv), (8, .pointer (some ⟨g2, 0, none⟩))]
      ⟨[], w0, ow EB 5 cv c :: bx g1 (.cells (msgV id an kn ow' cu wa ab cn s).cells 49 (0, 0)) :: tbE g2 [] none⟩ w := by
  have la := ha.len
  focus
    refine rs_ ?_
    refine rsr ?_
    refine oy rfl (yfa rfl) ?_
    refine oy rfl (yld 1 rfl rfl rfl) ?_
    refine oy rfl (yll rfl) ?_
    refine oy rfl (ymv rfl) ?_
    refine on ?_
    refine pn ?_
    refine rb ?_
    rotate_left
  refine loop [5, 75] [1, 8, 73, 74] (fun vs H => ∃ (i : Nat) (cv : Value) (st : Option Nat), vs = [cv, .int .i64 i] ∧ H = ow EB 5 cv ((ask.take i).foldl putQ ([], c)).2 :: bx g1 (.cells (msgV id an kn ow' cu wa ab cn s).cells 49 (0, 0)) :: tbE g2 ((ask.take i).foldl putQ ([], c)).1 st ∧ i ≤ ask.length ∧
    (st = none → ((ask.take i).foldl putQ ([], c)).1 = []) ∧ ((ask.take i).foldl putQ ([], c)).2.length ≤ 100 + 300 * i) (fun vs => ask.length - intAt vs 1) rfl rfl (List.Sublist.refl _) ⟨0, _, none, rfl, rfl, by omega, fun _ => rfl, by simpa using hlen⟩ ?_
  rintro _ _ w' ⟨i, cv, st, rfl, rfl, hi, hst, hlen⟩
  by_cases hil : i < ask.length
  · have hq : okQ ask[i] = true := List.all_eq_true.1 hqs _ (List.getElem_mem hil)
    have hqn := hQ ask[i] (List.getElem_mem hil)
    simp only [okQ, Bool.and_eq_true, decide_eq_true_eq] at hq
    obtain ⟨hq1, hq2⟩ := hq
    have hstep : (ask.take (i + 1)).foldl putQ ([], c) = putQ ((ask.take i).foldl putQ ([], c)) ask[i] := by
      rw [List.take_succ_eq_append_getElem hil, List.foldl_append]; rfl
    have htl := tputN_len (labsOf ask[i].name) ((ask.take i).foldl putQ ([], c)).1 ((ask.take i).foldl putQ ([], c)).2
    have hll := labsOf_len ask[i].name
    generalize (ask.take i).foldl putQ ([], c) = tq at *
    focus
      refine rsr ?_
      refine oy rfl (ybI rfl rfl rfl) ?_
      refine on ?_
      refine pn ?_
      refine rs_ ?_
      refine rcd rfl (fun c1 => ?_) (fun c1 => by exfalso; omega)
      refine rk ?_
      refine pn ?_
      refine rs_ ?_
      refine rb ?_
      refine rsr ?_
      refine oy rfl (yix rfl rfl rfl (sl_arg ha rfl) (by omega)) ?_
      refine oy rfl (yleN rfl rfl (sl_arg ha rfl) (by omega)) ?_
      refine l0 ?_
      refine oal rfl (fun g2 w2 l2 => ?_)
      refine l0 ?_
      refine osts 0 rfl rfl rfl rfl rfl rfl (fun w3 => ?_)
      refine on ?_
      refine pn ?_
      refine rsr ?_
      refine oy rfl (ymv rfl) ?_
      refine oy rfl (ymv rfl) ?_
      refine oy rfl (yfa rfl) ?_
      refine oy rfl (yld 0 rfl rfl rfl) ?_
      refine l0 ?_
      refine tput_call [_] [_] rfl rfl rfl hz (by simp) hst hq1 (by omega) (by omega) (fun v8 g8 w8 => ?_)
      refine oy rfl (ymv rfl) ?_
      refine oy rfl (yex rfl rfl) ?_
      refine oy rfl (yex rfl rfl) ?_
      refine oy rfl (yas rfl) ?_
      refine on ?_
      refine pn ?_
      refine rr ?_
      refine oy rfl (ymv rfl) ?_
      refine oy rfl (yfa rfl) ?_
      refine oy rfl (yld 0 rfl rfl rfl) ?_
      refine l0 ?_
      refine num_call 1 rfl rfl rfl hz (by simp) (by omega) (by omega) (by omega) (fun v9 w9 => ?_)
      refine l0 ?_
      refine num_call 1 rfl rfl rfl hz (by simp) (by omega) (by omega) (by simp only [List.length_append, beN_len]; omega) (fun v9 w9 => ?_)
      refine oy rfl (yas rfl) ?_
      refine on ?_
      refine pbn ?_
      refine pn ?_
      refine rr ?_
      refine oy rfl (ybW rfl rfl rfl (by omega)) ?_
      refine oy rfl (ymv rfl) ?_
      refine on ?_
      refine pn ?_
      rotate_left
    refine round rfl rfl (List.sublist_cons_self _ _) ⟨i + 1, _, some g8, rfl, ?_, by omega, (fun h => by cases h), ?_⟩ (show ask.length - (i + 1) < ask.length - i by omega)
    · rw [hstep]; rfl
    · rw [hstep]
      simp only [putQ, List.length_append, beN_len]
      omega
  · have h0 : ask.take i = ask := List.take_of_length_le (by omega)
    rw [h0] at hst hlen ⊢
    refine rsr ?_
    refine oy rfl (ybI rfl rfl rfl) ?_
    refine on ?_
    refine pn ?_
    refine rs_ ?_
    refine rcd rfl (fun c1 => by exfalso; omega) (fun c1 => ?_)
    refine re ?_
    refine pe ?_
    refine pe ?_
    refine pbe ?_
    refine pn ?_
    refine weaken (e0 := [(1, .pointer (some ⟨g1, 0, none⟩)), (5, cv), (8, .pointer (some ⟨g2, 0, none⟩))]) (sub_cons.2 ⟨rfl, sub_cons.2 ⟨rfl, sub_cons.2 ⟨rfl, sub_nil⟩⟩⟩) (List.Sublist.refl _) ?_
    exact PutTail2 hz he hb hc hd hrs hl3 hB hst (by omega) hbody
end Go.Proofs.YtkhlmpkodjoioaaDoor
