/- Messages: the document's Put: its questions, its head. -/
import Derived.Test.YtkhlmpkodjoioaaDoorN22
set_option linter.unusedVariables false
set_option linter.unusedSimpArgs false
set_option maxRecDepth 100000
set_option maxHeartbeats 8000000
namespace Go.Proofs.YtkhlmpkodjoioaaDoor
theorem DocTail1 {id ki co : Int} {an ow' cu wa ab : Bool} {s : MsgS} {m : Msg} {w0 w : World} {g1 : Nat} {rv : Value} {c : List UInt8} {ask : List Que} {all : List Rec} (hz : Zw w0) (he : msgErr m = 0) (ha : Sl EQ w0 (EW.val s.a) ask) (hqs : ask.all okQ = true) (hrs : all.all rightRec = true) (hla : ask.length ≤ 300) (hl3 : all.length ≤ 300)
    (hQ : ∀ q ∈ ask, q.name.length ≤ 4294967280) (hB : ∀ r ∈ all, r.name.length ≤ 4294967280 ∧ r.data.length ≤ 4294967280) (hlen : c.length ≤ 100) (hbody : (all.foldl putR (ask.foldl putQ ([], c))).2 = bodyN m) :
    WP Tryd.prog Tryd.f24.ntmps (tl 8 (bodyOf Tryd.f24)) (RetQ Tryd.prog Tryd.f24 (fun v w' => Ext [] w0 w' ∧ v = wire2 (putN m))) [(1, .pointer (some ⟨g1, 0, none⟩)), (4, rv), (7, .string (sOf c))]
      ⟨[], w0, [ow ER 61 rv all, bx g1 (.cells (msgV id an ki ow' cu wa ab co s).cells 46 (0, 0))]⟩ w := by
  have la := ha.len
  refine onil EK 81 ?_
  focus
    refine rsr ?_
    refine oy rfl (yas rfl) ?_
    refine on ?_
    refine pn ?_
    refine rs_ ?_
    refine rsr ?_
    refine oy rfl (yas rfl) ?_
    refine on ?_
    refine pn ?_
    refine rb ?_
    rotate_left
  refine loop [7, 8, 9] [1, 4] (fun vs H => ∃ (i : Nat) (lv : Value) (l : Pls), vs = [.string (sOf ((ask.take i).foldl putQ ([], c)).2), lv, .int .i64 i] ∧ H = [ow EK 81 lv l, ow ER 61 rv all, bx g1 (.cells (msgV id an ki ow' cu wa ab co s).cells 46 (0, 0))] ∧ i ≤ ask.length ∧
      PInv l ((ask.take i).foldl putQ ([], c)).1 ((ask.take i).foldl putQ ([], c)).2 ∧ ((ask.take i).foldl putQ ([], c)).2.length ≤ 100 + 300 * i ∧ l.length ≤ 300 * i) (fun vs => ask.length - intAt vs 2) rfl rfl (List.Sublist.refl _) ⟨0, _, [], rfl, rfl, by omega, PInv.start c, hlen, by simp⟩ ?_
  rintro _ _ w' ⟨i, lv, l, rfl, rfl, hi, hP, hlen, hpl⟩
  by_cases hil : i < ask.length
  · have hq : okQ ask[i] = true := List.all_eq_true.1 hqs _ (List.getElem_mem hil)
    have hqn := hQ ask[i] (List.getElem_mem hil)
    simp only [okQ, Bool.and_eq_true, decide_eq_true_eq] at hq
    obtain ⟨hq1, hq2⟩ := hq
    have hstep : (ask.take (i + 1)).foldl putQ ([], c) = putQ ((ask.take i).foldl putQ ([], c)) ask[i] := by
      rw [List.take_succ_eq_append_getElem hil, List.foldl_append]; rfl
    have htl := tputN_len (labsOf ask[i].name) ((ask.take i).foldl putQ ([], c)).1 ((ask.take i).foldl putQ ([], c)).2
    have hll := labsOf_len ask[i].name
    generalize (ask.take i).foldl putQ ([], c) = tr at *
    obtain ⟨hd2, hP'⟩ := dput_eq (labsOf ask[i].name) l tr.1 tr.2 hP
    have hdl := dputN_len (labsOf ask[i].name) l tr.2
    have hl2 : (labsOf ask[i].name).length ≤ (dots (labsOf ask[i].name)).length := by rw [dots_len]; omega
    have hd3 := congrArg List.length hd2
    focus
      refine rs_ ?_
      refine rsr ?_
      refine oy rfl (ymv rfl) ?_
      refine oy rfl (yfa rfl) ?_
      refine oy rfl (yld 2 rfl rfl rfl) ?_
      refine oy rfl (yll rfl) ?_
      refine oy rfl (ybI rfl rfl rfl) ?_
      refine on ?_
      refine pn ?_
      refine rcd rfl (fun c1 => ?_) (fun c1 => by exfalso; omega)
      refine rk ?_
      refine pn ?_
      refine rs_ ?_
      refine rb ?_
      refine rsr ?_
      refine oy rfl (ymv rfl) ?_
      refine oy rfl (ymv rfl) ?_
      refine oy rfl (yfa rfl) ?_
      refine oy rfl (yld 2 rfl rfl rfl) ?_
      refine oy rfl (ymv rfl) ?_
      refine oy rfl (yix rfl rfl rfl (sl_arg ha rfl) (by omega)) ?_
      refine oy rfl (yfe rfl rfl (sl_arg ha rfl) (by omega)) ?_
      refine oy rfl (ylfN rfl rfl (sl_arg ha rfl) (by omega) rfl) ?_
      refine l0 ?_
      refine dput_call 0 rfl rfl rfl hz (by simp) hq1 (by omega) (by omega) (by omega) (fun v8 w8 => ?_)
      refine oy rfl (ymv rfl) ?_
      refine oy rfl (yex rfl rfl) ?_
      refine oy rfl (yex rfl rfl) ?_
      refine oy rfl (yex rfl rfl) ?_
      refine oy rfl (yas rfl) ?_
      refine oy rfl (yas rfl) ?_
      refine oy rfl (yas rfl) ?_
      refine on ?_
      refine pn ?_
      refine rr ?_
      refine oy rfl (ymv rfl) ?_
      refine oy rfl (ymv rfl) ?_
      refine oy rfl (yfa rfl) ?_
      refine oy rfl (yld 2 rfl rfl rfl) ?_
      refine oy rfl (ymv rfl) ?_
      refine oy rfl (yix rfl rfl rfl (sl_arg ha rfl) (by omega)) ?_
      refine oy rfl (yfe rfl rfl (sl_arg ha rfl) (by omega)) ?_
      refine oy rfl (ylfN rfl rfl (sl_arg ha rfl) (by omega) rfl) ?_
      refine l0 ?_
      refine ocd rfl rfl (fun hM => numberI_spec _ _ _ (by omega) (by omega)) (fun w3 => ?_)
      refine oy rfl (yba rfl rfl (by simp only [List.length_append, beN_len, List.length_cons, List.length_nil]; omega)) ?_
      refine l0 ?_
      refine ocd rfl rfl (fun hM => numberI_spec _ _ _ (by omega) (by omega)) (fun w4 => ?_)
      refine oy rfl (yba rfl rfl (by simp only [List.length_append, beN_len, List.length_cons, List.length_nil]; omega)) ?_
      refine oy rfl (yas rfl) ?_
      refine oy rfl (yas rfl) ?_
      refine on ?_
      refine pbn ?_
      refine pn ?_
      refine rr ?_
      refine oy rfl (ymv rfl) ?_
      refine oy rfl (ybW rfl rfl rfl (by omega)) ?_
      refine oy rfl (yas rfl) ?_
      refine on ?_
      refine pn ?_
      rotate_left
    refine round rfl rfl (List.Sublist.refl _) ⟨i + 1, _, _, ?_, rfl, by omega, ?_, ?_, by omega⟩ (show ask.length - (i + 1) < ask.length - i by omega)
    · rw [hstep, hd2]; rfl
    · rw [hstep]
      refine ⟨hP'.eq, fun p hp => ?_⟩
      have := hP'.le p hp
      simp only [putQ, List.length_append]
      omega
    · rw [hstep]
      simp only [putQ, List.length_append, beN_len]
      omega
  · have h0 : ask.take i = ask := List.take_of_length_le (by omega)
    rw [h0] at hP hlen ⊢
    refine rs_ ?_
    refine rsr ?_
    refine oy rfl (ymv rfl) ?_
    refine oy rfl (yfa rfl) ?_
    refine oy rfl (yld 2 rfl rfl rfl) ?_
    refine oy rfl (yll rfl) ?_
    refine oy rfl (ybI rfl rfl rfl) ?_
    refine on ?_
    refine pn ?_
    refine rcd rfl (fun c1 => by exfalso; omega) (fun c1 => ?_)
    refine re ?_
    refine pe ?_
    refine pe ?_
    refine pbe ?_
    refine pn ?_
    refine weaken (e0 := [(1, .pointer (some ⟨g1, 0, none⟩)), (4, rv), (7, .string (sOf (ask.foldl putQ ([], c)).2)), (8, lv)]) (sub_cons.2 ⟨rfl, sub_cons.2 ⟨rfl, sub_cons.2 ⟨rfl, sub_cons.2 ⟨rfl, sub_nil⟩⟩⟩⟩) (List.Sublist.refl _) ?_
    exact DocTail2 hz he hrs hl3 hB hP (by omega) (by omega) hbody
theorem flag1_sum (an ow' cu wa : Bool) (kn : Nat) (h : kn ≤ 15) : (((bitM an 128 ||| kn * 8) ||| bitM ow' 4) ||| bitM cu 2) ||| bitM wa 1 = bitM an 128 + 8 * kn + bitM ow' 4 + bitM cu 2 + bitM wa 1 := by
  have : ∀ k : Fin 16, (((bitM an 128 ||| k.val * 8) ||| bitM ow' 4) ||| bitM cu 2) ||| bitM wa 1 = bitM an 128 + 8 * k.val + bitM ow' 4 + bitM cu 2 + bitM wa 1 := by
    revert an ow' cu wa
    decide +kernel
  exact this ⟨kn, by omega⟩
theorem flag2_sum (ab : Bool) (cn : Nat) (h : cn ≤ 15) : bitM ab 128 ||| cn = bitM ab 128 + cn := by
  have : ∀ k : Fin 16, bitM ab 128 ||| k.val = bitM ab 128 + k.val := by
    revert ab
    decide +kernel
  exact this ⟨cn, by omega⟩
theorem DocHead {id kn cn : Nat} {an ow' cu wa ab : Bool} {s : MsgS} {w0 w : World} {g1 : Nat} {rv : Value} {ask : List Que} {a1 a2 a3 : List Rec} (hz : Zw w0) (hI : MsgIn w0 ⟨id, an, kn, ow', cu, wa, ab, cn, ask, a1, a2, a3⟩ s) (hB : MsgB ⟨id, an, kn, ow', cu, wa, ab, cn, ask, a1, a2, a3⟩)
    (he : msgErr ⟨id, an, kn, ow', cu, wa, ab, cn, ask, a1, a2, a3⟩ = 0) (hid : id ≤ 65535) (hkn : kn ≤ 15) (hcn : cn ≤ 15) (hqs : ask.all okQ = true) (hrs : (a1 ++ a2 ++ a3).all rightRec = true) (hsum : ask.length + (a1 ++ a2 ++ a3).length ≤ 300) :
    WP Tryd.prog Tryd.f24.ntmps (tl 6 (bodyOf Tryd.f24)) (RetQ Tryd.prog Tryd.f24 (fun v w' => Ext [] w0 w' ∧ v = wire2 (putN ⟨id, an, kn, ow', cu, wa, ab, cn, ask, a1, a2, a3⟩))) [(1, .pointer (some ⟨g1, 0, none⟩)), (4, rv)]
      ⟨[], w0, [ow ER 61 rv (a1 ++ a2 ++ a3), bx g1 (.cells (msgV id an kn ow' cu wa ab cn s).cells 46 (0, 0))]⟩ w := by
  have la : s.a.2.1 = ask.length := hI.a.len
  have lb : s.b.2.1 = a1.length := hI.b.len
  have lc : s.c.2.1 = a2.length := hI.c.len
  have ld : s.d.2.1 = a3.length := hI.d.len
  have hl3 : (a1 ++ a2 ++ a3).length ≤ 300 := by omega
  simp only [List.length_append] at hl3
  have b1 := bitM_lt an (n := 128) (by decide)
  have b2 := bitM_lt ow' (n := 4) (by decide)
  have b3 := bitM_lt cu (n := 2) (by decide)
  have b4 := bitM_lt wa (n := 1) (by decide)
  have b5 := bitM_lt ab (n := 128) (by decide)
  refine rs_ ?_
  refine rq rfl (by decide +kernel) ?_
  refine qy rfl (yfa rfl) ?_
  refine qy rfl (yld 1 rfl rfl rfl) ?_
  refine qc rfl rfl (fun _ hM => numberI_spec _ _ _ (by omega) (by omega)) ?_
  refine qy rfl (yfa rfl) ?_
  refine qy rfl (yld 1 rfl rfl rfl) ?_
  refine qc rfl rfl (fun _ hM => bitD_spec an 128 _) ?_
  refine qy rfl (yfa rfl) ?_
  refine qy rfl (yld 1 rfl rfl rfl) ?_
  refine qy rfl (ybW rfl rfl rfl (by omega)) ?_
  refine qy rfl (ybW rfl rfl rfl (by omega)) ?_
  refine qy rfl (yfa rfl) ?_
  refine qy rfl (yld 1 rfl rfl rfl) ?_
  refine qc rfl rfl (fun _ hM => bitD_spec ow' 4 _) ?_
  refine qy rfl (ybW rfl rfl rfl (by omega)) ?_
  refine qy rfl (yfa rfl) ?_
  refine qy rfl (yld 1 rfl rfl rfl) ?_
  refine qc rfl rfl (fun _ hM => bitD_spec cu 2 _) ?_
  refine qy rfl (ybW rfl rfl rfl (by omega)) ?_
  refine qy rfl (yfa rfl) ?_
  refine qy rfl (yld 1 rfl rfl rfl) ?_
  refine qc rfl rfl (fun _ hM => bitD_spec wa 1 _) ?_
  refine qy rfl (ybW rfl rfl rfl (by omega)) ?_
  refine qc rfl rfl (fun _ hM => numberI_spec _ _ _ (by omega) (by omega)) ?_
  refine qy rfl (yba rfl rfl (by simp only [List.length_append, beN_len, List.length_cons, List.length_nil]; omega)) ?_
  refine qy rfl (yfa rfl) ?_
  refine qy rfl (yld 1 rfl rfl rfl) ?_
  refine qc rfl rfl (fun _ hM => bitD_spec ab 128 _) ?_
  refine qy rfl (yfa rfl) ?_
  refine qy rfl (yld 1 rfl rfl rfl) ?_
  refine qy rfl (ybW rfl rfl rfl (by omega)) ?_
  refine qc rfl rfl (fun _ hM => numberI_spec _ _ _ (by omega) (by omega)) ?_
  refine qy rfl (yba rfl rfl (by simp only [List.length_append, beN_len, List.length_cons, List.length_nil]; omega)) ?_
  refine qy rfl (yas rfl) ?_
  refine qend (fun w1 => ?_)
  refine pn ?_
  refine rs_ ?_
  refine rq rfl (by decide +kernel) ?_
  refine qy rfl (ymv rfl) ?_
  refine qy rfl (yfa rfl) ?_
  refine qy rfl (yld 1 rfl rfl rfl) ?_
  refine qy rfl (yll rfl) ?_
  refine qc rfl rfl (fun _ hM => numberI_spec _ _ _ (by omega) (by omega)) ?_
  refine qy rfl (yba rfl rfl (by simp only [List.length_append, beN_len, List.length_cons, List.length_nil]; omega)) ?_
  refine qy rfl (yfa rfl) ?_
  refine qy rfl (yld 1 rfl rfl rfl) ?_
  refine qy rfl (yll rfl) ?_
  refine qc rfl rfl (fun _ hM => numberI_spec _ _ _ (by omega) (by omega)) ?_
  refine qy rfl (yba rfl rfl (by simp only [List.length_append, beN_len, List.length_cons, List.length_nil]; omega)) ?_
  refine qy rfl (yfa rfl) ?_
  refine qy rfl (yld 1 rfl rfl rfl) ?_
  refine qy rfl (yll rfl) ?_
  refine qc rfl rfl (fun _ hM => numberI_spec _ _ _ (by omega) (by omega)) ?_
  refine qy rfl (yba rfl rfl (by simp only [List.length_append, beN_len, List.length_cons, List.length_nil]; omega)) ?_
  refine qy rfl (yfa rfl) ?_
  refine qy rfl (yld 1 rfl rfl rfl) ?_
  refine qy rfl (yll rfl) ?_
  refine qc rfl rfl (fun _ hM => numberI_spec _ _ _ (by omega) (by omega)) ?_
  refine qy rfl (yba rfl rfl (by simp only [List.length_append, beN_len, List.length_cons, List.length_nil]; omega)) ?_
  refine qy rfl (yas rfl) ?_
  refine qend (fun w2 => ?_)
  refine pn ?_
  have hc : beN (id : Int).toNat (Int.toNat 2) ++ beN (((((bitM an 128 : Nat) : Int) + 8 * (kn : Int)) + (bitM ow' 4 : Nat)) + (bitM cu 2 : Nat) + (bitM wa 1 : Nat)).toNat (Int.toNat 1) ++ beN (((bitM ab 128 : Nat) : Int) + (cn : Int)).toNat (Int.toNat 1) ++ beN (s.a.2.1 : Int).toNat (Int.toNat 2) ++ beN (s.b.2.1 : Int).toNat (Int.toNat 2) ++ beN (s.c.2.1 : Int).toNat (Int.toNat 2) ++ beN (s.d.2.1 : Int).toNat (Int.toNat 2) = headN ⟨id, an, kn, ow', cu, wa, ab, cn, ask, a1, a2, a3⟩ := by
    have e1 : (((((bitM an 128 : Nat) : Int) + 8 * (kn : Int)) + (bitM ow' 4 : Nat)) + (bitM cu 2 : Nat) + (bitM wa 1 : Nat)).toNat = flag1 ⟨id, an, kn, ow', cu, wa, ab, cn, ask, a1, a2, a3⟩ := by
      have := flag1_sum an ow' cu wa kn hkn
      simp only [flag1, Int.toNat_natCast]
      omega
    have e2 : (((bitM ab 128 : Nat) : Int) + (cn : Int)).toNat = flag2 ⟨id, an, kn, ow', cu, wa, ab, cn, ask, a1, a2, a3⟩ := by
      have := flag2_sum ab cn hcn
      simp only [flag2, Int.toNat_natCast]
      omega
    rw [e1, e2, la, lb, lc, ld]
    simp [headN, headA]
  rw [hc]
  have hhl : (headN ⟨id, an, kn, ow', cu, wa, ab, cn, ask, a1, a2, a3⟩).length ≤ 100 := by rw [← hc]; simp only [List.length_append, beN_len]; decide
  refine weaken (e0 := [(1, .pointer (some ⟨g1, 0, none⟩)), (4, rv), (7, .string (sOf (headN ⟨id, an, kn, ow', cu, wa, ab, cn, ask, a1, a2, a3⟩)))]) (sub_cons.2 ⟨rfl, sub_cons.2 ⟨rfl, sub_cons.2 ⟨rfl, sub_nil⟩⟩⟩) (List.Sublist.refl _) ?_
  exact DocTail1 (ask := ask) (all := a1 ++ a2 ++ a3) hz he hI.a hqs hrs (by omega) (by omega) hB.q hB.r hhl rfl
end Go.Proofs.YtkhlmpkodjoioaaDoor
