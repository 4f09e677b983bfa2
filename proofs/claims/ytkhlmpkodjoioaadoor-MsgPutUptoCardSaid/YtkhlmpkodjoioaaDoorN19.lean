/- Messages: the program's Put: its head. -/
import Derived.Test.YtkhlmpkodjoioaaDoorN18
set_option linter.unusedVariables false
set_option linter.unusedSimpArgs false
set_option maxRecDepth 100000
set_option maxHeartbeats 8000000
namespace Go.Proofs.YtkhlmpkodjoioaaDoor
theorem bitM_lt (b : Bool) {n : Nat} (h : n < 2 ^ 8) : bitM b n < 2 ^ 8 := by
  cases b
  · show 0 < 2 ^ 8; decide
  · exact h
def cntN (L : List Nat) (i : Nat) : List UInt8 := (L.take i).flatMap (beN · 2)
theorem cnt_len (L : List Nat) (i : Nat) : (cntN L i).length ≤ 2 * i := by
  unfold cntN
  have : ∀ L : List Nat, (L.flatMap (beN · 2)).length = 2 * L.length := fun L => by
    induction L with
    | nil => rfl
    | cons x L ih => rw [List.flatMap_cons, List.length_append, ih, beN_len, List.length_cons]; omega
  rw [this, List.length_take]
  omega
theorem cnt_succ {L : List Nat} {i : Nat} (h : i < L.length) : cntN L (i + 1) = cntN L i ++ beN L[i] 2 := by
  unfold cntN
  rw [List.take_succ_eq_append_getElem h, List.flatMap_append]; simp
theorem headA_len (m : Msg) : (headA m).length = 4 := by simp [headA, beN_len]
theorem PutOk {id kn cn : Nat} {an ow' cu wa ab : Bool} {ask : List Que} {a1 a2 a3 : List Rec} (s : MsgS) (w : World) (hI : MsgIn w ⟨id, an, kn, ow', cu, wa, ab, cn, ask, a1, a2, a3⟩ s) (hB : MsgB ⟨id, an, kn, ow', cu, wa, ab, cn, ask, a1, a2, a3⟩) (hz : Zw w)
    (he : msgErr ⟨id, an, kn, ow', cu, wa, ab, cn, ask, a1, a2, a3⟩ = 0) (hid : id ≤ 65535) (hkn : kn ≤ 15) (hcn : cn ≤ 15) (hqs : ask.all okQ = true) (hrs : (a1 ++ a2 ++ a3).all rightRec = true) (hsum : ask.length + (a1 ++ a2 ++ a3).length ≤ 300) :
    Spec Tryd.prog 26 [msgV id an kn ow' cu wa ab cn s].toArray w (PutK ⟨id, an, kn, ow', cu, wa, ab, cn, ask, a1, a2, a3⟩ w) := by
  refine Spec.intro Tryd.func26 rfl rfl (Nat.le_of_ble_eq_true rfl) (Mok.start w) ?_
  have la : s.a.2.1 = ask.length := hI.a.len
  have lb : s.b.2.1 = a1.length := hI.b.len
  have lc : s.c.2.1 = a2.length := hI.c.len
  have ld : s.d.2.1 = a3.length := hI.d.len
  have hl3 : (a1 ++ a2 ++ a3).length ≤ 300 := by omega
  simp only [List.length_append] at hl3
  have f1 := Nat.or_lt_two_pow (n := 8) (y := kn * 8) (bitM_lt an (n := 128) (by decide)) (by omega)
  have f2 := Nat.or_lt_two_pow (n := 8) f1 (bitM_lt ow' (n := 4) (by decide))
  have f3 := Nat.or_lt_two_pow (n := 8) f2 (bitM_lt cu (n := 2) (by decide))
  have f4 := Nat.or_lt_two_pow (n := 8) f3 (bitM_lt wa (n := 1) (by decide))
  have f5 := Nat.or_lt_two_pow (n := 8) (y := cn) (bitM_lt ab (n := 128) (by decide)) (by omega)
  have hb1 := bitM_lt an (n := 128) (by decide)
  have hb2 := bitM_lt ow' (n := 4) (by decide)
  have hb3 := bitM_lt cu (n := 2) (by decide)
  have hb4 := bitM_lt wa (n := 1) (by decide)
  have hb5 := bitM_lt ab (n := 128) (by decide)
  refine onil EB 5 ?_
  focus
    refine rsr ?_
    refine l0 ?_
    refine obx rfl rfl (fun g1 w1 l1 => ?_)
    refine oy rfl (yas rfl) ?_
    refine oy rfl (yas rfl) ?_
    refine on ?_
    refine pn ?_
    refine rs_ ?_
    refine rsr ?_
    refine oy rfl (ylS 0 rfl rfl rfl) ?_
    refine l0 ?_
    refine ocd rfl rfl (fun hM => check_spec ⟨id, an, kn, ow', cu, wa, ab, cn, ask, a1, a2, a3⟩ s _ (hI.e0 hM.ext) hB (hM.zw hz (by simp))) (fun w2 => ?_)
    refine oy rfl (yas rfl) ?_
    refine on ?_
    refine pn ?_
    refine rsr ?_
    refine oy rfl (ymv rfl) ?_
    refine oy rfl (ybI rfl rfl rfl) ?_
    refine on ?_
    refine pn ?_
    refine rcd rfl (fun c3 => by exfalso; omega) (fun c3 => ?_)
    refine rk ?_
    refine pn ?_
    refine rsr ?_
    refine oy rfl (yfa rfl) ?_
    refine oy rfl (yld 0 rfl rfl rfl) ?_
    refine l0 ?_
    refine num_call 1 rfl rfl rfl hz (by simp) (by omega) (by omega) (by simp [beN_len] <;> omega) (fun v9 w9 => ?_)
    refine oy rfl (yas rfl) ?_
    refine on ?_
    refine pn ?_
    refine rs_ ?_
    refine rd [bx g1 (.cells (msgV id an kn ow' cu wa ab cn s).cells 49 (0, 0))] rfl ?_
    refine dt (i := 0) rfl (by decide +kernel) (by repeat (first | exact List.nil_sublist _ | apply List.Sublist.cons_cons | apply List.Sublist.cons)) rfl (fun _ ha => g0 ha) (ymv rfl) ?_
    refine dt (i := 1) rfl (by decide +kernel) (by repeat (first | exact List.nil_sublist _ | apply List.Sublist.cons_cons | apply List.Sublist.cons)) rfl (fun _ ha => g0 ha) (yfa rfl) ?_
    refine dt (i := 2) rfl (by decide +kernel) (by repeat (first | exact List.nil_sublist _ | apply List.Sublist.cons_cons | apply List.Sublist.cons)) rfl (fun _ ha => g0 ha) (yld 0 rfl rfl rfl) ?_
    refine dt (i := 4) rfl (by decide +kernel) (by repeat (first | exact List.nil_sublist _ | apply List.Sublist.cons_cons | apply List.Sublist.cons)) rfl (fun _ ha => g0 ha) (yfa rfl) ?_
    refine dt (i := 5) rfl (by decide +kernel) (by repeat (first | exact List.nil_sublist _ | apply List.Sublist.cons_cons | apply List.Sublist.cons)) rfl (fun _ ha => g0 ha) (yld 0 rfl rfl rfl) ?_
    refine dt (i := 6) rfl (by decide +kernel) (by repeat (first | exact List.nil_sublist _ | apply List.Sublist.cons_cons | apply List.Sublist.cons)) rfl (fun _ ha => g0 ha) (yshl 3 8 rfl rfl rfl (by decide) (by omega)) ?_
    refine dt (i := 8) rfl (by decide +kernel) (by repeat (first | exact List.nil_sublist _ | apply List.Sublist.cons_cons | apply List.Sublist.cons)) rfl (fun _ ha => g0 ha) (yfa rfl) ?_
    refine dt (i := 9) rfl (by decide +kernel) (by repeat (first | exact List.nil_sublist _ | apply List.Sublist.cons_cons | apply List.Sublist.cons)) rfl (fun _ ha => g0 ha) (yld 0 rfl rfl rfl) ?_
    refine dt (i := 12) rfl (by decide +kernel) (by repeat (first | exact List.nil_sublist _ | apply List.Sublist.cons_cons | apply List.Sublist.cons)) rfl (fun _ ha => g0 ha) (yfa rfl) ?_
    refine dt (i := 13) rfl (by decide +kernel) (by repeat (first | exact List.nil_sublist _ | apply List.Sublist.cons_cons | apply List.Sublist.cons)) rfl (fun _ ha => g0 ha) (yld 0 rfl rfl rfl) ?_
    refine dt (i := 16) rfl (by decide +kernel) (by repeat (first | exact List.nil_sublist _ | apply List.Sublist.cons_cons | apply List.Sublist.cons)) rfl (fun _ ha => g0 ha) (yfa rfl) ?_
    refine dt (i := 17) rfl (by decide +kernel) (by repeat (first | exact List.nil_sublist _ | apply List.Sublist.cons_cons | apply List.Sublist.cons)) rfl (fun _ ha => g0 ha) (yld 0 rfl rfl rfl) ?_
    refine d1 (i := 3) (by decide +kernel) rfl ?_
    refine wz ?_
    refine ocd rfl rfl (fun hM => bitN_spec an 128 _) (fun w5 => ?_)
    refine dg (by repeat (first | exact List.nil_sublist _ | apply List.Sublist.cons_cons | apply List.Sublist.cons)) ?_
    refine dt (i := 7) rfl (by decide +kernel) (by repeat (first | exact List.nil_sublist _ | apply List.Sublist.cons_cons | apply List.Sublist.cons)) rfl (fun _ ha => g0 ha) (yor rfl rfl (by omega) (by omega)) ?_
    refine d1 (i := 10) (by decide +kernel) rfl ?_
    refine wz ?_
    refine ocd rfl rfl (fun hM => bitN_spec ow' 4 _) (fun w6 => ?_)
    refine dg (by repeat (first | exact List.nil_sublist _ | apply List.Sublist.cons_cons | apply List.Sublist.cons)) ?_
    refine dt (i := 11) rfl (by decide +kernel) (by repeat (first | exact List.nil_sublist _ | apply List.Sublist.cons_cons | apply List.Sublist.cons)) rfl (fun _ ha => g0 ha) (yor rfl rfl (by omega) (by omega)) ?_
    refine d1 (i := 14) (by decide +kernel) rfl ?_
    refine wz ?_
    refine ocd rfl rfl (fun hM => bitN_spec cu 2 _) (fun w7 => ?_)
    refine dg (by repeat (first | exact List.nil_sublist _ | apply List.Sublist.cons_cons | apply List.Sublist.cons)) ?_
    refine dt (i := 15) rfl (by decide +kernel) (by repeat (first | exact List.nil_sublist _ | apply List.Sublist.cons_cons | apply List.Sublist.cons)) rfl (fun _ ha => g0 ha) (yor rfl rfl (by omega) (by omega)) ?_
    refine d1 (i := 18) (by decide +kernel) rfl ?_
    refine wz ?_
    refine ocd rfl rfl (fun hM => bitN_spec wa 1 _) (fun w8 => ?_)
    refine dg (by repeat (first | exact List.nil_sublist _ | apply List.Sublist.cons_cons | apply List.Sublist.cons)) ?_
    refine dt (i := 19) rfl (by decide +kernel) (by repeat (first | exact List.nil_sublist _ | apply List.Sublist.cons_cons | apply List.Sublist.cons)) rfl (fun _ ha => g0 ha) (yor rfl rfl (by omega) (by omega)) ?_
    refine d1 (i := 20) (by decide +kernel) rfl ?_
    refine wz ?_
    refine num_call 1 rfl rfl rfl hz (by simp) (by omega) (by omega) (by simp [beN_len] <;> omega) (fun v9 w9 => ?_)
    refine dg (by repeat (first | exact List.nil_sublist _ | apply List.Sublist.cons_cons | apply List.Sublist.cons)) ?_
    refine dt (i := 21) rfl (by decide +kernel) (by repeat (first | exact List.nil_sublist _ | apply List.Sublist.cons_cons | apply List.Sublist.cons)) rfl (fun _ ha => g0 ha) (yas rfl) ?_
    refine de (by decide +kernel) ?_
    refine pn ?_
    refine rs_ ?_
    refine rd [bx g1 (.cells (msgV id an kn ow' cu wa ab cn s).cells 49 (0, 0))] rfl ?_
    refine dt (i := 0) rfl (by decide +kernel) (by repeat (first | exact List.nil_sublist _ | apply List.Sublist.cons_cons | apply List.Sublist.cons)) rfl (fun _ ha => g0 ha) (ymv rfl) ?_
    refine dt (i := 1) rfl (by decide +kernel) (by repeat (first | exact List.nil_sublist _ | apply List.Sublist.cons_cons | apply List.Sublist.cons)) rfl (fun _ ha => g0 ha) (yfa rfl) ?_
    refine dt (i := 2) rfl (by decide +kernel) (by repeat (first | exact List.nil_sublist _ | apply List.Sublist.cons_cons | apply List.Sublist.cons)) rfl (fun _ ha => g0 ha) (yld 0 rfl rfl rfl) ?_
    refine dt (i := 4) rfl (by decide +kernel) (by repeat (first | exact List.nil_sublist _ | apply List.Sublist.cons_cons | apply List.Sublist.cons)) rfl (fun _ ha => g0 ha) (yfa rfl) ?_
    refine dt (i := 5) rfl (by decide +kernel) (by repeat (first | exact List.nil_sublist _ | apply List.Sublist.cons_cons | apply List.Sublist.cons)) rfl (fun _ ha => g0 ha) (yld 0 rfl rfl rfl) ?_
    refine d1 (i := 3) (by decide +kernel) rfl ?_
    refine wz ?_
    refine ocd rfl rfl (fun hM => bitN_spec ab 128 _) (fun w10 => ?_)
    refine dg (by repeat (first | exact List.nil_sublist _ | apply List.Sublist.cons_cons | apply List.Sublist.cons)) ?_
    refine dt (i := 6) rfl (by decide +kernel) (by repeat (first | exact List.nil_sublist _ | apply List.Sublist.cons_cons | apply List.Sublist.cons)) rfl (fun _ ha => g0 ha) (yor rfl rfl (by omega) (by omega)) ?_
    refine d1 (i := 7) (by decide +kernel) rfl ?_
    refine wz ?_
    refine num_call 1 rfl rfl rfl hz (by simp) (by omega) (by omega) (by simp [beN_len] <;> omega) (fun v9 w9 => ?_)
    refine dg (by repeat (first | exact List.nil_sublist _ | apply List.Sublist.cons_cons | apply List.Sublist.cons)) ?_
    refine dt (i := 8) rfl (by decide +kernel) (by repeat (first | exact List.nil_sublist _ | apply List.Sublist.cons_cons | apply List.Sublist.cons)) rfl (fun _ ha => g0 ha) (yas rfl) ?_
    refine de (by decide +kernel) ?_
    refine pn ?_
    refine rs_ ?_
    refine rsr ?_
    refine oy rfl (yfa rfl) ?_
    refine oy rfl (yld 0 rfl rfl rfl) ?_
    refine oy rfl (yll rfl) ?_
    refine oy rfl (yfa rfl) ?_
    refine oy rfl (yld 0 rfl rfl rfl) ?_
    refine oy rfl (yll rfl) ?_
    refine oy rfl (yfa rfl) ?_
    refine oy rfl (yld 0 rfl rfl rfl) ?_
    refine oy rfl (yll rfl) ?_
    refine oy rfl (yfa rfl) ?_
    refine oy rfl (yld 0 rfl rfl rfl) ?_
    refine oy rfl (yll rfl) ?_
    refine oy rfl (ybd rfl rfl) ?_
    refine oy rfl (ymv rfl) ?_
    refine on ?_
    refine pn ?_
    refine rb ?_
    rotate_left
  generalize hM : (⟨id, an, kn, ow', cu, wa, ab, cn, ask, a1, a2, a3⟩ : Msg) = m at hI hB he ⊢
  refine loop [5, 63] [1, 62] (fun vs H => ∃ (i : Nat) (cv : Value), vs = [cv, .int .i64 i] ∧ H = [bx g1 (.cells (msgV id an kn ow' cu wa ab cn s).cells 49 (0, 0)), ow EB 5 cv (headA m ++ cntN [ask.length, a1.length, a2.length, a3.length] i)] ∧ i ≤ 4) (fun vs => 4 - intAt vs 1) rfl rfl (List.Sublist.refl _)
    ⟨0, _, rfl, by subst hM; simp [headA, flag1, flag2, cntN], by omega⟩ ?_
  rintro _ _ w' ⟨i, cv, rfl, rfl, hi⟩
  have hhd := headA_len m
  have hcl := cnt_len [ask.length, a1.length, a2.length, a3.length] i
  have hcl2 : (headA m ++ cntN [ask.length, a1.length, a2.length, a3.length] i).length ≤ 100 := by rw [List.length_append]; omega
  by_cases hi4 : i < 4
  · have hcs := cnt_succ (L := [ask.length, a1.length, a2.length, a3.length]) (i := i) hi4
    rcases (by omega : i = 0 ∨ i = 1 ∨ i = 2 ∨ i = 3) with rfl | rfl | rfl | rfl
    · focus
        refine rsr ?_
        refine oy rfl (ybI rfl rfl rfl) ?_
        refine on ?_
        refine pn ?_
        refine rs_ ?_
        refine rcT rfl ?_
        refine rk ?_
        refine pn ?_
        refine rs_ ?_
        refine rb ?_
        refine rsr ?_
        refine oy rfl (yai rfl rfl (by omega) rfl) ?_
        refine oy rfl (yas rfl) ?_
        refine on ?_
        refine pn ?_
        refine rr ?_
        refine oy rfl (ymv rfl) ?_
        refine oy rfl (ymv rfl) ?_
        refine l0 ?_
        refine num_call 1 rfl rfl rfl hz (by simp) (by omega) (by omega) (by omega) (fun v9 w9 => ?_)
        refine oy rfl (yas rfl) ?_
        refine on ?_
        refine pbn ?_
        refine pn ?_
        refine rr ?_
        refine oy rfl (ybW rfl rfl rfl (by omega)) ?_
        refine oy rfl (ymv rfl) ?_
        refine on ?_
        refine pn ?_
        rotate_left
      exact round rfl rfl (List.Sublist.refl _) ⟨_ + 1, _, rfl, by rw [hcs]; simp [la, lb, lc, ld], by omega⟩ (by simp [intAt])
    · focus
        refine rsr ?_
        refine oy rfl (ybI rfl rfl rfl) ?_
        refine on ?_
        refine pn ?_
        refine rs_ ?_
        refine rcT rfl ?_
        refine rk ?_
        refine pn ?_
        refine rs_ ?_
        refine rb ?_
        refine rsr ?_
        refine oy rfl (yai rfl rfl (by omega) rfl) ?_
        refine oy rfl (yas rfl) ?_
        refine on ?_
        refine pn ?_
        refine rr ?_
        refine oy rfl (ymv rfl) ?_
        refine oy rfl (ymv rfl) ?_
        refine l0 ?_
        refine num_call 1 rfl rfl rfl hz (by simp) (by omega) (by omega) (by omega) (fun v9 w9 => ?_)
        refine oy rfl (yas rfl) ?_
        refine on ?_
        refine pbn ?_
        refine pn ?_
        refine rr ?_
        refine oy rfl (ybW rfl rfl rfl (by omega)) ?_
        refine oy rfl (ymv rfl) ?_
        refine on ?_
        refine pn ?_
        rotate_left
      exact round rfl rfl (List.Sublist.refl _) ⟨_ + 1, _, rfl, by rw [hcs]; simp [la, lb, lc, ld], by omega⟩ (by simp [intAt])
    · focus
        refine rsr ?_
        refine oy rfl (ybI rfl rfl rfl) ?_
        refine on ?_
        refine pn ?_
        refine rs_ ?_
        refine rcT rfl ?_
        refine rk ?_
        refine pn ?_
        refine rs_ ?_
        refine rb ?_
        refine rsr ?_
        refine oy rfl (yai rfl rfl (by omega) rfl) ?_
        refine oy rfl (yas rfl) ?_
        refine on ?_
        refine pn ?_
        refine rr ?_
        refine oy rfl (ymv rfl) ?_
        refine oy rfl (ymv rfl) ?_
        refine l0 ?_
        refine num_call 1 rfl rfl rfl hz (by simp) (by omega) (by omega) (by omega) (fun v9 w9 => ?_)
        refine oy rfl (yas rfl) ?_
        refine on ?_
        refine pbn ?_
        refine pn ?_
        refine rr ?_
        refine oy rfl (ybW rfl rfl rfl (by omega)) ?_
        refine oy rfl (ymv rfl) ?_
        refine on ?_
        refine pn ?_
        rotate_left
      exact round rfl rfl (List.Sublist.refl _) ⟨_ + 1, _, rfl, by rw [hcs]; simp [la, lb, lc, ld], by omega⟩ (by simp [intAt])
    · focus
        refine rsr ?_
        refine oy rfl (ybI rfl rfl rfl) ?_
        refine on ?_
        refine pn ?_
        refine rs_ ?_
        refine rcT rfl ?_
        refine rk ?_
        refine pn ?_
        refine rs_ ?_
        refine rb ?_
        refine rsr ?_
        refine oy rfl (yai rfl rfl (by omega) rfl) ?_
        refine oy rfl (yas rfl) ?_
        refine on ?_
        refine pn ?_
        refine rr ?_
        refine oy rfl (ymv rfl) ?_
        refine oy rfl (ymv rfl) ?_
        refine l0 ?_
        refine num_call 1 rfl rfl rfl hz (by simp) (by omega) (by omega) (by omega) (fun v9 w9 => ?_)
        refine oy rfl (yas rfl) ?_
        refine on ?_
        refine pbn ?_
        refine pn ?_
        refine rr ?_
        refine oy rfl (ybW rfl rfl rfl (by omega)) ?_
        refine oy rfl (ymv rfl) ?_
        refine on ?_
        refine pn ?_
        rotate_left
      exact round rfl rfl (List.Sublist.refl _) ⟨_ + 1, _, rfl, by rw [hcs]; simp [la, lb, lc, ld], by omega⟩ (by simp [intAt])
  · have hi0 : i = 4 := by omega
    subst hi0
    have hhn : headA m ++ cntN [ask.length, a1.length, a2.length, a3.length] 4 = headN m := by subst hM; rfl
    rw [hhn] at hcl2 ⊢
    refine rsr ?_
    refine oy rfl (ybI rfl rfl rfl) ?_
    refine on ?_
    refine pn ?_
    refine rs_ ?_
    refine rcd rfl (fun c1 => by exfalso; omega) (fun c1 => ?_)
    refine re ?_
    refine pe ?_
    refine pe ?_
    refine pbe ?_
    refine pn ?_
    refine rsr ?_
    refine oy rfl (ybd rfl rfl) ?_
    refine l0 ?_
    refine obx rfl rfl (fun g2 w2 l2 => ?_)
    refine oy rfl (yas rfl) ?_
    refine on ?_
    refine pn ?_
    refine wperm (List.reverse_perm [_, _, _]) ?_
    refine weaken (e0 := [(1, .pointer (some ⟨g1, 0, none⟩)), (5, cv), (8, .pointer (some ⟨g2, 0, none⟩))]) (sub_cons.2 ⟨rfl, sub_cons.2 ⟨rfl, sub_cons.2 ⟨rfl, sub_nil⟩⟩⟩) (List.Sublist.refl _) ?_
    subst hM
    exact PutTail1 (ask := ask) (a1 := a1) (a2 := a2) (a3 := a3) hz he hI.a hI.b hI.c hI.d hqs hrs (by omega) (by omega) hB.q hB.r (by omega) rfl
theorem Put_spec (m : Msg) (s : MsgS) (w : World) (hI : MsgIn w m s) (hB : MsgB m) (hz : Zw w) : Spec Tryd.prog 26 [m.val s].toArray w (PutK m w) := by
  by_cases he : msgErr m = 0
  · have hin : okNums m = true ∧ m.ask.all okQ = true ∧ m.all.all rightRec = true ∧ m.ask.length + m.all.length ≤ 300 := by
      unfold msgErr at he
      split at he
      · cases he
      · rename_i h1
        split at he
        · rename_i h2
          simp only [Bool.and_eq_true] at h2
          exact ⟨h2.1.1, h2.1.2, h2.2, by omega⟩
        · cases he
    obtain ⟨hnum, hqs, hrs, hsum⟩ := hin
    obtain ⟨id, an, ki, ow', cu, wa, ab, co, ask, a1, a2, a3⟩ := m
    simp only [okNums, Bool.and_eq_true, decide_eq_true_eq] at hnum
    obtain ⟨⟨hid, hki⟩, hco⟩ := hnum
    obtain ⟨id, rfl⟩ := Int.eq_ofNat_of_zero_le hid.1
    obtain ⟨kn, rfl⟩ := Int.eq_ofNat_of_zero_le hki.1
    obtain ⟨cn, rfl⟩ := Int.eq_ofNat_of_zero_le hco.1
    exact PutOk s w hI hB hz he (by omega) (by omega) (by omega) hqs hrs hsum
  · refine Spec.intro Tryd.func26 rfl rfl (Nat.le_of_ble_eq_true rfl) (Mok.start w) ?_
    focus
      refine rsr ?_
      refine l0 ?_
      refine obx rfl rfl (fun g1 w1 l1 => ?_)
      refine oy rfl (yas rfl) ?_
      refine oy rfl (yas rfl) ?_
      refine on ?_
      refine pn ?_
      refine rs_ ?_
      refine rsr ?_
      refine oy rfl (ylS 0 rfl rfl rfl) ?_
      refine l0 ?_
      refine ocd rfl rfl (fun hM => check_spec m s _ (hI.e0 hM.ext) hB (hM.zw hz (by simp))) (fun w2 => ?_)
      refine oy rfl (yas rfl) ?_
      refine on ?_
      refine pn ?_
      refine rsr ?_
      refine oy rfl (ymv rfl) ?_
      refine oy rfl (ybI rfl rfl rfl) ?_
      refine on ?_
      refine pn ?_
      refine rcd rfl (fun c3 => ?_) (fun c3 => by exfalso; omega)
      refine rsr ?_
      refine oy rfl (ymv rfl) ?_
      refine oy rfl (yas rfl) ?_
      refine oy rfl (yas rfl) ?_
      refine on ?_
      refine pn ?_
      refine rt ?_
      refine pr ?_
      refine ret_ rfl (fun hM => ?_)
      rotate_left
    unfold PutK
    refine ⟨hM.ext, .slice none 0 0, ?_, ?_⟩
    · simp only [putN, if_neg he, ret1]
    · simp only [putN, if_neg he]; exact Own.nil ..
end Go.Proofs.YtkhlmpkodjoioaaDoor
