/- Messages: the document's Put: its calls. -/
import Derived.Test.YtkhlmpkodjoioaaDoorN21
set_option linter.unusedVariables false
set_option linter.unusedSimpArgs false
set_option maxRecDepth 100000
set_option maxHeartbeats 8000000
namespace Go.Proofs.YtkhlmpkodjoioaaDoor
theorem numberI_spec (z k : Int) (w : World) (hz : 0 ≤ z ∧ z ≤ 4611686018427387904) (hk : 0 ≤ k ∧ k ≤ 8) : Spec Tryd.prog 49 [.int .i64 z, .int .i64 k].toArray w (fun v w' => Ext [] w w' ∧ v = .string (sOf (beN z.toNat k.toNat))) := by
  have e1 : z = (z.toNat : Nat) := by omega
  have e2 : k = (k.toNat : Nat) := by omega
  have h := number_spec z.toNat k.toNat w (by omega) (by omega)
  rwa [← e1, ← e2] at h
theorem bitD_spec (b : Bool) (n : Nat) (w : World) : Spec Tryd.prog 50 [.bool b, .int .i64 n].toArray w (fun v w' => Ext [] w w' ∧ v = .int .i64 (bitM b n : Nat)) := by
  have h := bit18_spec b n w
  have e : bitN b n = (bitM b n : Nat) := by cases b <;> rfl
  rwa [e] at h
theorem all_spec (m : Msg) (s : MsgS) (w : World) (hI : MsgIn w m s) (hl : m.all.length ≤ 1000000) : Spec Tryd.prog 47 [m.val s].toArray w (fun v w' => Ext [] w w' ∧ Own ER w' w.heap.size 61 v m.all) := by
  refine Spec.intro Tryd.func47 rfl rfl (Nat.le_of_ble_eq_true rfl) (Mok.start w) ?_
  unfold Msg.all at hl
  simp only [List.length_append] at hl
  focus
    refine rsr ?_
    refine l0 ?_
    refine obx rfl rfl (fun g1 w1 l1 => ?_)
    refine oy rfl (yas rfl) ?_
    refine on ?_
    refine pn ?_
    refine rs_ ?_
    refine rd [bx g1 (.cells (m.val s).cells 46 (0, 0))] rfl ?_
    refine dt (i := 1) rfl (by decide +kernel) (List.Sublist.refl _) rfl (fun _ ha => g0 ha) (yfa rfl) ?_
    refine dt (i := 2) rfl (by decide +kernel) (List.Sublist.refl _) rfl (fun _ ha => g0 ha) (yld 0 rfl rfl rfl) ?_
    refine dt (i := 4) rfl (by decide +kernel) (List.Sublist.refl _) rfl (fun _ ha => g0 ha) (yfa rfl) ?_
    refine dt (i := 5) rfl (by decide +kernel) (List.Sublist.refl _) rfl (fun _ ha => g0 ha) (yld 0 rfl rfl rfl) ?_
    refine dt (i := 7) rfl (by decide +kernel) (List.Sublist.refl _) rfl (fun _ ha => g0 ha) (yfa rfl) ?_
    refine dt (i := 8) rfl (by decide +kernel) (List.Sublist.refl _) rfl (fun _ ha => g0 ha) (yld 0 rfl rfl rfl) ?_
    refine d1 (i := 0) (by decide +kernel) rfl ?_
    refine wz ?_
    refine oli ER [] rfl rfl rfl rfl rfl (fun g7 w7 l7 => ?_)
    refine dg (by repeat (first | exact List.nil_sublist _ | apply List.Sublist.cons_cons | apply List.Sublist.cons)) ?_
    refine d1 (i := 3) (by decide +kernel) rfl ?_
    refine wz ?_
    refine oap 0 rfl rfl rfl rfl rfl (sl_arg hI.b rfl) (by (try simp only [List.length_append, List.length_take, List.length_drop, List.length_cons, List.length_nil]); omega) rfl (fun v3 w3 => ?_)
    refine dg (by repeat (first | exact List.nil_sublist _ | apply List.Sublist.cons_cons | apply List.Sublist.cons)) ?_
    refine d1 (i := 6) (by decide +kernel) rfl ?_
    refine wz ?_
    refine oap 0 rfl rfl rfl rfl rfl (sl_arg hI.c rfl) (by (try simp only [List.length_append, List.length_take, List.length_drop, List.length_cons, List.length_nil]); omega) rfl (fun v4 w4 => ?_)
    refine dg (by repeat (first | exact List.nil_sublist _ | apply List.Sublist.cons_cons | apply List.Sublist.cons)) ?_
    refine d1 (i := 9) (by decide +kernel) rfl ?_
    refine wz ?_
    refine oap 0 rfl rfl rfl rfl rfl (sl_arg hI.d rfl) (by (try simp only [List.length_append, List.length_take, List.length_drop, List.length_cons, List.length_nil]); omega) rfl (fun v5 w5 => ?_)
    refine dg (by repeat (first | exact List.nil_sublist _ | apply List.Sublist.cons_cons | apply List.Sublist.cons)) ?_
    refine dt (i := 10) rfl (by decide +kernel) (by repeat (first | exact List.nil_sublist _ | apply List.Sublist.cons_cons | apply List.Sublist.cons)) rfl (fun _ ha => g0 ha) (yas rfl) ?_
    refine de (by decide +kernel) ?_
    refine pn ?_
    refine rt ?_
    refine ret_ rfl (fun hM => ?_)
    rotate_left
  have := hM.owned 0 rfl
  exact ⟨hM.ext, by simpa [Msg.all, ret1] using this⟩
section
variable {n : Nat} {e : Env} {Q : Post} {K : Act → World → Prop} {S : List Nat} {w0 w : World} {H : List Hc} {d : Nat} {ty : TypeId} {ps : String} {af : Array Edge} {gd : Option (Nat × Bool)} {ar : Array Operand} {ts : Array TypeId}
theorem dput_call {lv : Value} {l : Pls} {b s : List UInt8} (i : Nat) (hd : Nat.ble (d + 1) n = true) (ha : evs e ar.toList = some [lv, .string (sOf b), .string (sOf s)]) (hi : H[i]? = some (ow EK 81 lv l)) (hz : Zw w0) (h0 : 0 ∉ S) (hl : (labels s).isSome = true) (hs : s.length ≤ 4294967280) (hb : b.length ≤ 1000000000) (hll : l.length ≤ 1000000000)
    (h : ∀ lv' w', WK n K ((d, .tuple #[lv', .string (sOf (dputN l b (labsOf s)).2), .int .i64 0]) :: e) ⟨S, w0, H.set i (ow EK 81 lv' (dputN l b (labsOf s)).1)⟩ w') :
    WK n (wo Tryd.prog Q ⟨some d, .call { callee := .value (.func 14), args := ar, argTypes := ts }, ty, ps, af, gd⟩ K) e ⟨S, w0, H⟩ w := by
  obtain ⟨l1, hl1⟩ := Option.isSome_iff_exists.1 hl
  have e1 : labsOf s = l1 := by unfold labsOf; rw [hl1]; rfl
  rw [e1] at h
  exact oce (R := fun v' c' => ∃ lv', v' = .tuple #[lv', .string (sOf (dputN l b l1).2), .int .i64 0] ∧ c' = ow EK 81 lv' (dputN l b l1).1) i hd ha hi hz h0 (fun hE => DocPut17_spec w hl1 hE hs hb hll)
    (fun v' c' w' ⟨lv', h1, h2⟩ => by subst h1 h2; exact ⟨rfl, h lv' w'⟩)
end
theorem dputN_len : ∀ (parts : List (List UInt8)) (l : Pls) (b : List UInt8), (dputN l b parts).1.length ≤ l.length + parts.length
  | [], l, b => Nat.le_refl _
  | p :: r, l, b => by
    cases h : dget l (dots (p :: r)) with
    | none =>
      rw [dput_none h]
      have := dputN_len r (l ++ [(dots (p :: r), b.length)]) (b ++ enc1 p)
      simp only [List.length_append, List.length_cons, List.length_nil] at this ⊢
      omega
    | some a => rw [dput_hit h]; simp
/-- The doc's last part: the records. -/
theorem DocTail2 {id ki co : Int} {an ow' cu wa ab : Bool} {s : MsgS} {m : Msg} {w0 w : World} {g1 : Nat} {lv rv : Value} {l : Pls} {tq : Tab × List UInt8} {all : List Rec} (hz : Zw w0) (he : msgErr m = 0) (hrs : all.all rightRec = true) (hl3 : all.length ≤ 300)
    (hB : ∀ r ∈ all, r.name.length ≤ 4294967280 ∧ r.data.length ≤ 4294967280) (hP : PInv l tq.1 tq.2) (hlen : tq.2.length ≤ 100000) (hpl : l.length ≤ 100000) (hbody : (all.foldl putR tq).2 = bodyN m) :
    WP Tryd.prog Tryd.f24.ntmps (tl 10 (bodyOf Tryd.f24)) (RetQ Tryd.prog Tryd.f24 (fun v w' => Ext [] w0 w' ∧ v = wire2 (putN m))) [(1, .pointer (some ⟨g1, 0, none⟩)), (4, rv), (7, .string (sOf tq.2)), (8, lv)]
      ⟨[], w0, [ow EK 81 lv l, ow ER 61 rv all, bx g1 (.cells (msgV id an ki ow' cu wa ab co s).cells 46 (0, 0))]⟩ w := by
  focus
    refine rs_ ?_
    refine rsr ?_
    refine oy rfl (yas rfl) ?_
    refine on ?_
    refine pn ?_
    refine rb ?_
    rotate_left
  refine loop [7, 8, 13] [1, 4] (fun vs H => ∃ (i : Nat) (lv : Value) (l : Pls), vs = [.string (sOf ((all.take i).foldl putR tq).2), lv, .int .i64 i] ∧ H = [ow EK 81 lv l, ow ER 61 rv all] ∧ i ≤ all.length ∧
      PInv l ((all.take i).foldl putR tq).1 ((all.take i).foldl putR tq).2 ∧ ((all.take i).foldl putR tq).2.length ≤ 100000 + 2000 * i ∧ l.length ≤ 100000 + 300 * i) (fun vs => all.length - intAt vs 2) rfl rfl (List.Sublist.cons_cons _ (List.Sublist.cons_cons _ (List.nil_sublist _))) ⟨0, lv, l, rfl, rfl, by omega, hP, hlen, hpl⟩ ?_
  rintro _ _ w' ⟨i, lv, l, rfl, rfl, hi, hP, hlen, hpl⟩
  by_cases hil : i < all.length
  · have hr : rightRec all[i] = true := List.all_eq_true.1 hrs _ (List.getElem_mem hil)
    have hrn := hB all[i] (List.getElem_mem hil)
    simp only [rightRec, Bool.and_eq_true, decide_eq_true_eq] at hr
    obtain ⟨⟨hr1, hr2⟩, -⟩ := hr
    have hstep : (all.take (i + 1)).foldl putR tq = putR ((all.take i).foldl putR tq) all[i] := by
      rw [List.take_succ_eq_append_getElem hil, List.foldl_append]; rfl
    have htl := tputN_len (labsOf all[i].name) ((all.take i).foldl putR tq).1 ((all.take i).foldl putR tq).2
    have hll := labsOf_len all[i].name
    generalize (all.take i).foldl putR tq = tr at *
    obtain ⟨hd2, hP'⟩ := dput_eq (labsOf all[i].name) l tr.1 tr.2 hP
    have hdl := dputN_len (labsOf all[i].name) l tr.2
    have hl2 : (labsOf all[i].name).length ≤ (dots (labsOf all[i].name)).length := by rw [dots_len]; omega
    have hd3 := congrArg List.length hd2
    focus
      refine rs_ ?_
      refine rsr ?_
      refine oy rfl (ymv rfl) ?_
      refine oy rfl (ymv rfl) ?_
      refine oy rfl (yls rfl (sl_own 1 rfl)) ?_
      refine oy rfl (ybI rfl rfl rfl) ?_
      refine on ?_
      refine pn ?_
      refine rcd rfl (fun c1 => ?_) (fun c1 => by exfalso; omega)
      refine rk ?_
      refine pn ?_
      refine rs_ ?_
      refine rb ?_
      refine rsr ?_
      refine oy rfl (ymv rfl) ?_
      refine oy rfl (ymv rfl) ?_
      refine oy rfl (ymv rfl) ?_
      refine oy rfl (ymv rfl) ?_
      refine oy rfl (yix rfl rfl rfl (sl_own 1 rfl) (by omega)) ?_
      refine oy rfl (yfe rfl rfl (sl_own 1 rfl) (by omega)) ?_
      refine oy rfl (ylfN rfl rfl (sl_own 1 rfl) (by omega) rfl) ?_
      refine l0 ?_
      refine dput_call 0 rfl rfl rfl hz (by simp) hr1 (by omega) (by omega) (by omega) (fun v8 w8 => ?_)
      refine oy rfl (ymv rfl) ?_
      refine oy rfl (yex rfl rfl) ?_
      refine oy rfl (yex rfl rfl) ?_
      refine oy rfl (yex rfl rfl) ?_
      refine oy rfl (yas rfl) ?_
      refine oy rfl (yas rfl) ?_
      refine oy rfl (yas rfl) ?_
      refine on ?_
      refine pn ?_
      refine rq rfl (by decide +kernel) ?_
      refine qy rfl (ymv rfl) ?_
      refine qy rfl (ymv rfl) ?_
      refine qy rfl (ymv rfl) ?_
      refine qy rfl (ymv rfl) ?_
      refine qy rfl (yix rfl rfl rfl (sl_own 1 rfl) (by omega)) ?_
      refine qy rfl (yfe rfl rfl (sl_own 1 rfl) (by omega)) ?_
      refine qy rfl (ylfN rfl rfl (sl_own 1 rfl) (by omega) rfl) ?_
      refine qc rfl rfl (fun _ hM => numberI_spec _ _ _ (by omega) (by omega)) ?_
      refine qy rfl (yba rfl rfl (by simp only [List.length_append, beN_len, List.length_cons, List.length_nil]; omega)) ?_
      refine qc rfl rfl (fun _ hM => numberI_spec _ _ _ (by omega) (by omega)) ?_
      refine qy rfl (yba rfl rfl (by simp only [List.length_append, beN_len, List.length_cons, List.length_nil]; omega)) ?_
      refine qy rfl (ymv rfl) ?_
      refine qy rfl (ymv rfl) ?_
      refine qy rfl (yix rfl rfl rfl (sl_own 1 rfl) (by omega)) ?_
      refine qy rfl (yfe rfl rfl (sl_own 1 rfl) (by omega)) ?_
      refine qy rfl (ylfN rfl rfl (sl_own 1 rfl) (by omega) rfl) ?_
      refine qc rfl rfl (fun _ hM => numberI_spec _ _ _ (by omega) (by omega)) ?_
      refine qy rfl (yba rfl rfl (by simp only [List.length_append, beN_len, List.length_cons, List.length_nil]; omega)) ?_
      refine qy rfl (ymv rfl) ?_
      refine qy rfl (ymv rfl) ?_
      refine qy rfl (yix rfl rfl rfl (sl_own 1 rfl) (by omega)) ?_
      refine qy rfl (yfe rfl rfl (sl_own 1 rfl) (by omega)) ?_
      refine qy rfl (ylfN rfl rfl (sl_own 1 rfl) (by omega) rfl) ?_
      refine qy rfl (yln rfl) ?_
      refine qc rfl rfl (fun _ hM => numberI_spec _ _ _ (by omega) (by omega)) ?_
      refine qy rfl (yba rfl rfl (by simp only [List.length_append, beN_len, List.length_cons, List.length_nil]; omega)) ?_
      refine qy rfl (ymv rfl) ?_
      refine qy rfl (ymv rfl) ?_
      refine qy rfl (yix rfl rfl rfl (sl_own 1 rfl) (by omega)) ?_
      refine qy rfl (yfe rfl rfl (sl_own 1 rfl) (by omega)) ?_
      refine qy rfl (ylfN rfl rfl (sl_own 1 rfl) (by omega) rfl) ?_
      refine qy rfl (yba rfl rfl (by simp only [List.length_append, beN_len, List.length_cons, List.length_nil]; omega)) ?_
      refine qy rfl (yas rfl) ?_
      refine qy rfl (yas rfl) ?_
      refine qend (fun w3 => ?_)
      refine pbn ?_
      refine pn ?_
      refine rr ?_
      refine oy rfl (ymv rfl) ?_
      refine oy rfl (ybW rfl rfl rfl (by omega)) ?_
      refine oy rfl (yas rfl) ?_
      refine on ?_
      refine pn ?_
      rotate_left
    refine round rfl rfl (List.Sublist.refl _) ⟨i + 1, _, _, ?_, rfl, by omega, ?_, ?_, by omega⟩ (show all.length - (i + 1) < all.length - i by omega)
    · rw [hstep, hd2]; rfl
    · rw [hstep]
      refine ⟨hP'.eq, fun p hp => ?_⟩
      have := hP'.le p hp
      simp only [putR, List.length_append]
      omega
    · rw [hstep]
      simp only [putR, List.length_append, beN_len]
      omega
  · have h0 : all.take i = all := List.take_of_length_le (by omega)
    rw [h0] at hP hlen ⊢
    focus
      refine rs_ ?_
      refine rsr ?_
      refine oy rfl (ymv rfl) ?_
      refine oy rfl (ymv rfl) ?_
      refine oy rfl (yls rfl (sl_own 1 rfl)) ?_
      refine oy rfl (ybI rfl rfl rfl) ?_
      refine on ?_
      refine pn ?_
      refine rcd rfl (fun c1 => by exfalso; omega) (fun c1 => ?_)
      refine re ?_
      refine pe ?_
      refine pe ?_
      refine pbe ?_
      refine pn ?_
      refine rs_ ?_
      refine rsr ?_
      refine oy rfl (ymv rfl) ?_
      refine oy rfl (yln rfl) ?_
      refine oy rfl (ybI rfl rfl rfl) ?_
      refine on ?_
      refine pn ?_
      refine rcd rfl (fun c2 => ?_) (fun c2 => ?_)
      refine rsr ?_
      refine oy rfl (yas rfl) ?_
      refine oy rfl (yas rfl) ?_
      refine on ?_
      refine pn ?_
      refine rt ?_
      refine pr ?_
      refine ret_ rfl (fun hM => ?_)
      rotate_left
      refine rk ?_
      refine pn ?_
      refine rsr ?_
      refine oy rfl (ymv rfl) ?_
      refine oy rfl (yas rfl) ?_
      refine oy rfl (yas rfl) ?_
      refine on ?_
      refine pn ?_
      refine rt ?_
      refine ret_ rfl (fun hM => ?_)
      rotate_left
    · have hp : putN m = ([], 5) := by
        unfold putN; rw [if_pos he, if_pos (by rw [← hbody]; omega)]
      rw [hp]
      exact ⟨hM.ext, rfl⟩
    · have hp : putN m = (bodyN m, 0) := by
        unfold putN; rw [if_pos he, if_neg (by rw [← hbody]; omega)]
      rw [hp, ← hbody]
      exact ⟨hM.ext, rfl⟩
end Go.Proofs.YtkhlmpkodjoioaaDoor
