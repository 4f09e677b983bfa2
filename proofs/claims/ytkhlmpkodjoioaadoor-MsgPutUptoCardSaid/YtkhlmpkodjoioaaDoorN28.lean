/- Messages: the program's own, out of the document's: lists of its own. The region draws its order: each state that it may come to, once (printed by a program of this repo). -/
import Derived.Test.YtkhlmpkodjoioaaDoorN27
set_option linter.unusedVariables false
set_option linter.unusedSimpArgs false
set_option maxRecDepth 100000
set_option maxHeartbeats 8000000
namespace Go.Proofs.YtkhlmpkodjoioaaDoor
variable {w : World}
theorem Mok.pick {S : List Nat} {w0 : World} {H H0 : List Hc} (h : Mok ⟨S, w0, H⟩ w) (idx : List Nat) (hn : idx.Nodup) (hi : idx.map (fun i => H[i]?) = H0.map some) : Mok ⟨S, w0, H0⟩ w := by
  have key : ∀ (j : Nat) c, H0[j]? = some c → ∃ i, idx[j]? = some i ∧ H[i]? = some c := fun j c hc => by
    have h1 := congrArg (·[j]?) hi
    simp only [List.getElem?_map, hc, Option.map_some] at h1
    obtain ⟨i, hi1, hi2⟩ := Option.map_eq_some_iff.1 h1
    exact ⟨i, hi1, hi2⟩
  refine ⟨h.ext, fun j c hc => ?_, fun j c hc => ?_, fun j k c d hc hd hne => ?_⟩
  · obtain ⟨i, _, h2⟩ := key j c hc; exact h.fact i c h2
  · obtain ⟨i, _, h2⟩ := key j c hc; exact h.own i c h2
  · obtain ⟨i, h1, h2⟩ := key j c hc
    obtain ⟨i', h1', h2'⟩ := key k d hd
    refine h.sep i i' c d h2 h2' fun he => hne ?_
    subst he
    obtain ⟨hj, ej⟩ := List.getElem?_eq_some_iff.1 h1
    obtain ⟨hk, ek⟩ := List.getElem?_eq_some_iff.1 h1'
    exact (List.getElem_inj hn).1 (ej.trans ek.symm)
theorem wpick {n : Nat} {K : Act → World → Prop} {e e0 : Env} {S : List Nat} {w0 : World} {H H0 : List Hc} (idx : List Nat) (hn : idx.Nodup) (hi : idx.map (fun i => H[i]?) = H0.map some) (hs : Sub e0 e) (h : WK n K e0 ⟨S, w0, H0⟩ w) : WK n K e ⟨S, w0, H⟩ w := by
  unfold WK at *
  exact fun hM a ha => h (hM.pick idx hn hi) a (ha.sub hs)
noncomputable abbrev toF := Tryd.f25
noncomputable def toN : Nat := toF.ntmps
noncomputable def toOps : Array Oper := match bodyOf toF with
  | .seq _ (.seq (.region _ ops _) _) => ops
  | _ => #[]
def zeroM : Array Value := #[.int .i64 0, .bool false, .int .i64 0, .bool false, .bool false, .bool false, .bool false, .int .i64 0, .slice none 0 0, .slice none 0 0, .slice none 0 0, .slice none 0 0]
def toK (m : Msg) (w0 : World) (v : Value) (w' : World) : Prop := ∃ H', Mok ⟨[], w0, H'⟩ w' ∧ ∃ s', v = m.val s' ∧ H' = [ow EQ 42 (EW.val s'.a) m.ask, ow ER 61 (EW.val s'.b) m.answers, ow ER 61 (EW.val s'.c) m.authority, ow ER 61 (EW.val s'.d) m.extra]
abbrev toQ (m : Msg) (w0 : World) : Post := Exit.then (cw Tryd.prog .ret (RetQ Tryd.prog toF (toK m w0))) (RetQ Tryd.prog toF (toK m w0))
theorem wfact {n : Nat} {K : Act → World → Prop} {e : Env} {M : Mem} {F : Prop} (hf : Mok M w → F) (h : F → WK n K e M w) : WK n K e M w := by
  unfold WK at *
  exact fun hM => h (hf hM) hM
theorem toEnd {v0 v1 v2 v3 : Value} {m : Msg} {s : MsgS} {w0 w : World} {g1 g2 : Nat} (hI : MsgIn w0 m s) :
    WK toN (wd Tryd.prog toOps (toQ m w0) ⟨[], w0, [bx g1 (.cells (m.val s).cells 46 (0, 0))]⟩ 2 #[true, true, true, true, true, true, true, true, true, true, true, true, true, true, true, true, true, true, true, true, true, true, true, true, true, true, true, true, true, true, true, true, false, false]) [(2, .pointer (some ⟨g2, 0, none⟩)), (4, .int .i64 m.id), (6, .bool m.answer), (8, .int .i64 m.kind), (10, .bool m.own), (12, .bool m.cut), (14, .bool m.wanted), (16, .bool m.able), (18, .int .i64 m.code), (21, EW.val s.a), (25, EW.val s.b), (29, EW.val s.c), (33, EW.val s.d), (22, v0), (26, v1), (30, v2), (34, v3)] ⟨[], w0, [ow EQ 42 v0 m.ask, ow ER 61 v1 m.answers, ow ER 61 v2 m.authority, ow ER 61 v3 m.extra, bx g2 (.cells zeroM 49 (0, 0)), bx g1 (.cells (m.val s).cells 46 (0, 0))]⟩ w := by
  refine wfact (F := (∃ p, v0 = EW.val p) ∧ (∃ p, v1 = EW.val p) ∧ (∃ p, v2 = EW.val p) ∧ (∃ p, v3 = EW.val p)) (fun hM => ⟨(sl_own 0 rfl _ hM).tri, (sl_own 1 rfl _ hM).tri, (sl_own 2 rfl _ hM).tri, (sl_own 3 rfl _ hM).tri⟩) ?_
  rintro ⟨⟨p0, rfl⟩, ⟨p1, rfl⟩, ⟨p2, rfl⟩, ⟨p3, rfl⟩⟩
  focus
    refine dt (i := 32) rfl (by decide +kernel) (by repeat (first | exact List.nil_sublist _ | apply List.Sublist.cons_cons | apply List.Sublist.cons)) rfl (fun _ ha => g0 ha) (ybd (cells := #[.int .i64 m.id, .bool m.answer, .int .i64 m.kind, .bool m.own, .bool m.cut, .bool m.wanted, .bool m.able, .int .i64 m.code, EW.val p0, EW.val p1, EW.val p2, EW.val p3]) rfl (by kernel_rfl)) ?_
    refine d1 (i := 33) (by decide +kernel) rfl ?_
    refine wz ?_
    refine osts 4 rfl rfl rfl rfl rfl rfl (fun w1 => ?_)
    refine dg (by repeat (first | exact List.nil_sublist _ | apply List.Sublist.cons_cons | apply List.Sublist.cons)) ?_
    refine de (by decide +kernel) ?_
    refine pn ?_
    refine rt ?_
    rotate_left
  refine retc (x := .ret) 4 rfl rfl rfl rfl (fun hM => ?_)
  exact ⟨_, hM.sub (List.Sublist.cons_cons _ (List.Sublist.cons_cons _ (List.Sublist.cons_cons _ (List.Sublist.cons_cons _ (List.nil_sublist _))))), ⟨p0, p1, p2, p3⟩, rfl, rfl⟩
theorem toS4_n {v0 v1 v2 v3 : Value} {m : Msg} {s : MsgS} {w0 w : World} {g1 g2 : Nat} (hI : MsgIn w0 m s) (hl : m.ask.length ≤ 320 ∧ m.answers.length ≤ 320 ∧ m.authority.length ≤ 320 ∧ m.extra.length ≤ 320) :
    WK toN (wd Tryd.prog toOps (toQ m w0) ⟨[], w0, [bx g1 (.cells (m.val s).cells 46 (0, 0))]⟩ 2 #[true, true, true, true, true, true, true, true, true, true, true, true, true, true, true, true, true, true, true, true, true, true, true, true, true, true, true, true, true, true, true, true, false, false]) [(2, .pointer (some ⟨g2, 0, none⟩)), (4, .int .i64 m.id), (6, .bool m.answer), (8, .int .i64 m.kind), (10, .bool m.own), (12, .bool m.cut), (14, .bool m.wanted), (16, .bool m.able), (18, .int .i64 m.code), (21, EW.val s.a), (25, EW.val s.b), (29, EW.val s.c), (33, EW.val s.d), (22, v0), (26, v1), (30, v2), (34, v3)] ⟨[], w0, [ow EQ 42 v0 m.ask, ow ER 61 v1 m.answers, ow ER 61 v2 m.authority, ow ER 61 v3 m.extra, bx g2 (.cells zeroM 49 (0, 0)), bx g1 (.cells (m.val s).cells 46 (0, 0))]⟩ w := by
  exact toEnd hI
theorem toS3_3 {v0 v1 v2 u3 : Value} {m : Msg} {s : MsgS} {w0 w : World} {g1 g2 : Nat} (hI : MsgIn w0 m s) (hl : m.ask.length ≤ 320 ∧ m.answers.length ≤ 320 ∧ m.authority.length ≤ 320 ∧ m.extra.length ≤ 320) :
    WK toN (wd Tryd.prog toOps (toQ m w0) ⟨[], w0, [bx g1 (.cells (m.val s).cells 46 (0, 0))]⟩ 3 #[true, true, true, true, true, true, true, true, true, true, true, true, true, true, true, true, true, true, true, true, true, true, true, true, true, true, true, true, true, true, true, false, false, false]) [(2, .pointer (some ⟨g2, 0, none⟩)), (4, .int .i64 m.id), (6, .bool m.answer), (8, .int .i64 m.kind), (10, .bool m.own), (12, .bool m.cut), (14, .bool m.wanted), (16, .bool m.able), (18, .int .i64 m.code), (21, EW.val s.a), (25, EW.val s.b), (29, EW.val s.c), (33, EW.val s.d), (22, v0), (26, v1), (30, v2), (31, u3)] ⟨[], w0, [ow EQ 42 v0 m.ask, ow ER 61 v1 m.answers, ow ER 61 v2 m.authority, ow ER 61 u3 [], bx g2 (.cells zeroM 49 (0, 0)), bx g1 (.cells (m.val s).cells 46 (0, 0))]⟩ w := by
  refine da (rs := [31]) (by decide +kernel) rfl (fun i hi => ?_)
  simp only [List.mem_cons, List.mem_nil_iff, or_false] at hi
  subst hi
  · refine ⟨_, rfl, ?_⟩
    refine wz ?_
    refine oap 3 rfl rfl rfl rfl rfl (sl_arg hI.d rfl) (by simp only [List.length_nil]; omega) rfl (fun v w1 => ?_)
    refine dg (List.Sublist.cons _ (List.Sublist.cons _ (List.Sublist.cons _ (List.Sublist.cons _ (List.Sublist.cons _ (List.Sublist.refl _)))))) ?_
    exact wpick [0, 1, 2, 3, 4, 5] (by decide) rfl (sub_cons.2 ⟨rfl, sub_cons.2 ⟨rfl, sub_cons.2 ⟨rfl, sub_cons.2 ⟨rfl, sub_cons.2 ⟨rfl, sub_cons.2 ⟨rfl, sub_cons.2 ⟨rfl, sub_cons.2 ⟨rfl, sub_cons.2 ⟨rfl, sub_cons.2 ⟨rfl, sub_cons.2 ⟨rfl, sub_cons.2 ⟨rfl, sub_cons.2 ⟨rfl, sub_cons.2 ⟨rfl, sub_cons.2 ⟨rfl, sub_cons.2 ⟨rfl, sub_cons.2 ⟨rfl, sub_nil⟩⟩⟩⟩⟩⟩⟩⟩⟩⟩⟩⟩⟩⟩⟩⟩⟩) (toS4_n hI hl)
theorem toS3_n {v0 v1 v2 : Value} {m : Msg} {s : MsgS} {w0 w : World} {g1 g2 : Nat} (hI : MsgIn w0 m s) (hl : m.ask.length ≤ 320 ∧ m.answers.length ≤ 320 ∧ m.authority.length ≤ 320 ∧ m.extra.length ≤ 320) :
    WK toN (wd Tryd.prog toOps (toQ m w0) ⟨[], w0, [bx g1 (.cells (m.val s).cells 46 (0, 0))]⟩ 4 #[true, true, true, true, true, true, true, true, true, true, true, true, true, true, true, true, true, true, true, true, true, true, true, true, true, true, true, true, false, true, true, false, false, false]) [(2, .pointer (some ⟨g2, 0, none⟩)), (4, .int .i64 m.id), (6, .bool m.answer), (8, .int .i64 m.kind), (10, .bool m.own), (12, .bool m.cut), (14, .bool m.wanted), (16, .bool m.able), (18, .int .i64 m.code), (21, EW.val s.a), (25, EW.val s.b), (29, EW.val s.c), (33, EW.val s.d), (22, v0), (26, v1), (30, v2)] ⟨[], w0, [ow EQ 42 v0 m.ask, ow ER 61 v1 m.answers, ow ER 61 v2 m.authority, bx g2 (.cells zeroM 49 (0, 0)), bx g1 (.cells (m.val s).cells 46 (0, 0))]⟩ w := by
  refine da (rs := [28]) (by decide +kernel) rfl (fun i hi => ?_)
  simp only [List.mem_cons, List.mem_nil_iff, or_false] at hi
  subst hi
  · refine ⟨_, rfl, ?_⟩
    refine wz ?_
    refine oli ER [] rfl rfl rfl rfl rfl (fun g w1 l => ?_)
    refine dg (List.Sublist.cons _ (List.Sublist.cons _ (List.Sublist.cons _ (List.Sublist.cons _ (List.Sublist.cons _ (List.Sublist.refl _)))))) ?_
    exact wpick [1, 2, 3, 0, 4, 5] (by decide) rfl (sub_cons.2 ⟨rfl, sub_cons.2 ⟨rfl, sub_cons.2 ⟨rfl, sub_cons.2 ⟨rfl, sub_cons.2 ⟨rfl, sub_cons.2 ⟨rfl, sub_cons.2 ⟨rfl, sub_cons.2 ⟨rfl, sub_cons.2 ⟨rfl, sub_cons.2 ⟨rfl, sub_cons.2 ⟨rfl, sub_cons.2 ⟨rfl, sub_cons.2 ⟨rfl, sub_cons.2 ⟨rfl, sub_cons.2 ⟨rfl, sub_cons.2 ⟨rfl, sub_cons.2 ⟨rfl, sub_nil⟩⟩⟩⟩⟩⟩⟩⟩⟩⟩⟩⟩⟩⟩⟩⟩⟩) (toS3_3 hI hl)
theorem toS2_23 {v0 v1 u2 u3 : Value} {m : Msg} {s : MsgS} {w0 w : World} {g1 g2 : Nat} (hI : MsgIn w0 m s) (hl : m.ask.length ≤ 320 ∧ m.answers.length ≤ 320 ∧ m.authority.length ≤ 320 ∧ m.extra.length ≤ 320) :
    WK toN (wd Tryd.prog toOps (toQ m w0) ⟨[], w0, [bx g1 (.cells (m.val s).cells 46 (0, 0))]⟩ 4 #[true, true, true, true, true, true, true, true, true, true, true, true, true, true, true, true, true, true, true, true, true, true, true, true, true, true, true, false, true, true, true, false, false, false]) [(2, .pointer (some ⟨g2, 0, none⟩)), (4, .int .i64 m.id), (6, .bool m.answer), (8, .int .i64 m.kind), (10, .bool m.own), (12, .bool m.cut), (14, .bool m.wanted), (16, .bool m.able), (18, .int .i64 m.code), (21, EW.val s.a), (25, EW.val s.b), (29, EW.val s.c), (33, EW.val s.d), (22, v0), (26, v1), (27, u2), (31, u3)] ⟨[], w0, [ow EQ 42 v0 m.ask, ow ER 61 v1 m.answers, ow ER 61 u2 [], ow ER 61 u3 [], bx g2 (.cells zeroM 49 (0, 0)), bx g1 (.cells (m.val s).cells 46 (0, 0))]⟩ w := by
  refine da (rs := [27]) (by decide +kernel) rfl (fun i hi => ?_)
  simp only [List.mem_cons, List.mem_nil_iff, or_false] at hi
  subst hi
  · refine ⟨_, rfl, ?_⟩
    refine wz ?_
    refine oap 2 rfl rfl rfl rfl rfl (sl_arg hI.c rfl) (by simp only [List.length_nil]; omega) rfl (fun v w1 => ?_)
    refine dg (List.Sublist.cons _ (List.Sublist.cons _ (List.Sublist.cons _ (List.Sublist.cons _ (List.Sublist.cons _ (List.Sublist.refl _)))))) ?_
    exact wpick [0, 1, 2, 3, 4, 5] (by decide) rfl (sub_cons.2 ⟨rfl, sub_cons.2 ⟨rfl, sub_cons.2 ⟨rfl, sub_cons.2 ⟨rfl, sub_cons.2 ⟨rfl, sub_cons.2 ⟨rfl, sub_cons.2 ⟨rfl, sub_cons.2 ⟨rfl, sub_cons.2 ⟨rfl, sub_cons.2 ⟨rfl, sub_cons.2 ⟨rfl, sub_cons.2 ⟨rfl, sub_cons.2 ⟨rfl, sub_cons.2 ⟨rfl, sub_cons.2 ⟨rfl, sub_cons.2 ⟨rfl, sub_cons.2 ⟨rfl, sub_nil⟩⟩⟩⟩⟩⟩⟩⟩⟩⟩⟩⟩⟩⟩⟩⟩⟩) (toS3_3 hI hl)
theorem toS2_2 {v0 v1 u2 : Value} {m : Msg} {s : MsgS} {w0 w : World} {g1 g2 : Nat} (hI : MsgIn w0 m s) (hl : m.ask.length ≤ 320 ∧ m.answers.length ≤ 320 ∧ m.authority.length ≤ 320 ∧ m.extra.length ≤ 320) :
    WK toN (wd Tryd.prog toOps (toQ m w0) ⟨[], w0, [bx g1 (.cells (m.val s).cells 46 (0, 0))]⟩ 5 #[true, true, true, true, true, true, true, true, true, true, true, true, true, true, true, true, true, true, true, true, true, true, true, true, true, true, true, false, false, true, true, false, false, false]) [(2, .pointer (some ⟨g2, 0, none⟩)), (4, .int .i64 m.id), (6, .bool m.answer), (8, .int .i64 m.kind), (10, .bool m.own), (12, .bool m.cut), (14, .bool m.wanted), (16, .bool m.able), (18, .int .i64 m.code), (21, EW.val s.a), (25, EW.val s.b), (29, EW.val s.c), (33, EW.val s.d), (22, v0), (26, v1), (27, u2)] ⟨[], w0, [ow EQ 42 v0 m.ask, ow ER 61 v1 m.answers, ow ER 61 u2 [], bx g2 (.cells zeroM 49 (0, 0)), bx g1 (.cells (m.val s).cells 46 (0, 0))]⟩ w := by
  refine da (rs := [27, 28]) (by decide +kernel) rfl (fun i hi => ?_)
  simp only [List.mem_cons, List.mem_nil_iff, or_false] at hi
  rcases hi with rfl | rfl
  · refine ⟨_, rfl, ?_⟩
    refine wz ?_
    refine oap 2 rfl rfl rfl rfl rfl (sl_arg hI.c rfl) (by simp only [List.length_nil]; omega) rfl (fun v w1 => ?_)
    refine dg (List.Sublist.cons _ (List.Sublist.cons _ (List.Sublist.cons _ (List.Sublist.cons _ (List.Sublist.refl _))))) ?_
    exact wpick [0, 1, 2, 3, 4] (by decide) rfl (sub_cons.2 ⟨rfl, sub_cons.2 ⟨rfl, sub_cons.2 ⟨rfl, sub_cons.2 ⟨rfl, sub_cons.2 ⟨rfl, sub_cons.2 ⟨rfl, sub_cons.2 ⟨rfl, sub_cons.2 ⟨rfl, sub_cons.2 ⟨rfl, sub_cons.2 ⟨rfl, sub_cons.2 ⟨rfl, sub_cons.2 ⟨rfl, sub_cons.2 ⟨rfl, sub_cons.2 ⟨rfl, sub_cons.2 ⟨rfl, sub_cons.2 ⟨rfl, sub_nil⟩⟩⟩⟩⟩⟩⟩⟩⟩⟩⟩⟩⟩⟩⟩⟩) (toS3_n hI hl)
  · refine ⟨_, rfl, ?_⟩
    refine wz ?_
    refine oli ER [] rfl rfl rfl rfl rfl (fun g w1 l => ?_)
    refine dg (List.Sublist.cons _ (List.Sublist.cons _ (List.Sublist.cons _ (List.Sublist.cons _ (List.Sublist.cons _ (List.Sublist.refl _)))))) ?_
    exact wpick [1, 2, 3, 0, 4, 5] (by decide) rfl (sub_cons.2 ⟨rfl, sub_cons.2 ⟨rfl, sub_cons.2 ⟨rfl, sub_cons.2 ⟨rfl, sub_cons.2 ⟨rfl, sub_cons.2 ⟨rfl, sub_cons.2 ⟨rfl, sub_cons.2 ⟨rfl, sub_cons.2 ⟨rfl, sub_cons.2 ⟨rfl, sub_cons.2 ⟨rfl, sub_cons.2 ⟨rfl, sub_cons.2 ⟨rfl, sub_cons.2 ⟨rfl, sub_cons.2 ⟨rfl, sub_cons.2 ⟨rfl, sub_cons.2 ⟨rfl, sub_nil⟩⟩⟩⟩⟩⟩⟩⟩⟩⟩⟩⟩⟩⟩⟩⟩⟩) (toS2_23 hI hl)
theorem toS2_3 {v0 v1 u3 : Value} {m : Msg} {s : MsgS} {w0 w : World} {g1 g2 : Nat} (hI : MsgIn w0 m s) (hl : m.ask.length ≤ 320 ∧ m.answers.length ≤ 320 ∧ m.authority.length ≤ 320 ∧ m.extra.length ≤ 320) :
    WK toN (wd Tryd.prog toOps (toQ m w0) ⟨[], w0, [bx g1 (.cells (m.val s).cells 46 (0, 0))]⟩ 5 #[true, true, true, true, true, true, true, true, true, true, true, true, true, true, true, true, true, true, true, true, true, true, true, true, false, true, true, false, true, true, true, false, false, false]) [(2, .pointer (some ⟨g2, 0, none⟩)), (4, .int .i64 m.id), (6, .bool m.answer), (8, .int .i64 m.kind), (10, .bool m.own), (12, .bool m.cut), (14, .bool m.wanted), (16, .bool m.able), (18, .int .i64 m.code), (21, EW.val s.a), (25, EW.val s.b), (29, EW.val s.c), (33, EW.val s.d), (22, v0), (26, v1), (31, u3)] ⟨[], w0, [ow EQ 42 v0 m.ask, ow ER 61 v1 m.answers, ow ER 61 u3 [], bx g2 (.cells zeroM 49 (0, 0)), bx g1 (.cells (m.val s).cells 46 (0, 0))]⟩ w := by
  refine da (rs := [24]) (by decide +kernel) rfl (fun i hi => ?_)
  simp only [List.mem_cons, List.mem_nil_iff, or_false] at hi
  subst hi
  · refine ⟨_, rfl, ?_⟩
    refine wz ?_
    refine oli ER [] rfl rfl rfl rfl rfl (fun g w1 l => ?_)
    refine dg (List.Sublist.cons _ (List.Sublist.cons _ (List.Sublist.cons _ (List.Sublist.cons _ (List.Sublist.cons _ (List.Sublist.refl _)))))) ?_
    exact wpick [1, 2, 0, 3, 4, 5] (by decide) rfl (sub_cons.2 ⟨rfl, sub_cons.2 ⟨rfl, sub_cons.2 ⟨rfl, sub_cons.2 ⟨rfl, sub_cons.2 ⟨rfl, sub_cons.2 ⟨rfl, sub_cons.2 ⟨rfl, sub_cons.2 ⟨rfl, sub_cons.2 ⟨rfl, sub_cons.2 ⟨rfl, sub_cons.2 ⟨rfl, sub_cons.2 ⟨rfl, sub_cons.2 ⟨rfl, sub_cons.2 ⟨rfl, sub_cons.2 ⟨rfl, sub_cons.2 ⟨rfl, sub_cons.2 ⟨rfl, sub_nil⟩⟩⟩⟩⟩⟩⟩⟩⟩⟩⟩⟩⟩⟩⟩⟩⟩) (toS2_23 hI hl)
theorem toS2_n {v0 v1 : Value} {m : Msg} {s : MsgS} {w0 w : World} {g1 g2 : Nat} (hI : MsgIn w0 m s) (hl : m.ask.length ≤ 320 ∧ m.answers.length ≤ 320 ∧ m.authority.length ≤ 320 ∧ m.extra.length ≤ 320) :
    WK toN (wd Tryd.prog toOps (toQ m w0) ⟨[], w0, [bx g1 (.cells (m.val s).cells 46 (0, 0))]⟩ 6 #[true, true, true, true, true, true, true, true, true, true, true, true, true, true, true, true, true, true, true, true, true, true, true, true, false, true, true, false, false, true, true, false, false, false]) [(2, .pointer (some ⟨g2, 0, none⟩)), (4, .int .i64 m.id), (6, .bool m.answer), (8, .int .i64 m.kind), (10, .bool m.own), (12, .bool m.cut), (14, .bool m.wanted), (16, .bool m.able), (18, .int .i64 m.code), (21, EW.val s.a), (25, EW.val s.b), (29, EW.val s.c), (33, EW.val s.d), (22, v0), (26, v1)] ⟨[], w0, [ow EQ 42 v0 m.ask, ow ER 61 v1 m.answers, bx g2 (.cells zeroM 49 (0, 0)), bx g1 (.cells (m.val s).cells 46 (0, 0))]⟩ w := by
  refine da (rs := [24, 28]) (by decide +kernel) rfl (fun i hi => ?_)
  simp only [List.mem_cons, List.mem_nil_iff, or_false] at hi
  rcases hi with rfl | rfl
  · refine ⟨_, rfl, ?_⟩
    refine wz ?_
    refine oli ER [] rfl rfl rfl rfl rfl (fun g w1 l => ?_)
    refine dg (List.Sublist.cons _ (List.Sublist.cons _ (List.Sublist.cons _ (List.Sublist.cons _ (List.Sublist.refl _))))) ?_
    exact wpick [1, 2, 0, 3, 4] (by decide) rfl (sub_cons.2 ⟨rfl, sub_cons.2 ⟨rfl, sub_cons.2 ⟨rfl, sub_cons.2 ⟨rfl, sub_cons.2 ⟨rfl, sub_cons.2 ⟨rfl, sub_cons.2 ⟨rfl, sub_cons.2 ⟨rfl, sub_cons.2 ⟨rfl, sub_cons.2 ⟨rfl, sub_cons.2 ⟨rfl, sub_cons.2 ⟨rfl, sub_cons.2 ⟨rfl, sub_cons.2 ⟨rfl, sub_cons.2 ⟨rfl, sub_cons.2 ⟨rfl, sub_nil⟩⟩⟩⟩⟩⟩⟩⟩⟩⟩⟩⟩⟩⟩⟩⟩) (toS2_2 hI hl)
  · refine ⟨_, rfl, ?_⟩
    refine wz ?_
    refine oli ER [] rfl rfl rfl rfl rfl (fun g w1 l => ?_)
    refine dg (List.Sublist.cons _ (List.Sublist.cons _ (List.Sublist.cons _ (List.Sublist.cons _ (List.Sublist.refl _))))) ?_
    exact wpick [1, 2, 0, 3, 4] (by decide) rfl (sub_cons.2 ⟨rfl, sub_cons.2 ⟨rfl, sub_cons.2 ⟨rfl, sub_cons.2 ⟨rfl, sub_cons.2 ⟨rfl, sub_cons.2 ⟨rfl, sub_cons.2 ⟨rfl, sub_cons.2 ⟨rfl, sub_cons.2 ⟨rfl, sub_cons.2 ⟨rfl, sub_cons.2 ⟨rfl, sub_cons.2 ⟨rfl, sub_cons.2 ⟨rfl, sub_cons.2 ⟨rfl, sub_cons.2 ⟨rfl, sub_cons.2 ⟨rfl, sub_nil⟩⟩⟩⟩⟩⟩⟩⟩⟩⟩⟩⟩⟩⟩⟩⟩) (toS2_3 hI hl)
theorem toS1_123 {v0 u1 u2 u3 : Value} {m : Msg} {s : MsgS} {w0 w : World} {g1 g2 : Nat} (hI : MsgIn w0 m s) (hl : m.ask.length ≤ 320 ∧ m.answers.length ≤ 320 ∧ m.authority.length ≤ 320 ∧ m.extra.length ≤ 320) :
    WK toN (wd Tryd.prog toOps (toQ m w0) ⟨[], w0, [bx g1 (.cells (m.val s).cells 46 (0, 0))]⟩ 5 #[true, true, true, true, true, true, true, true, true, true, true, true, true, true, true, true, true, true, true, true, true, true, true, false, true, true, true, false, true, true, true, false, false, false]) [(2, .pointer (some ⟨g2, 0, none⟩)), (4, .int .i64 m.id), (6, .bool m.answer), (8, .int .i64 m.kind), (10, .bool m.own), (12, .bool m.cut), (14, .bool m.wanted), (16, .bool m.able), (18, .int .i64 m.code), (21, EW.val s.a), (25, EW.val s.b), (29, EW.val s.c), (33, EW.val s.d), (22, v0), (23, u1), (27, u2), (31, u3)] ⟨[], w0, [ow EQ 42 v0 m.ask, ow ER 61 u1 [], ow ER 61 u2 [], ow ER 61 u3 [], bx g2 (.cells zeroM 49 (0, 0)), bx g1 (.cells (m.val s).cells 46 (0, 0))]⟩ w := by
  refine da (rs := [23]) (by decide +kernel) rfl (fun i hi => ?_)
  simp only [List.mem_cons, List.mem_nil_iff, or_false] at hi
  subst hi
  · refine ⟨_, rfl, ?_⟩
    refine wz ?_
    refine oap 1 rfl rfl rfl rfl rfl (sl_arg hI.b rfl) (by simp only [List.length_nil]; omega) rfl (fun v w1 => ?_)
    refine dg (List.Sublist.cons _ (List.Sublist.cons _ (List.Sublist.cons _ (List.Sublist.cons _ (List.Sublist.cons _ (List.Sublist.refl _)))))) ?_
    exact wpick [0, 1, 2, 3, 4, 5] (by decide) rfl (sub_cons.2 ⟨rfl, sub_cons.2 ⟨rfl, sub_cons.2 ⟨rfl, sub_cons.2 ⟨rfl, sub_cons.2 ⟨rfl, sub_cons.2 ⟨rfl, sub_cons.2 ⟨rfl, sub_cons.2 ⟨rfl, sub_cons.2 ⟨rfl, sub_cons.2 ⟨rfl, sub_cons.2 ⟨rfl, sub_cons.2 ⟨rfl, sub_cons.2 ⟨rfl, sub_cons.2 ⟨rfl, sub_cons.2 ⟨rfl, sub_cons.2 ⟨rfl, sub_cons.2 ⟨rfl, sub_nil⟩⟩⟩⟩⟩⟩⟩⟩⟩⟩⟩⟩⟩⟩⟩⟩⟩) (toS2_23 hI hl)
theorem toS1_12 {v0 u1 u2 : Value} {m : Msg} {s : MsgS} {w0 w : World} {g1 g2 : Nat} (hI : MsgIn w0 m s) (hl : m.ask.length ≤ 320 ∧ m.answers.length ≤ 320 ∧ m.authority.length ≤ 320 ∧ m.extra.length ≤ 320) :
    WK toN (wd Tryd.prog toOps (toQ m w0) ⟨[], w0, [bx g1 (.cells (m.val s).cells 46 (0, 0))]⟩ 6 #[true, true, true, true, true, true, true, true, true, true, true, true, true, true, true, true, true, true, true, true, true, true, true, false, true, true, true, false, false, true, true, false, false, false]) [(2, .pointer (some ⟨g2, 0, none⟩)), (4, .int .i64 m.id), (6, .bool m.answer), (8, .int .i64 m.kind), (10, .bool m.own), (12, .bool m.cut), (14, .bool m.wanted), (16, .bool m.able), (18, .int .i64 m.code), (21, EW.val s.a), (25, EW.val s.b), (29, EW.val s.c), (33, EW.val s.d), (22, v0), (23, u1), (27, u2)] ⟨[], w0, [ow EQ 42 v0 m.ask, ow ER 61 u1 [], ow ER 61 u2 [], bx g2 (.cells zeroM 49 (0, 0)), bx g1 (.cells (m.val s).cells 46 (0, 0))]⟩ w := by
  refine da (rs := [23, 28]) (by decide +kernel) rfl (fun i hi => ?_)
  simp only [List.mem_cons, List.mem_nil_iff, or_false] at hi
  rcases hi with rfl | rfl
  · refine ⟨_, rfl, ?_⟩
    refine wz ?_
    refine oap 1 rfl rfl rfl rfl rfl (sl_arg hI.b rfl) (by simp only [List.length_nil]; omega) rfl (fun v w1 => ?_)
    refine dg (List.Sublist.cons _ (List.Sublist.cons _ (List.Sublist.cons _ (List.Sublist.cons _ (List.Sublist.refl _))))) ?_
    exact wpick [0, 1, 2, 3, 4] (by decide) rfl (sub_cons.2 ⟨rfl, sub_cons.2 ⟨rfl, sub_cons.2 ⟨rfl, sub_cons.2 ⟨rfl, sub_cons.2 ⟨rfl, sub_cons.2 ⟨rfl, sub_cons.2 ⟨rfl, sub_cons.2 ⟨rfl, sub_cons.2 ⟨rfl, sub_cons.2 ⟨rfl, sub_cons.2 ⟨rfl, sub_cons.2 ⟨rfl, sub_cons.2 ⟨rfl, sub_cons.2 ⟨rfl, sub_cons.2 ⟨rfl, sub_cons.2 ⟨rfl, sub_nil⟩⟩⟩⟩⟩⟩⟩⟩⟩⟩⟩⟩⟩⟩⟩⟩) (toS2_2 hI hl)
  · refine ⟨_, rfl, ?_⟩
    refine wz ?_
    refine oli ER [] rfl rfl rfl rfl rfl (fun g w1 l => ?_)
    refine dg (List.Sublist.cons _ (List.Sublist.cons _ (List.Sublist.cons _ (List.Sublist.cons _ (List.Sublist.cons _ (List.Sublist.refl _)))))) ?_
    exact wpick [1, 2, 3, 0, 4, 5] (by decide) rfl (sub_cons.2 ⟨rfl, sub_cons.2 ⟨rfl, sub_cons.2 ⟨rfl, sub_cons.2 ⟨rfl, sub_cons.2 ⟨rfl, sub_cons.2 ⟨rfl, sub_cons.2 ⟨rfl, sub_cons.2 ⟨rfl, sub_cons.2 ⟨rfl, sub_cons.2 ⟨rfl, sub_cons.2 ⟨rfl, sub_cons.2 ⟨rfl, sub_cons.2 ⟨rfl, sub_cons.2 ⟨rfl, sub_cons.2 ⟨rfl, sub_cons.2 ⟨rfl, sub_cons.2 ⟨rfl, sub_nil⟩⟩⟩⟩⟩⟩⟩⟩⟩⟩⟩⟩⟩⟩⟩⟩⟩) (toS1_123 hI hl)
theorem toS1_13 {v0 u1 u3 : Value} {m : Msg} {s : MsgS} {w0 w : World} {g1 g2 : Nat} (hI : MsgIn w0 m s) (hl : m.ask.length ≤ 320 ∧ m.answers.length ≤ 320 ∧ m.authority.length ≤ 320 ∧ m.extra.length ≤ 320) :
    WK toN (wd Tryd.prog toOps (toQ m w0) ⟨[], w0, [bx g1 (.cells (m.val s).cells 46 (0, 0))]⟩ 6 #[true, true, true, true, true, true, true, true, true, true, true, true, true, true, true, true, true, true, true, true, true, true, true, false, false, true, true, false, true, true, true, false, false, false]) [(2, .pointer (some ⟨g2, 0, none⟩)), (4, .int .i64 m.id), (6, .bool m.answer), (8, .int .i64 m.kind), (10, .bool m.own), (12, .bool m.cut), (14, .bool m.wanted), (16, .bool m.able), (18, .int .i64 m.code), (21, EW.val s.a), (25, EW.val s.b), (29, EW.val s.c), (33, EW.val s.d), (22, v0), (23, u1), (31, u3)] ⟨[], w0, [ow EQ 42 v0 m.ask, ow ER 61 u1 [], ow ER 61 u3 [], bx g2 (.cells zeroM 49 (0, 0)), bx g1 (.cells (m.val s).cells 46 (0, 0))]⟩ w := by
  refine da (rs := [23, 24]) (by decide +kernel) rfl (fun i hi => ?_)
  simp only [List.mem_cons, List.mem_nil_iff, or_false] at hi
  rcases hi with rfl | rfl
  · refine ⟨_, rfl, ?_⟩
    refine wz ?_
    refine oap 1 rfl rfl rfl rfl rfl (sl_arg hI.b rfl) (by simp only [List.length_nil]; omega) rfl (fun v w1 => ?_)
    refine dg (List.Sublist.cons _ (List.Sublist.cons _ (List.Sublist.cons _ (List.Sublist.cons _ (List.Sublist.refl _))))) ?_
    exact wpick [0, 1, 2, 3, 4] (by decide) rfl (sub_cons.2 ⟨rfl, sub_cons.2 ⟨rfl, sub_cons.2 ⟨rfl, sub_cons.2 ⟨rfl, sub_cons.2 ⟨rfl, sub_cons.2 ⟨rfl, sub_cons.2 ⟨rfl, sub_cons.2 ⟨rfl, sub_cons.2 ⟨rfl, sub_cons.2 ⟨rfl, sub_cons.2 ⟨rfl, sub_cons.2 ⟨rfl, sub_cons.2 ⟨rfl, sub_cons.2 ⟨rfl, sub_cons.2 ⟨rfl, sub_cons.2 ⟨rfl, sub_nil⟩⟩⟩⟩⟩⟩⟩⟩⟩⟩⟩⟩⟩⟩⟩⟩) (toS2_3 hI hl)
  · refine ⟨_, rfl, ?_⟩
    refine wz ?_
    refine oli ER [] rfl rfl rfl rfl rfl (fun g w1 l => ?_)
    refine dg (List.Sublist.cons _ (List.Sublist.cons _ (List.Sublist.cons _ (List.Sublist.cons _ (List.Sublist.cons _ (List.Sublist.refl _)))))) ?_
    exact wpick [1, 2, 0, 3, 4, 5] (by decide) rfl (sub_cons.2 ⟨rfl, sub_cons.2 ⟨rfl, sub_cons.2 ⟨rfl, sub_cons.2 ⟨rfl, sub_cons.2 ⟨rfl, sub_cons.2 ⟨rfl, sub_cons.2 ⟨rfl, sub_cons.2 ⟨rfl, sub_cons.2 ⟨rfl, sub_cons.2 ⟨rfl, sub_cons.2 ⟨rfl, sub_cons.2 ⟨rfl, sub_cons.2 ⟨rfl, sub_cons.2 ⟨rfl, sub_cons.2 ⟨rfl, sub_cons.2 ⟨rfl, sub_cons.2 ⟨rfl, sub_nil⟩⟩⟩⟩⟩⟩⟩⟩⟩⟩⟩⟩⟩⟩⟩⟩⟩) (toS1_123 hI hl)
theorem toS1_23 {v0 u2 u3 : Value} {m : Msg} {s : MsgS} {w0 w : World} {g1 g2 : Nat} (hI : MsgIn w0 m s) (hl : m.ask.length ≤ 320 ∧ m.answers.length ≤ 320 ∧ m.authority.length ≤ 320 ∧ m.extra.length ≤ 320) :
    WK toN (wd Tryd.prog toOps (toQ m w0) ⟨[], w0, [bx g1 (.cells (m.val s).cells 46 (0, 0))]⟩ 6 #[true, true, true, true, true, true, true, true, true, true, true, true, true, true, true, true, true, true, true, true, false, true, true, false, true, true, true, false, true, true, true, false, false, false]) [(2, .pointer (some ⟨g2, 0, none⟩)), (4, .int .i64 m.id), (6, .bool m.answer), (8, .int .i64 m.kind), (10, .bool m.own), (12, .bool m.cut), (14, .bool m.wanted), (16, .bool m.able), (18, .int .i64 m.code), (21, EW.val s.a), (25, EW.val s.b), (29, EW.val s.c), (33, EW.val s.d), (22, v0), (27, u2), (31, u3)] ⟨[], w0, [ow EQ 42 v0 m.ask, ow ER 61 u2 [], ow ER 61 u3 [], bx g2 (.cells zeroM 49 (0, 0)), bx g1 (.cells (m.val s).cells 46 (0, 0))]⟩ w := by
  refine da (rs := [20]) (by decide +kernel) rfl (fun i hi => ?_)
  simp only [List.mem_cons, List.mem_nil_iff, or_false] at hi
  subst hi
  · refine ⟨_, rfl, ?_⟩
    refine wz ?_
    refine oli ER [] rfl rfl rfl rfl rfl (fun g w1 l => ?_)
    refine dg (List.Sublist.cons _ (List.Sublist.cons _ (List.Sublist.cons _ (List.Sublist.cons _ (List.Sublist.cons _ (List.Sublist.refl _)))))) ?_
    exact wpick [1, 0, 2, 3, 4, 5] (by decide) rfl (sub_cons.2 ⟨rfl, sub_cons.2 ⟨rfl, sub_cons.2 ⟨rfl, sub_cons.2 ⟨rfl, sub_cons.2 ⟨rfl, sub_cons.2 ⟨rfl, sub_cons.2 ⟨rfl, sub_cons.2 ⟨rfl, sub_cons.2 ⟨rfl, sub_cons.2 ⟨rfl, sub_cons.2 ⟨rfl, sub_cons.2 ⟨rfl, sub_cons.2 ⟨rfl, sub_cons.2 ⟨rfl, sub_cons.2 ⟨rfl, sub_cons.2 ⟨rfl, sub_cons.2 ⟨rfl, sub_nil⟩⟩⟩⟩⟩⟩⟩⟩⟩⟩⟩⟩⟩⟩⟩⟩⟩) (toS1_123 hI hl)
theorem toS1_1 {v0 u1 : Value} {m : Msg} {s : MsgS} {w0 w : World} {g1 g2 : Nat} (hI : MsgIn w0 m s) (hl : m.ask.length ≤ 320 ∧ m.answers.length ≤ 320 ∧ m.authority.length ≤ 320 ∧ m.extra.length ≤ 320) :
    WK toN (wd Tryd.prog toOps (toQ m w0) ⟨[], w0, [bx g1 (.cells (m.val s).cells 46 (0, 0))]⟩ 7 #[true, true, true, true, true, true, true, true, true, true, true, true, true, true, true, true, true, true, true, true, true, true, true, false, false, true, true, false, false, true, true, false, false, false]) [(2, .pointer (some ⟨g2, 0, none⟩)), (4, .int .i64 m.id), (6, .bool m.answer), (8, .int .i64 m.kind), (10, .bool m.own), (12, .bool m.cut), (14, .bool m.wanted), (16, .bool m.able), (18, .int .i64 m.code), (21, EW.val s.a), (25, EW.val s.b), (29, EW.val s.c), (33, EW.val s.d), (22, v0), (23, u1)] ⟨[], w0, [ow EQ 42 v0 m.ask, ow ER 61 u1 [], bx g2 (.cells zeroM 49 (0, 0)), bx g1 (.cells (m.val s).cells 46 (0, 0))]⟩ w := by
  refine da (rs := [23, 24, 28]) (by decide +kernel) rfl (fun i hi => ?_)
  simp only [List.mem_cons, List.mem_nil_iff, or_false] at hi
  rcases hi with rfl | rfl | rfl
  · refine ⟨_, rfl, ?_⟩
    refine wz ?_
    refine oap 1 rfl rfl rfl rfl rfl (sl_arg hI.b rfl) (by simp only [List.length_nil]; omega) rfl (fun v w1 => ?_)
    refine dg (List.Sublist.cons _ (List.Sublist.cons _ (List.Sublist.cons _ (List.Sublist.refl _)))) ?_
    exact wpick [0, 1, 2, 3] (by decide) rfl (sub_cons.2 ⟨rfl, sub_cons.2 ⟨rfl, sub_cons.2 ⟨rfl, sub_cons.2 ⟨rfl, sub_cons.2 ⟨rfl, sub_cons.2 ⟨rfl, sub_cons.2 ⟨rfl, sub_cons.2 ⟨rfl, sub_cons.2 ⟨rfl, sub_cons.2 ⟨rfl, sub_cons.2 ⟨rfl, sub_cons.2 ⟨rfl, sub_cons.2 ⟨rfl, sub_cons.2 ⟨rfl, sub_cons.2 ⟨rfl, sub_nil⟩⟩⟩⟩⟩⟩⟩⟩⟩⟩⟩⟩⟩⟩⟩) (toS2_n hI hl)
  · refine ⟨_, rfl, ?_⟩
    refine wz ?_
    refine oli ER [] rfl rfl rfl rfl rfl (fun g w1 l => ?_)
    refine dg (List.Sublist.cons _ (List.Sublist.cons _ (List.Sublist.cons _ (List.Sublist.cons _ (List.Sublist.refl _))))) ?_
    exact wpick [1, 2, 0, 3, 4] (by decide) rfl (sub_cons.2 ⟨rfl, sub_cons.2 ⟨rfl, sub_cons.2 ⟨rfl, sub_cons.2 ⟨rfl, sub_cons.2 ⟨rfl, sub_cons.2 ⟨rfl, sub_cons.2 ⟨rfl, sub_cons.2 ⟨rfl, sub_cons.2 ⟨rfl, sub_cons.2 ⟨rfl, sub_cons.2 ⟨rfl, sub_cons.2 ⟨rfl, sub_cons.2 ⟨rfl, sub_cons.2 ⟨rfl, sub_cons.2 ⟨rfl, sub_cons.2 ⟨rfl, sub_nil⟩⟩⟩⟩⟩⟩⟩⟩⟩⟩⟩⟩⟩⟩⟩⟩) (toS1_12 hI hl)
  · refine ⟨_, rfl, ?_⟩
    refine wz ?_
    refine oli ER [] rfl rfl rfl rfl rfl (fun g w1 l => ?_)
    refine dg (List.Sublist.cons _ (List.Sublist.cons _ (List.Sublist.cons _ (List.Sublist.cons _ (List.Sublist.refl _))))) ?_
    exact wpick [1, 2, 0, 3, 4] (by decide) rfl (sub_cons.2 ⟨rfl, sub_cons.2 ⟨rfl, sub_cons.2 ⟨rfl, sub_cons.2 ⟨rfl, sub_cons.2 ⟨rfl, sub_cons.2 ⟨rfl, sub_cons.2 ⟨rfl, sub_cons.2 ⟨rfl, sub_cons.2 ⟨rfl, sub_cons.2 ⟨rfl, sub_cons.2 ⟨rfl, sub_cons.2 ⟨rfl, sub_cons.2 ⟨rfl, sub_cons.2 ⟨rfl, sub_cons.2 ⟨rfl, sub_cons.2 ⟨rfl, sub_nil⟩⟩⟩⟩⟩⟩⟩⟩⟩⟩⟩⟩⟩⟩⟩⟩) (toS1_13 hI hl)
theorem toS1_2 {v0 u2 : Value} {m : Msg} {s : MsgS} {w0 w : World} {g1 g2 : Nat} (hI : MsgIn w0 m s) (hl : m.ask.length ≤ 320 ∧ m.answers.length ≤ 320 ∧ m.authority.length ≤ 320 ∧ m.extra.length ≤ 320) :
    WK toN (wd Tryd.prog toOps (toQ m w0) ⟨[], w0, [bx g1 (.cells (m.val s).cells 46 (0, 0))]⟩ 7 #[true, true, true, true, true, true, true, true, true, true, true, true, true, true, true, true, true, true, true, true, false, true, true, false, true, true, true, false, false, true, true, false, false, false]) [(2, .pointer (some ⟨g2, 0, none⟩)), (4, .int .i64 m.id), (6, .bool m.answer), (8, .int .i64 m.kind), (10, .bool m.own), (12, .bool m.cut), (14, .bool m.wanted), (16, .bool m.able), (18, .int .i64 m.code), (21, EW.val s.a), (25, EW.val s.b), (29, EW.val s.c), (33, EW.val s.d), (22, v0), (27, u2)] ⟨[], w0, [ow EQ 42 v0 m.ask, ow ER 61 u2 [], bx g2 (.cells zeroM 49 (0, 0)), bx g1 (.cells (m.val s).cells 46 (0, 0))]⟩ w := by
  refine da (rs := [20, 28]) (by decide +kernel) rfl (fun i hi => ?_)
  simp only [List.mem_cons, List.mem_nil_iff, or_false] at hi
  rcases hi with rfl | rfl
  · refine ⟨_, rfl, ?_⟩
    refine wz ?_
    refine oli ER [] rfl rfl rfl rfl rfl (fun g w1 l => ?_)
    refine dg (List.Sublist.cons _ (List.Sublist.cons _ (List.Sublist.cons _ (List.Sublist.cons _ (List.Sublist.refl _))))) ?_
    exact wpick [1, 0, 2, 3, 4] (by decide) rfl (sub_cons.2 ⟨rfl, sub_cons.2 ⟨rfl, sub_cons.2 ⟨rfl, sub_cons.2 ⟨rfl, sub_cons.2 ⟨rfl, sub_cons.2 ⟨rfl, sub_cons.2 ⟨rfl, sub_cons.2 ⟨rfl, sub_cons.2 ⟨rfl, sub_cons.2 ⟨rfl, sub_cons.2 ⟨rfl, sub_cons.2 ⟨rfl, sub_cons.2 ⟨rfl, sub_cons.2 ⟨rfl, sub_cons.2 ⟨rfl, sub_cons.2 ⟨rfl, sub_nil⟩⟩⟩⟩⟩⟩⟩⟩⟩⟩⟩⟩⟩⟩⟩⟩) (toS1_12 hI hl)
  · refine ⟨_, rfl, ?_⟩
    refine wz ?_
    refine oli ER [] rfl rfl rfl rfl rfl (fun g w1 l => ?_)
    refine dg (List.Sublist.cons _ (List.Sublist.cons _ (List.Sublist.cons _ (List.Sublist.cons _ (List.Sublist.refl _))))) ?_
    exact wpick [1, 2, 0, 3, 4] (by decide) rfl (sub_cons.2 ⟨rfl, sub_cons.2 ⟨rfl, sub_cons.2 ⟨rfl, sub_cons.2 ⟨rfl, sub_cons.2 ⟨rfl, sub_cons.2 ⟨rfl, sub_cons.2 ⟨rfl, sub_cons.2 ⟨rfl, sub_cons.2 ⟨rfl, sub_cons.2 ⟨rfl, sub_cons.2 ⟨rfl, sub_cons.2 ⟨rfl, sub_cons.2 ⟨rfl, sub_cons.2 ⟨rfl, sub_cons.2 ⟨rfl, sub_cons.2 ⟨rfl, sub_nil⟩⟩⟩⟩⟩⟩⟩⟩⟩⟩⟩⟩⟩⟩⟩⟩) (toS1_23 hI hl)
theorem toS1_3 {v0 u3 : Value} {m : Msg} {s : MsgS} {w0 w : World} {g1 g2 : Nat} (hI : MsgIn w0 m s) (hl : m.ask.length ≤ 320 ∧ m.answers.length ≤ 320 ∧ m.authority.length ≤ 320 ∧ m.extra.length ≤ 320) :
    WK toN (wd Tryd.prog toOps (toQ m w0) ⟨[], w0, [bx g1 (.cells (m.val s).cells 46 (0, 0))]⟩ 7 #[true, true, true, true, true, true, true, true, true, true, true, true, true, true, true, true, true, true, true, true, false, true, true, false, false, true, true, false, true, true, true, false, false, false]) [(2, .pointer (some ⟨g2, 0, none⟩)), (4, .int .i64 m.id), (6, .bool m.answer), (8, .int .i64 m.kind), (10, .bool m.own), (12, .bool m.cut), (14, .bool m.wanted), (16, .bool m.able), (18, .int .i64 m.code), (21, EW.val s.a), (25, EW.val s.b), (29, EW.val s.c), (33, EW.val s.d), (22, v0), (31, u3)] ⟨[], w0, [ow EQ 42 v0 m.ask, ow ER 61 u3 [], bx g2 (.cells zeroM 49 (0, 0)), bx g1 (.cells (m.val s).cells 46 (0, 0))]⟩ w := by
  refine da (rs := [20, 24]) (by decide +kernel) rfl (fun i hi => ?_)
  simp only [List.mem_cons, List.mem_nil_iff, or_false] at hi
  rcases hi with rfl | rfl
  · refine ⟨_, rfl, ?_⟩
    refine wz ?_
    refine oli ER [] rfl rfl rfl rfl rfl (fun g w1 l => ?_)
    refine dg (List.Sublist.cons _ (List.Sublist.cons _ (List.Sublist.cons _ (List.Sublist.cons _ (List.Sublist.refl _))))) ?_
    exact wpick [1, 0, 2, 3, 4] (by decide) rfl (sub_cons.2 ⟨rfl, sub_cons.2 ⟨rfl, sub_cons.2 ⟨rfl, sub_cons.2 ⟨rfl, sub_cons.2 ⟨rfl, sub_cons.2 ⟨rfl, sub_cons.2 ⟨rfl, sub_cons.2 ⟨rfl, sub_cons.2 ⟨rfl, sub_cons.2 ⟨rfl, sub_cons.2 ⟨rfl, sub_cons.2 ⟨rfl, sub_cons.2 ⟨rfl, sub_cons.2 ⟨rfl, sub_cons.2 ⟨rfl, sub_cons.2 ⟨rfl, sub_nil⟩⟩⟩⟩⟩⟩⟩⟩⟩⟩⟩⟩⟩⟩⟩⟩) (toS1_13 hI hl)
  · refine ⟨_, rfl, ?_⟩
    refine wz ?_
    refine oli ER [] rfl rfl rfl rfl rfl (fun g w1 l => ?_)
    refine dg (List.Sublist.cons _ (List.Sublist.cons _ (List.Sublist.cons _ (List.Sublist.cons _ (List.Sublist.refl _))))) ?_
    exact wpick [1, 0, 2, 3, 4] (by decide) rfl (sub_cons.2 ⟨rfl, sub_cons.2 ⟨rfl, sub_cons.2 ⟨rfl, sub_cons.2 ⟨rfl, sub_cons.2 ⟨rfl, sub_cons.2 ⟨rfl, sub_cons.2 ⟨rfl, sub_cons.2 ⟨rfl, sub_cons.2 ⟨rfl, sub_cons.2 ⟨rfl, sub_cons.2 ⟨rfl, sub_cons.2 ⟨rfl, sub_cons.2 ⟨rfl, sub_cons.2 ⟨rfl, sub_cons.2 ⟨rfl, sub_cons.2 ⟨rfl, sub_nil⟩⟩⟩⟩⟩⟩⟩⟩⟩⟩⟩⟩⟩⟩⟩⟩) (toS1_23 hI hl)
theorem toS1_n {v0 : Value} {m : Msg} {s : MsgS} {w0 w : World} {g1 g2 : Nat} (hI : MsgIn w0 m s) (hl : m.ask.length ≤ 320 ∧ m.answers.length ≤ 320 ∧ m.authority.length ≤ 320 ∧ m.extra.length ≤ 320) :
    WK toN (wd Tryd.prog toOps (toQ m w0) ⟨[], w0, [bx g1 (.cells (m.val s).cells 46 (0, 0))]⟩ 8 #[true, true, true, true, true, true, true, true, true, true, true, true, true, true, true, true, true, true, true, true, false, true, true, false, false, true, true, false, false, true, true, false, false, false]) [(2, .pointer (some ⟨g2, 0, none⟩)), (4, .int .i64 m.id), (6, .bool m.answer), (8, .int .i64 m.kind), (10, .bool m.own), (12, .bool m.cut), (14, .bool m.wanted), (16, .bool m.able), (18, .int .i64 m.code), (21, EW.val s.a), (25, EW.val s.b), (29, EW.val s.c), (33, EW.val s.d), (22, v0)] ⟨[], w0, [ow EQ 42 v0 m.ask, bx g2 (.cells zeroM 49 (0, 0)), bx g1 (.cells (m.val s).cells 46 (0, 0))]⟩ w := by
  refine da (rs := [20, 24, 28]) (by decide +kernel) rfl (fun i hi => ?_)
  simp only [List.mem_cons, List.mem_nil_iff, or_false] at hi
  rcases hi with rfl | rfl | rfl
  · refine ⟨_, rfl, ?_⟩
    refine wz ?_
    refine oli ER [] rfl rfl rfl rfl rfl (fun g w1 l => ?_)
    refine dg (List.Sublist.cons _ (List.Sublist.cons _ (List.Sublist.cons _ (List.Sublist.refl _)))) ?_
    exact wpick [1, 0, 2, 3] (by decide) rfl (sub_cons.2 ⟨rfl, sub_cons.2 ⟨rfl, sub_cons.2 ⟨rfl, sub_cons.2 ⟨rfl, sub_cons.2 ⟨rfl, sub_cons.2 ⟨rfl, sub_cons.2 ⟨rfl, sub_cons.2 ⟨rfl, sub_cons.2 ⟨rfl, sub_cons.2 ⟨rfl, sub_cons.2 ⟨rfl, sub_cons.2 ⟨rfl, sub_cons.2 ⟨rfl, sub_cons.2 ⟨rfl, sub_cons.2 ⟨rfl, sub_nil⟩⟩⟩⟩⟩⟩⟩⟩⟩⟩⟩⟩⟩⟩⟩) (toS1_1 hI hl)
  · refine ⟨_, rfl, ?_⟩
    refine wz ?_
    refine oli ER [] rfl rfl rfl rfl rfl (fun g w1 l => ?_)
    refine dg (List.Sublist.cons _ (List.Sublist.cons _ (List.Sublist.cons _ (List.Sublist.refl _)))) ?_
    exact wpick [1, 0, 2, 3] (by decide) rfl (sub_cons.2 ⟨rfl, sub_cons.2 ⟨rfl, sub_cons.2 ⟨rfl, sub_cons.2 ⟨rfl, sub_cons.2 ⟨rfl, sub_cons.2 ⟨rfl, sub_cons.2 ⟨rfl, sub_cons.2 ⟨rfl, sub_cons.2 ⟨rfl, sub_cons.2 ⟨rfl, sub_cons.2 ⟨rfl, sub_cons.2 ⟨rfl, sub_cons.2 ⟨rfl, sub_cons.2 ⟨rfl, sub_cons.2 ⟨rfl, sub_nil⟩⟩⟩⟩⟩⟩⟩⟩⟩⟩⟩⟩⟩⟩⟩) (toS1_2 hI hl)
  · refine ⟨_, rfl, ?_⟩
    refine wz ?_
    refine oli ER [] rfl rfl rfl rfl rfl (fun g w1 l => ?_)
    refine dg (List.Sublist.cons _ (List.Sublist.cons _ (List.Sublist.cons _ (List.Sublist.refl _)))) ?_
    exact wpick [1, 0, 2, 3] (by decide) rfl (sub_cons.2 ⟨rfl, sub_cons.2 ⟨rfl, sub_cons.2 ⟨rfl, sub_cons.2 ⟨rfl, sub_cons.2 ⟨rfl, sub_cons.2 ⟨rfl, sub_cons.2 ⟨rfl, sub_cons.2 ⟨rfl, sub_cons.2 ⟨rfl, sub_cons.2 ⟨rfl, sub_cons.2 ⟨rfl, sub_cons.2 ⟨rfl, sub_cons.2 ⟨rfl, sub_cons.2 ⟨rfl, sub_cons.2 ⟨rfl, sub_nil⟩⟩⟩⟩⟩⟩⟩⟩⟩⟩⟩⟩⟩⟩⟩) (toS1_3 hI hl)
theorem toS0_0123 {u0 u1 u2 u3 : Value} {m : Msg} {s : MsgS} {w0 w : World} {g1 g2 : Nat} (hI : MsgIn w0 m s) (hl : m.ask.length ≤ 320 ∧ m.answers.length ≤ 320 ∧ m.authority.length ≤ 320 ∧ m.extra.length ≤ 320) :
    WK toN (wd Tryd.prog toOps (toQ m w0) ⟨[], w0, [bx g1 (.cells (m.val s).cells 46 (0, 0))]⟩ 6 #[true, true, true, true, true, true, true, true, true, true, true, true, true, true, true, true, true, true, true, false, true, true, true, false, true, true, true, false, true, true, true, false, false, false]) [(2, .pointer (some ⟨g2, 0, none⟩)), (4, .int .i64 m.id), (6, .bool m.answer), (8, .int .i64 m.kind), (10, .bool m.own), (12, .bool m.cut), (14, .bool m.wanted), (16, .bool m.able), (18, .int .i64 m.code), (21, EW.val s.a), (25, EW.val s.b), (29, EW.val s.c), (33, EW.val s.d), (19, u0), (23, u1), (27, u2), (31, u3)] ⟨[], w0, [ow EQ 42 u0 [], ow ER 61 u1 [], ow ER 61 u2 [], ow ER 61 u3 [], bx g2 (.cells zeroM 49 (0, 0)), bx g1 (.cells (m.val s).cells 46 (0, 0))]⟩ w := by
  refine da (rs := [19]) (by decide +kernel) rfl (fun i hi => ?_)
  simp only [List.mem_cons, List.mem_nil_iff, or_false] at hi
  subst hi
  · refine ⟨_, rfl, ?_⟩
    refine wz ?_
    refine oap 0 rfl rfl rfl rfl rfl (sl_arg hI.a rfl) (by simp only [List.length_nil]; omega) rfl (fun v w1 => ?_)
    refine dg (List.Sublist.cons _ (List.Sublist.cons _ (List.Sublist.cons _ (List.Sublist.cons _ (List.Sublist.cons _ (List.Sublist.refl _)))))) ?_
    exact wpick [0, 1, 2, 3, 4, 5] (by decide) rfl (sub_cons.2 ⟨rfl, sub_cons.2 ⟨rfl, sub_cons.2 ⟨rfl, sub_cons.2 ⟨rfl, sub_cons.2 ⟨rfl, sub_cons.2 ⟨rfl, sub_cons.2 ⟨rfl, sub_cons.2 ⟨rfl, sub_cons.2 ⟨rfl, sub_cons.2 ⟨rfl, sub_cons.2 ⟨rfl, sub_cons.2 ⟨rfl, sub_cons.2 ⟨rfl, sub_cons.2 ⟨rfl, sub_cons.2 ⟨rfl, sub_cons.2 ⟨rfl, sub_cons.2 ⟨rfl, sub_nil⟩⟩⟩⟩⟩⟩⟩⟩⟩⟩⟩⟩⟩⟩⟩⟩⟩) (toS1_123 hI hl)
theorem toS0_012 {u0 u1 u2 : Value} {m : Msg} {s : MsgS} {w0 w : World} {g1 g2 : Nat} (hI : MsgIn w0 m s) (hl : m.ask.length ≤ 320 ∧ m.answers.length ≤ 320 ∧ m.authority.length ≤ 320 ∧ m.extra.length ≤ 320) :
    WK toN (wd Tryd.prog toOps (toQ m w0) ⟨[], w0, [bx g1 (.cells (m.val s).cells 46 (0, 0))]⟩ 7 #[true, true, true, true, true, true, true, true, true, true, true, true, true, true, true, true, true, true, true, false, true, true, true, false, true, true, true, false, false, true, true, false, false, false]) [(2, .pointer (some ⟨g2, 0, none⟩)), (4, .int .i64 m.id), (6, .bool m.answer), (8, .int .i64 m.kind), (10, .bool m.own), (12, .bool m.cut), (14, .bool m.wanted), (16, .bool m.able), (18, .int .i64 m.code), (21, EW.val s.a), (25, EW.val s.b), (29, EW.val s.c), (33, EW.val s.d), (19, u0), (23, u1), (27, u2)] ⟨[], w0, [ow EQ 42 u0 [], ow ER 61 u1 [], ow ER 61 u2 [], bx g2 (.cells zeroM 49 (0, 0)), bx g1 (.cells (m.val s).cells 46 (0, 0))]⟩ w := by
  refine da (rs := [19, 28]) (by decide +kernel) rfl (fun i hi => ?_)
  simp only [List.mem_cons, List.mem_nil_iff, or_false] at hi
  rcases hi with rfl | rfl
  · refine ⟨_, rfl, ?_⟩
    refine wz ?_
    refine oap 0 rfl rfl rfl rfl rfl (sl_arg hI.a rfl) (by simp only [List.length_nil]; omega) rfl (fun v w1 => ?_)
    refine dg (List.Sublist.cons _ (List.Sublist.cons _ (List.Sublist.cons _ (List.Sublist.cons _ (List.Sublist.refl _))))) ?_
    exact wpick [0, 1, 2, 3, 4] (by decide) rfl (sub_cons.2 ⟨rfl, sub_cons.2 ⟨rfl, sub_cons.2 ⟨rfl, sub_cons.2 ⟨rfl, sub_cons.2 ⟨rfl, sub_cons.2 ⟨rfl, sub_cons.2 ⟨rfl, sub_cons.2 ⟨rfl, sub_cons.2 ⟨rfl, sub_cons.2 ⟨rfl, sub_cons.2 ⟨rfl, sub_cons.2 ⟨rfl, sub_cons.2 ⟨rfl, sub_cons.2 ⟨rfl, sub_cons.2 ⟨rfl, sub_cons.2 ⟨rfl, sub_nil⟩⟩⟩⟩⟩⟩⟩⟩⟩⟩⟩⟩⟩⟩⟩⟩) (toS1_12 hI hl)
  · refine ⟨_, rfl, ?_⟩
    refine wz ?_
    refine oli ER [] rfl rfl rfl rfl rfl (fun g w1 l => ?_)
    refine dg (List.Sublist.cons _ (List.Sublist.cons _ (List.Sublist.cons _ (List.Sublist.cons _ (List.Sublist.cons _ (List.Sublist.refl _)))))) ?_
    exact wpick [1, 2, 3, 0, 4, 5] (by decide) rfl (sub_cons.2 ⟨rfl, sub_cons.2 ⟨rfl, sub_cons.2 ⟨rfl, sub_cons.2 ⟨rfl, sub_cons.2 ⟨rfl, sub_cons.2 ⟨rfl, sub_cons.2 ⟨rfl, sub_cons.2 ⟨rfl, sub_cons.2 ⟨rfl, sub_cons.2 ⟨rfl, sub_cons.2 ⟨rfl, sub_cons.2 ⟨rfl, sub_cons.2 ⟨rfl, sub_cons.2 ⟨rfl, sub_cons.2 ⟨rfl, sub_cons.2 ⟨rfl, sub_cons.2 ⟨rfl, sub_nil⟩⟩⟩⟩⟩⟩⟩⟩⟩⟩⟩⟩⟩⟩⟩⟩⟩) (toS0_0123 hI hl)
theorem toS0_013 {u0 u1 u3 : Value} {m : Msg} {s : MsgS} {w0 w : World} {g1 g2 : Nat} (hI : MsgIn w0 m s) (hl : m.ask.length ≤ 320 ∧ m.answers.length ≤ 320 ∧ m.authority.length ≤ 320 ∧ m.extra.length ≤ 320) :
    WK toN (wd Tryd.prog toOps (toQ m w0) ⟨[], w0, [bx g1 (.cells (m.val s).cells 46 (0, 0))]⟩ 7 #[true, true, true, true, true, true, true, true, true, true, true, true, true, true, true, true, true, true, true, false, true, true, true, false, false, true, true, false, true, true, true, false, false, false]) [(2, .pointer (some ⟨g2, 0, none⟩)), (4, .int .i64 m.id), (6, .bool m.answer), (8, .int .i64 m.kind), (10, .bool m.own), (12, .bool m.cut), (14, .bool m.wanted), (16, .bool m.able), (18, .int .i64 m.code), (21, EW.val s.a), (25, EW.val s.b), (29, EW.val s.c), (33, EW.val s.d), (19, u0), (23, u1), (31, u3)] ⟨[], w0, [ow EQ 42 u0 [], ow ER 61 u1 [], ow ER 61 u3 [], bx g2 (.cells zeroM 49 (0, 0)), bx g1 (.cells (m.val s).cells 46 (0, 0))]⟩ w := by
  refine da (rs := [19, 24]) (by decide +kernel) rfl (fun i hi => ?_)
  simp only [List.mem_cons, List.mem_nil_iff, or_false] at hi
  rcases hi with rfl | rfl
  · refine ⟨_, rfl, ?_⟩
    refine wz ?_
    refine oap 0 rfl rfl rfl rfl rfl (sl_arg hI.a rfl) (by simp only [List.length_nil]; omega) rfl (fun v w1 => ?_)
    refine dg (List.Sublist.cons _ (List.Sublist.cons _ (List.Sublist.cons _ (List.Sublist.cons _ (List.Sublist.refl _))))) ?_
    exact wpick [0, 1, 2, 3, 4] (by decide) rfl (sub_cons.2 ⟨rfl, sub_cons.2 ⟨rfl, sub_cons.2 ⟨rfl, sub_cons.2 ⟨rfl, sub_cons.2 ⟨rfl, sub_cons.2 ⟨rfl, sub_cons.2 ⟨rfl, sub_cons.2 ⟨rfl, sub_cons.2 ⟨rfl, sub_cons.2 ⟨rfl, sub_cons.2 ⟨rfl, sub_cons.2 ⟨rfl, sub_cons.2 ⟨rfl, sub_cons.2 ⟨rfl, sub_cons.2 ⟨rfl, sub_cons.2 ⟨rfl, sub_nil⟩⟩⟩⟩⟩⟩⟩⟩⟩⟩⟩⟩⟩⟩⟩⟩) (toS1_13 hI hl)
  · refine ⟨_, rfl, ?_⟩
    refine wz ?_
    refine oli ER [] rfl rfl rfl rfl rfl (fun g w1 l => ?_)
    refine dg (List.Sublist.cons _ (List.Sublist.cons _ (List.Sublist.cons _ (List.Sublist.cons _ (List.Sublist.cons _ (List.Sublist.refl _)))))) ?_
    exact wpick [1, 2, 0, 3, 4, 5] (by decide) rfl (sub_cons.2 ⟨rfl, sub_cons.2 ⟨rfl, sub_cons.2 ⟨rfl, sub_cons.2 ⟨rfl, sub_cons.2 ⟨rfl, sub_cons.2 ⟨rfl, sub_cons.2 ⟨rfl, sub_cons.2 ⟨rfl, sub_cons.2 ⟨rfl, sub_cons.2 ⟨rfl, sub_cons.2 ⟨rfl, sub_cons.2 ⟨rfl, sub_cons.2 ⟨rfl, sub_cons.2 ⟨rfl, sub_cons.2 ⟨rfl, sub_cons.2 ⟨rfl, sub_cons.2 ⟨rfl, sub_nil⟩⟩⟩⟩⟩⟩⟩⟩⟩⟩⟩⟩⟩⟩⟩⟩⟩) (toS0_0123 hI hl)
theorem toS0_023 {u0 u2 u3 : Value} {m : Msg} {s : MsgS} {w0 w : World} {g1 g2 : Nat} (hI : MsgIn w0 m s) (hl : m.ask.length ≤ 320 ∧ m.answers.length ≤ 320 ∧ m.authority.length ≤ 320 ∧ m.extra.length ≤ 320) :
    WK toN (wd Tryd.prog toOps (toQ m w0) ⟨[], w0, [bx g1 (.cells (m.val s).cells 46 (0, 0))]⟩ 7 #[true, true, true, true, true, true, true, true, true, true, true, true, true, true, true, true, true, true, true, false, false, true, true, false, true, true, true, false, true, true, true, false, false, false]) [(2, .pointer (some ⟨g2, 0, none⟩)), (4, .int .i64 m.id), (6, .bool m.answer), (8, .int .i64 m.kind), (10, .bool m.own), (12, .bool m.cut), (14, .bool m.wanted), (16, .bool m.able), (18, .int .i64 m.code), (21, EW.val s.a), (25, EW.val s.b), (29, EW.val s.c), (33, EW.val s.d), (19, u0), (27, u2), (31, u3)] ⟨[], w0, [ow EQ 42 u0 [], ow ER 61 u2 [], ow ER 61 u3 [], bx g2 (.cells zeroM 49 (0, 0)), bx g1 (.cells (m.val s).cells 46 (0, 0))]⟩ w := by
  refine da (rs := [19, 20]) (by decide +kernel) rfl (fun i hi => ?_)
  simp only [List.mem_cons, List.mem_nil_iff, or_false] at hi
  rcases hi with rfl | rfl
  · refine ⟨_, rfl, ?_⟩
    refine wz ?_
    refine oap 0 rfl rfl rfl rfl rfl (sl_arg hI.a rfl) (by simp only [List.length_nil]; omega) rfl (fun v w1 => ?_)
    refine dg (List.Sublist.cons _ (List.Sublist.cons _ (List.Sublist.cons _ (List.Sublist.cons _ (List.Sublist.refl _))))) ?_
    exact wpick [0, 1, 2, 3, 4] (by decide) rfl (sub_cons.2 ⟨rfl, sub_cons.2 ⟨rfl, sub_cons.2 ⟨rfl, sub_cons.2 ⟨rfl, sub_cons.2 ⟨rfl, sub_cons.2 ⟨rfl, sub_cons.2 ⟨rfl, sub_cons.2 ⟨rfl, sub_cons.2 ⟨rfl, sub_cons.2 ⟨rfl, sub_cons.2 ⟨rfl, sub_cons.2 ⟨rfl, sub_cons.2 ⟨rfl, sub_cons.2 ⟨rfl, sub_cons.2 ⟨rfl, sub_cons.2 ⟨rfl, sub_nil⟩⟩⟩⟩⟩⟩⟩⟩⟩⟩⟩⟩⟩⟩⟩⟩) (toS1_23 hI hl)
  · refine ⟨_, rfl, ?_⟩
    refine wz ?_
    refine oli ER [] rfl rfl rfl rfl rfl (fun g w1 l => ?_)
    refine dg (List.Sublist.cons _ (List.Sublist.cons _ (List.Sublist.cons _ (List.Sublist.cons _ (List.Sublist.cons _ (List.Sublist.refl _)))))) ?_
    exact wpick [1, 0, 2, 3, 4, 5] (by decide) rfl (sub_cons.2 ⟨rfl, sub_cons.2 ⟨rfl, sub_cons.2 ⟨rfl, sub_cons.2 ⟨rfl, sub_cons.2 ⟨rfl, sub_cons.2 ⟨rfl, sub_cons.2 ⟨rfl, sub_cons.2 ⟨rfl, sub_cons.2 ⟨rfl, sub_cons.2 ⟨rfl, sub_cons.2 ⟨rfl, sub_cons.2 ⟨rfl, sub_cons.2 ⟨rfl, sub_cons.2 ⟨rfl, sub_cons.2 ⟨rfl, sub_cons.2 ⟨rfl, sub_cons.2 ⟨rfl, sub_nil⟩⟩⟩⟩⟩⟩⟩⟩⟩⟩⟩⟩⟩⟩⟩⟩⟩) (toS0_0123 hI hl)
theorem toS0_123 {u1 u2 u3 : Value} {m : Msg} {s : MsgS} {w0 w : World} {g1 g2 : Nat} (hI : MsgIn w0 m s) (hl : m.ask.length ≤ 320 ∧ m.answers.length ≤ 320 ∧ m.authority.length ≤ 320 ∧ m.extra.length ≤ 320) :
    WK toN (wd Tryd.prog toOps (toQ m w0) ⟨[], w0, [bx g1 (.cells (m.val s).cells 46 (0, 0))]⟩ 7 #[true, true, true, true, true, true, true, true, true, true, true, true, true, true, true, true, false, true, true, false, true, true, true, false, true, true, true, false, true, true, true, false, false, false]) [(2, .pointer (some ⟨g2, 0, none⟩)), (4, .int .i64 m.id), (6, .bool m.answer), (8, .int .i64 m.kind), (10, .bool m.own), (12, .bool m.cut), (14, .bool m.wanted), (16, .bool m.able), (18, .int .i64 m.code), (21, EW.val s.a), (25, EW.val s.b), (29, EW.val s.c), (33, EW.val s.d), (23, u1), (27, u2), (31, u3)] ⟨[], w0, [ow ER 61 u1 [], ow ER 61 u2 [], ow ER 61 u3 [], bx g2 (.cells zeroM 49 (0, 0)), bx g1 (.cells (m.val s).cells 46 (0, 0))]⟩ w := by
  refine da (rs := [16]) (by decide +kernel) rfl (fun i hi => ?_)
  simp only [List.mem_cons, List.mem_nil_iff, or_false] at hi
  subst hi
  · refine ⟨_, rfl, ?_⟩
    refine wz ?_
    refine oli EQ [] rfl rfl rfl rfl rfl (fun g w1 l => ?_)
    refine dg (List.Sublist.cons _ (List.Sublist.cons _ (List.Sublist.cons _ (List.Sublist.cons _ (List.Sublist.cons _ (List.Sublist.refl _)))))) ?_
    exact wpick [0, 1, 2, 3, 4, 5] (by decide) rfl (sub_cons.2 ⟨rfl, sub_cons.2 ⟨rfl, sub_cons.2 ⟨rfl, sub_cons.2 ⟨rfl, sub_cons.2 ⟨rfl, sub_cons.2 ⟨rfl, sub_cons.2 ⟨rfl, sub_cons.2 ⟨rfl, sub_cons.2 ⟨rfl, sub_cons.2 ⟨rfl, sub_cons.2 ⟨rfl, sub_cons.2 ⟨rfl, sub_cons.2 ⟨rfl, sub_cons.2 ⟨rfl, sub_cons.2 ⟨rfl, sub_cons.2 ⟨rfl, sub_cons.2 ⟨rfl, sub_nil⟩⟩⟩⟩⟩⟩⟩⟩⟩⟩⟩⟩⟩⟩⟩⟩⟩) (toS0_0123 hI hl)
theorem toS0_01 {u0 u1 : Value} {m : Msg} {s : MsgS} {w0 w : World} {g1 g2 : Nat} (hI : MsgIn w0 m s) (hl : m.ask.length ≤ 320 ∧ m.answers.length ≤ 320 ∧ m.authority.length ≤ 320 ∧ m.extra.length ≤ 320) :
    WK toN (wd Tryd.prog toOps (toQ m w0) ⟨[], w0, [bx g1 (.cells (m.val s).cells 46 (0, 0))]⟩ 8 #[true, true, true, true, true, true, true, true, true, true, true, true, true, true, true, true, true, true, true, false, true, true, true, false, false, true, true, false, false, true, true, false, false, false]) [(2, .pointer (some ⟨g2, 0, none⟩)), (4, .int .i64 m.id), (6, .bool m.answer), (8, .int .i64 m.kind), (10, .bool m.own), (12, .bool m.cut), (14, .bool m.wanted), (16, .bool m.able), (18, .int .i64 m.code), (21, EW.val s.a), (25, EW.val s.b), (29, EW.val s.c), (33, EW.val s.d), (19, u0), (23, u1)] ⟨[], w0, [ow EQ 42 u0 [], ow ER 61 u1 [], bx g2 (.cells zeroM 49 (0, 0)), bx g1 (.cells (m.val s).cells 46 (0, 0))]⟩ w := by
  refine da (rs := [19, 24, 28]) (by decide +kernel) rfl (fun i hi => ?_)
  simp only [List.mem_cons, List.mem_nil_iff, or_false] at hi
  rcases hi with rfl | rfl | rfl
  · refine ⟨_, rfl, ?_⟩
    refine wz ?_
    refine oap 0 rfl rfl rfl rfl rfl (sl_arg hI.a rfl) (by simp only [List.length_nil]; omega) rfl (fun v w1 => ?_)
    refine dg (List.Sublist.cons _ (List.Sublist.cons _ (List.Sublist.cons _ (List.Sublist.refl _)))) ?_
    exact wpick [0, 1, 2, 3] (by decide) rfl (sub_cons.2 ⟨rfl, sub_cons.2 ⟨rfl, sub_cons.2 ⟨rfl, sub_cons.2 ⟨rfl, sub_cons.2 ⟨rfl, sub_cons.2 ⟨rfl, sub_cons.2 ⟨rfl, sub_cons.2 ⟨rfl, sub_cons.2 ⟨rfl, sub_cons.2 ⟨rfl, sub_cons.2 ⟨rfl, sub_cons.2 ⟨rfl, sub_cons.2 ⟨rfl, sub_cons.2 ⟨rfl, sub_cons.2 ⟨rfl, sub_nil⟩⟩⟩⟩⟩⟩⟩⟩⟩⟩⟩⟩⟩⟩⟩) (toS1_1 hI hl)
  · refine ⟨_, rfl, ?_⟩
    refine wz ?_
    refine oli ER [] rfl rfl rfl rfl rfl (fun g w1 l => ?_)
    refine dg (List.Sublist.cons _ (List.Sublist.cons _ (List.Sublist.cons _ (List.Sublist.cons _ (List.Sublist.refl _))))) ?_
    exact wpick [1, 2, 0, 3, 4] (by decide) rfl (sub_cons.2 ⟨rfl, sub_cons.2 ⟨rfl, sub_cons.2 ⟨rfl, sub_cons.2 ⟨rfl, sub_cons.2 ⟨rfl, sub_cons.2 ⟨rfl, sub_cons.2 ⟨rfl, sub_cons.2 ⟨rfl, sub_cons.2 ⟨rfl, sub_cons.2 ⟨rfl, sub_cons.2 ⟨rfl, sub_cons.2 ⟨rfl, sub_cons.2 ⟨rfl, sub_cons.2 ⟨rfl, sub_cons.2 ⟨rfl, sub_cons.2 ⟨rfl, sub_nil⟩⟩⟩⟩⟩⟩⟩⟩⟩⟩⟩⟩⟩⟩⟩⟩) (toS0_012 hI hl)
  · refine ⟨_, rfl, ?_⟩
    refine wz ?_
    refine oli ER [] rfl rfl rfl rfl rfl (fun g w1 l => ?_)
    refine dg (List.Sublist.cons _ (List.Sublist.cons _ (List.Sublist.cons _ (List.Sublist.cons _ (List.Sublist.refl _))))) ?_
    exact wpick [1, 2, 0, 3, 4] (by decide) rfl (sub_cons.2 ⟨rfl, sub_cons.2 ⟨rfl, sub_cons.2 ⟨rfl, sub_cons.2 ⟨rfl, sub_cons.2 ⟨rfl, sub_cons.2 ⟨rfl, sub_cons.2 ⟨rfl, sub_cons.2 ⟨rfl, sub_cons.2 ⟨rfl, sub_cons.2 ⟨rfl, sub_cons.2 ⟨rfl, sub_cons.2 ⟨rfl, sub_cons.2 ⟨rfl, sub_cons.2 ⟨rfl, sub_cons.2 ⟨rfl, sub_cons.2 ⟨rfl, sub_nil⟩⟩⟩⟩⟩⟩⟩⟩⟩⟩⟩⟩⟩⟩⟩⟩) (toS0_013 hI hl)
theorem toS0_02 {u0 u2 : Value} {m : Msg} {s : MsgS} {w0 w : World} {g1 g2 : Nat} (hI : MsgIn w0 m s) (hl : m.ask.length ≤ 320 ∧ m.answers.length ≤ 320 ∧ m.authority.length ≤ 320 ∧ m.extra.length ≤ 320) :
    WK toN (wd Tryd.prog toOps (toQ m w0) ⟨[], w0, [bx g1 (.cells (m.val s).cells 46 (0, 0))]⟩ 8 #[true, true, true, true, true, true, true, true, true, true, true, true, true, true, true, true, true, true, true, false, false, true, true, false, true, true, true, false, false, true, true, false, false, false]) [(2, .pointer (some ⟨g2, 0, none⟩)), (4, .int .i64 m.id), (6, .bool m.answer), (8, .int .i64 m.kind), (10, .bool m.own), (12, .bool m.cut), (14, .bool m.wanted), (16, .bool m.able), (18, .int .i64 m.code), (21, EW.val s.a), (25, EW.val s.b), (29, EW.val s.c), (33, EW.val s.d), (19, u0), (27, u2)] ⟨[], w0, [ow EQ 42 u0 [], ow ER 61 u2 [], bx g2 (.cells zeroM 49 (0, 0)), bx g1 (.cells (m.val s).cells 46 (0, 0))]⟩ w := by
  refine da (rs := [19, 20, 28]) (by decide +kernel) rfl (fun i hi => ?_)
  simp only [List.mem_cons, List.mem_nil_iff, or_false] at hi
  rcases hi with rfl | rfl | rfl
  · refine ⟨_, rfl, ?_⟩
    refine wz ?_
    refine oap 0 rfl rfl rfl rfl rfl (sl_arg hI.a rfl) (by simp only [List.length_nil]; omega) rfl (fun v w1 => ?_)
    refine dg (List.Sublist.cons _ (List.Sublist.cons _ (List.Sublist.cons _ (List.Sublist.refl _)))) ?_
    exact wpick [0, 1, 2, 3] (by decide) rfl (sub_cons.2 ⟨rfl, sub_cons.2 ⟨rfl, sub_cons.2 ⟨rfl, sub_cons.2 ⟨rfl, sub_cons.2 ⟨rfl, sub_cons.2 ⟨rfl, sub_cons.2 ⟨rfl, sub_cons.2 ⟨rfl, sub_cons.2 ⟨rfl, sub_cons.2 ⟨rfl, sub_cons.2 ⟨rfl, sub_cons.2 ⟨rfl, sub_cons.2 ⟨rfl, sub_cons.2 ⟨rfl, sub_cons.2 ⟨rfl, sub_nil⟩⟩⟩⟩⟩⟩⟩⟩⟩⟩⟩⟩⟩⟩⟩) (toS1_2 hI hl)
  · refine ⟨_, rfl, ?_⟩
    refine wz ?_
    refine oli ER [] rfl rfl rfl rfl rfl (fun g w1 l => ?_)
    refine dg (List.Sublist.cons _ (List.Sublist.cons _ (List.Sublist.cons _ (List.Sublist.cons _ (List.Sublist.refl _))))) ?_
    exact wpick [1, 0, 2, 3, 4] (by decide) rfl (sub_cons.2 ⟨rfl, sub_cons.2 ⟨rfl, sub_cons.2 ⟨rfl, sub_cons.2 ⟨rfl, sub_cons.2 ⟨rfl, sub_cons.2 ⟨rfl, sub_cons.2 ⟨rfl, sub_cons.2 ⟨rfl, sub_cons.2 ⟨rfl, sub_cons.2 ⟨rfl, sub_cons.2 ⟨rfl, sub_cons.2 ⟨rfl, sub_cons.2 ⟨rfl, sub_cons.2 ⟨rfl, sub_cons.2 ⟨rfl, sub_cons.2 ⟨rfl, sub_nil⟩⟩⟩⟩⟩⟩⟩⟩⟩⟩⟩⟩⟩⟩⟩⟩) (toS0_012 hI hl)
  · refine ⟨_, rfl, ?_⟩
    refine wz ?_
    refine oli ER [] rfl rfl rfl rfl rfl (fun g w1 l => ?_)
    refine dg (List.Sublist.cons _ (List.Sublist.cons _ (List.Sublist.cons _ (List.Sublist.cons _ (List.Sublist.refl _))))) ?_
    exact wpick [1, 2, 0, 3, 4] (by decide) rfl (sub_cons.2 ⟨rfl, sub_cons.2 ⟨rfl, sub_cons.2 ⟨rfl, sub_cons.2 ⟨rfl, sub_cons.2 ⟨rfl, sub_cons.2 ⟨rfl, sub_cons.2 ⟨rfl, sub_cons.2 ⟨rfl, sub_cons.2 ⟨rfl, sub_cons.2 ⟨rfl, sub_cons.2 ⟨rfl, sub_cons.2 ⟨rfl, sub_cons.2 ⟨rfl, sub_cons.2 ⟨rfl, sub_cons.2 ⟨rfl, sub_cons.2 ⟨rfl, sub_nil⟩⟩⟩⟩⟩⟩⟩⟩⟩⟩⟩⟩⟩⟩⟩⟩) (toS0_023 hI hl)
theorem toS0_03 {u0 u3 : Value} {m : Msg} {s : MsgS} {w0 w : World} {g1 g2 : Nat} (hI : MsgIn w0 m s) (hl : m.ask.length ≤ 320 ∧ m.answers.length ≤ 320 ∧ m.authority.length ≤ 320 ∧ m.extra.length ≤ 320) :
    WK toN (wd Tryd.prog toOps (toQ m w0) ⟨[], w0, [bx g1 (.cells (m.val s).cells 46 (0, 0))]⟩ 8 #[true, true, true, true, true, true, true, true, true, true, true, true, true, true, true, true, true, true, true, false, false, true, true, false, false, true, true, false, true, true, true, false, false, false]) [(2, .pointer (some ⟨g2, 0, none⟩)), (4, .int .i64 m.id), (6, .bool m.answer), (8, .int .i64 m.kind), (10, .bool m.own), (12, .bool m.cut), (14, .bool m.wanted), (16, .bool m.able), (18, .int .i64 m.code), (21, EW.val s.a), (25, EW.val s.b), (29, EW.val s.c), (33, EW.val s.d), (19, u0), (31, u3)] ⟨[], w0, [ow EQ 42 u0 [], ow ER 61 u3 [], bx g2 (.cells zeroM 49 (0, 0)), bx g1 (.cells (m.val s).cells 46 (0, 0))]⟩ w := by
  refine da (rs := [19, 20, 24]) (by decide +kernel) rfl (fun i hi => ?_)
  simp only [List.mem_cons, List.mem_nil_iff, or_false] at hi
  rcases hi with rfl | rfl | rfl
  · refine ⟨_, rfl, ?_⟩
    refine wz ?_
    refine oap 0 rfl rfl rfl rfl rfl (sl_arg hI.a rfl) (by simp only [List.length_nil]; omega) rfl (fun v w1 => ?_)
    refine dg (List.Sublist.cons _ (List.Sublist.cons _ (List.Sublist.cons _ (List.Sublist.refl _)))) ?_
    exact wpick [0, 1, 2, 3] (by decide) rfl (sub_cons.2 ⟨rfl, sub_cons.2 ⟨rfl, sub_cons.2 ⟨rfl, sub_cons.2 ⟨rfl, sub_cons.2 ⟨rfl, sub_cons.2 ⟨rfl, sub_cons.2 ⟨rfl, sub_cons.2 ⟨rfl, sub_cons.2 ⟨rfl, sub_cons.2 ⟨rfl, sub_cons.2 ⟨rfl, sub_cons.2 ⟨rfl, sub_cons.2 ⟨rfl, sub_cons.2 ⟨rfl, sub_cons.2 ⟨rfl, sub_nil⟩⟩⟩⟩⟩⟩⟩⟩⟩⟩⟩⟩⟩⟩⟩) (toS1_3 hI hl)
  · refine ⟨_, rfl, ?_⟩
    refine wz ?_
    refine oli ER [] rfl rfl rfl rfl rfl (fun g w1 l => ?_)
    refine dg (List.Sublist.cons _ (List.Sublist.cons _ (List.Sublist.cons _ (List.Sublist.cons _ (List.Sublist.refl _))))) ?_
    exact wpick [1, 0, 2, 3, 4] (by decide) rfl (sub_cons.2 ⟨rfl, sub_cons.2 ⟨rfl, sub_cons.2 ⟨rfl, sub_cons.2 ⟨rfl, sub_cons.2 ⟨rfl, sub_cons.2 ⟨rfl, sub_cons.2 ⟨rfl, sub_cons.2 ⟨rfl, sub_cons.2 ⟨rfl, sub_cons.2 ⟨rfl, sub_cons.2 ⟨rfl, sub_cons.2 ⟨rfl, sub_cons.2 ⟨rfl, sub_cons.2 ⟨rfl, sub_cons.2 ⟨rfl, sub_cons.2 ⟨rfl, sub_nil⟩⟩⟩⟩⟩⟩⟩⟩⟩⟩⟩⟩⟩⟩⟩⟩) (toS0_013 hI hl)
  · refine ⟨_, rfl, ?_⟩
    refine wz ?_
    refine oli ER [] rfl rfl rfl rfl rfl (fun g w1 l => ?_)
    refine dg (List.Sublist.cons _ (List.Sublist.cons _ (List.Sublist.cons _ (List.Sublist.cons _ (List.Sublist.refl _))))) ?_
    exact wpick [1, 0, 2, 3, 4] (by decide) rfl (sub_cons.2 ⟨rfl, sub_cons.2 ⟨rfl, sub_cons.2 ⟨rfl, sub_cons.2 ⟨rfl, sub_cons.2 ⟨rfl, sub_cons.2 ⟨rfl, sub_cons.2 ⟨rfl, sub_cons.2 ⟨rfl, sub_cons.2 ⟨rfl, sub_cons.2 ⟨rfl, sub_cons.2 ⟨rfl, sub_cons.2 ⟨rfl, sub_cons.2 ⟨rfl, sub_cons.2 ⟨rfl, sub_cons.2 ⟨rfl, sub_cons.2 ⟨rfl, sub_nil⟩⟩⟩⟩⟩⟩⟩⟩⟩⟩⟩⟩⟩⟩⟩⟩) (toS0_023 hI hl)
theorem toS0_12 {u1 u2 : Value} {m : Msg} {s : MsgS} {w0 w : World} {g1 g2 : Nat} (hI : MsgIn w0 m s) (hl : m.ask.length ≤ 320 ∧ m.answers.length ≤ 320 ∧ m.authority.length ≤ 320 ∧ m.extra.length ≤ 320) :
    WK toN (wd Tryd.prog toOps (toQ m w0) ⟨[], w0, [bx g1 (.cells (m.val s).cells 46 (0, 0))]⟩ 8 #[true, true, true, true, true, true, true, true, true, true, true, true, true, true, true, true, false, true, true, false, true, true, true, false, true, true, true, false, false, true, true, false, false, false]) [(2, .pointer (some ⟨g2, 0, none⟩)), (4, .int .i64 m.id), (6, .bool m.answer), (8, .int .i64 m.kind), (10, .bool m.own), (12, .bool m.cut), (14, .bool m.wanted), (16, .bool m.able), (18, .int .i64 m.code), (21, EW.val s.a), (25, EW.val s.b), (29, EW.val s.c), (33, EW.val s.d), (23, u1), (27, u2)] ⟨[], w0, [ow ER 61 u1 [], ow ER 61 u2 [], bx g2 (.cells zeroM 49 (0, 0)), bx g1 (.cells (m.val s).cells 46 (0, 0))]⟩ w := by
  refine da (rs := [16, 28]) (by decide +kernel) rfl (fun i hi => ?_)
  simp only [List.mem_cons, List.mem_nil_iff, or_false] at hi
  rcases hi with rfl | rfl
  · refine ⟨_, rfl, ?_⟩
    refine wz ?_
    refine oli EQ [] rfl rfl rfl rfl rfl (fun g w1 l => ?_)
    refine dg (List.Sublist.cons _ (List.Sublist.cons _ (List.Sublist.cons _ (List.Sublist.cons _ (List.Sublist.refl _))))) ?_
    exact wpick [0, 1, 2, 3, 4] (by decide) rfl (sub_cons.2 ⟨rfl, sub_cons.2 ⟨rfl, sub_cons.2 ⟨rfl, sub_cons.2 ⟨rfl, sub_cons.2 ⟨rfl, sub_cons.2 ⟨rfl, sub_cons.2 ⟨rfl, sub_cons.2 ⟨rfl, sub_cons.2 ⟨rfl, sub_cons.2 ⟨rfl, sub_cons.2 ⟨rfl, sub_cons.2 ⟨rfl, sub_cons.2 ⟨rfl, sub_cons.2 ⟨rfl, sub_cons.2 ⟨rfl, sub_cons.2 ⟨rfl, sub_nil⟩⟩⟩⟩⟩⟩⟩⟩⟩⟩⟩⟩⟩⟩⟩⟩) (toS0_012 hI hl)
  · refine ⟨_, rfl, ?_⟩
    refine wz ?_
    refine oli ER [] rfl rfl rfl rfl rfl (fun g w1 l => ?_)
    refine dg (List.Sublist.cons _ (List.Sublist.cons _ (List.Sublist.cons _ (List.Sublist.cons _ (List.Sublist.refl _))))) ?_
    exact wpick [1, 2, 0, 3, 4] (by decide) rfl (sub_cons.2 ⟨rfl, sub_cons.2 ⟨rfl, sub_cons.2 ⟨rfl, sub_cons.2 ⟨rfl, sub_cons.2 ⟨rfl, sub_cons.2 ⟨rfl, sub_cons.2 ⟨rfl, sub_cons.2 ⟨rfl, sub_cons.2 ⟨rfl, sub_cons.2 ⟨rfl, sub_cons.2 ⟨rfl, sub_cons.2 ⟨rfl, sub_cons.2 ⟨rfl, sub_cons.2 ⟨rfl, sub_cons.2 ⟨rfl, sub_cons.2 ⟨rfl, sub_nil⟩⟩⟩⟩⟩⟩⟩⟩⟩⟩⟩⟩⟩⟩⟩⟩) (toS0_123 hI hl)
theorem toS0_13 {u1 u3 : Value} {m : Msg} {s : MsgS} {w0 w : World} {g1 g2 : Nat} (hI : MsgIn w0 m s) (hl : m.ask.length ≤ 320 ∧ m.answers.length ≤ 320 ∧ m.authority.length ≤ 320 ∧ m.extra.length ≤ 320) :
    WK toN (wd Tryd.prog toOps (toQ m w0) ⟨[], w0, [bx g1 (.cells (m.val s).cells 46 (0, 0))]⟩ 8 #[true, true, true, true, true, true, true, true, true, true, true, true, true, true, true, true, false, true, true, false, true, true, true, false, false, true, true, false, true, true, true, false, false, false]) [(2, .pointer (some ⟨g2, 0, none⟩)), (4, .int .i64 m.id), (6, .bool m.answer), (8, .int .i64 m.kind), (10, .bool m.own), (12, .bool m.cut), (14, .bool m.wanted), (16, .bool m.able), (18, .int .i64 m.code), (21, EW.val s.a), (25, EW.val s.b), (29, EW.val s.c), (33, EW.val s.d), (23, u1), (31, u3)] ⟨[], w0, [ow ER 61 u1 [], ow ER 61 u3 [], bx g2 (.cells zeroM 49 (0, 0)), bx g1 (.cells (m.val s).cells 46 (0, 0))]⟩ w := by
  refine da (rs := [16, 24]) (by decide +kernel) rfl (fun i hi => ?_)
  simp only [List.mem_cons, List.mem_nil_iff, or_false] at hi
  rcases hi with rfl | rfl
  · refine ⟨_, rfl, ?_⟩
    refine wz ?_
    refine oli EQ [] rfl rfl rfl rfl rfl (fun g w1 l => ?_)
    refine dg (List.Sublist.cons _ (List.Sublist.cons _ (List.Sublist.cons _ (List.Sublist.cons _ (List.Sublist.refl _))))) ?_
    exact wpick [0, 1, 2, 3, 4] (by decide) rfl (sub_cons.2 ⟨rfl, sub_cons.2 ⟨rfl, sub_cons.2 ⟨rfl, sub_cons.2 ⟨rfl, sub_cons.2 ⟨rfl, sub_cons.2 ⟨rfl, sub_cons.2 ⟨rfl, sub_cons.2 ⟨rfl, sub_cons.2 ⟨rfl, sub_cons.2 ⟨rfl, sub_cons.2 ⟨rfl, sub_cons.2 ⟨rfl, sub_cons.2 ⟨rfl, sub_cons.2 ⟨rfl, sub_cons.2 ⟨rfl, sub_cons.2 ⟨rfl, sub_nil⟩⟩⟩⟩⟩⟩⟩⟩⟩⟩⟩⟩⟩⟩⟩⟩) (toS0_013 hI hl)
  · refine ⟨_, rfl, ?_⟩
    refine wz ?_
    refine oli ER [] rfl rfl rfl rfl rfl (fun g w1 l => ?_)
    refine dg (List.Sublist.cons _ (List.Sublist.cons _ (List.Sublist.cons _ (List.Sublist.cons _ (List.Sublist.refl _))))) ?_
    exact wpick [1, 0, 2, 3, 4] (by decide) rfl (sub_cons.2 ⟨rfl, sub_cons.2 ⟨rfl, sub_cons.2 ⟨rfl, sub_cons.2 ⟨rfl, sub_cons.2 ⟨rfl, sub_cons.2 ⟨rfl, sub_cons.2 ⟨rfl, sub_cons.2 ⟨rfl, sub_cons.2 ⟨rfl, sub_cons.2 ⟨rfl, sub_cons.2 ⟨rfl, sub_cons.2 ⟨rfl, sub_cons.2 ⟨rfl, sub_cons.2 ⟨rfl, sub_cons.2 ⟨rfl, sub_cons.2 ⟨rfl, sub_nil⟩⟩⟩⟩⟩⟩⟩⟩⟩⟩⟩⟩⟩⟩⟩⟩) (toS0_123 hI hl)
theorem toS0_23 {u2 u3 : Value} {m : Msg} {s : MsgS} {w0 w : World} {g1 g2 : Nat} (hI : MsgIn w0 m s) (hl : m.ask.length ≤ 320 ∧ m.answers.length ≤ 320 ∧ m.authority.length ≤ 320 ∧ m.extra.length ≤ 320) :
    WK toN (wd Tryd.prog toOps (toQ m w0) ⟨[], w0, [bx g1 (.cells (m.val s).cells 46 (0, 0))]⟩ 8 #[true, true, true, true, true, true, true, true, true, true, true, true, true, true, true, true, false, true, true, false, false, true, true, false, true, true, true, false, true, true, true, false, false, false]) [(2, .pointer (some ⟨g2, 0, none⟩)), (4, .int .i64 m.id), (6, .bool m.answer), (8, .int .i64 m.kind), (10, .bool m.own), (12, .bool m.cut), (14, .bool m.wanted), (16, .bool m.able), (18, .int .i64 m.code), (21, EW.val s.a), (25, EW.val s.b), (29, EW.val s.c), (33, EW.val s.d), (27, u2), (31, u3)] ⟨[], w0, [ow ER 61 u2 [], ow ER 61 u3 [], bx g2 (.cells zeroM 49 (0, 0)), bx g1 (.cells (m.val s).cells 46 (0, 0))]⟩ w := by
  refine da (rs := [16, 20]) (by decide +kernel) rfl (fun i hi => ?_)
  simp only [List.mem_cons, List.mem_nil_iff, or_false] at hi
  rcases hi with rfl | rfl
  · refine ⟨_, rfl, ?_⟩
    refine wz ?_
    refine oli EQ [] rfl rfl rfl rfl rfl (fun g w1 l => ?_)
    refine dg (List.Sublist.cons _ (List.Sublist.cons _ (List.Sublist.cons _ (List.Sublist.cons _ (List.Sublist.refl _))))) ?_
    exact wpick [0, 1, 2, 3, 4] (by decide) rfl (sub_cons.2 ⟨rfl, sub_cons.2 ⟨rfl, sub_cons.2 ⟨rfl, sub_cons.2 ⟨rfl, sub_cons.2 ⟨rfl, sub_cons.2 ⟨rfl, sub_cons.2 ⟨rfl, sub_cons.2 ⟨rfl, sub_cons.2 ⟨rfl, sub_cons.2 ⟨rfl, sub_cons.2 ⟨rfl, sub_cons.2 ⟨rfl, sub_cons.2 ⟨rfl, sub_cons.2 ⟨rfl, sub_cons.2 ⟨rfl, sub_cons.2 ⟨rfl, sub_nil⟩⟩⟩⟩⟩⟩⟩⟩⟩⟩⟩⟩⟩⟩⟩⟩) (toS0_023 hI hl)
  · refine ⟨_, rfl, ?_⟩
    refine wz ?_
    refine oli ER [] rfl rfl rfl rfl rfl (fun g w1 l => ?_)
    refine dg (List.Sublist.cons _ (List.Sublist.cons _ (List.Sublist.cons _ (List.Sublist.cons _ (List.Sublist.refl _))))) ?_
    exact wpick [0, 1, 2, 3, 4] (by decide) rfl (sub_cons.2 ⟨rfl, sub_cons.2 ⟨rfl, sub_cons.2 ⟨rfl, sub_cons.2 ⟨rfl, sub_cons.2 ⟨rfl, sub_cons.2 ⟨rfl, sub_cons.2 ⟨rfl, sub_cons.2 ⟨rfl, sub_cons.2 ⟨rfl, sub_cons.2 ⟨rfl, sub_cons.2 ⟨rfl, sub_cons.2 ⟨rfl, sub_cons.2 ⟨rfl, sub_cons.2 ⟨rfl, sub_cons.2 ⟨rfl, sub_cons.2 ⟨rfl, sub_nil⟩⟩⟩⟩⟩⟩⟩⟩⟩⟩⟩⟩⟩⟩⟩⟩) (toS0_123 hI hl)
theorem toS0_0 {u0 : Value} {m : Msg} {s : MsgS} {w0 w : World} {g1 g2 : Nat} (hI : MsgIn w0 m s) (hl : m.ask.length ≤ 320 ∧ m.answers.length ≤ 320 ∧ m.authority.length ≤ 320 ∧ m.extra.length ≤ 320) :
    WK toN (wd Tryd.prog toOps (toQ m w0) ⟨[], w0, [bx g1 (.cells (m.val s).cells 46 (0, 0))]⟩ 9 #[true, true, true, true, true, true, true, true, true, true, true, true, true, true, true, true, true, true, true, false, false, true, true, false, false, true, true, false, false, true, true, false, false, false]) [(2, .pointer (some ⟨g2, 0, none⟩)), (4, .int .i64 m.id), (6, .bool m.answer), (8, .int .i64 m.kind), (10, .bool m.own), (12, .bool m.cut), (14, .bool m.wanted), (16, .bool m.able), (18, .int .i64 m.code), (21, EW.val s.a), (25, EW.val s.b), (29, EW.val s.c), (33, EW.val s.d), (19, u0)] ⟨[], w0, [ow EQ 42 u0 [], bx g2 (.cells zeroM 49 (0, 0)), bx g1 (.cells (m.val s).cells 46 (0, 0))]⟩ w := by
  refine da (rs := [19, 20, 24, 28]) (by decide +kernel) rfl (fun i hi => ?_)
  simp only [List.mem_cons, List.mem_nil_iff, or_false] at hi
  rcases hi with rfl | rfl | rfl | rfl
  · refine ⟨_, rfl, ?_⟩
    refine wz ?_
    refine oap 0 rfl rfl rfl rfl rfl (sl_arg hI.a rfl) (by simp only [List.length_nil]; omega) rfl (fun v w1 => ?_)
    refine dg (List.Sublist.cons _ (List.Sublist.cons _ (List.Sublist.refl _))) ?_
    exact wpick [0, 1, 2] (by decide) rfl (sub_cons.2 ⟨rfl, sub_cons.2 ⟨rfl, sub_cons.2 ⟨rfl, sub_cons.2 ⟨rfl, sub_cons.2 ⟨rfl, sub_cons.2 ⟨rfl, sub_cons.2 ⟨rfl, sub_cons.2 ⟨rfl, sub_cons.2 ⟨rfl, sub_cons.2 ⟨rfl, sub_cons.2 ⟨rfl, sub_cons.2 ⟨rfl, sub_cons.2 ⟨rfl, sub_cons.2 ⟨rfl, sub_nil⟩⟩⟩⟩⟩⟩⟩⟩⟩⟩⟩⟩⟩⟩) (toS1_n hI hl)
  · refine ⟨_, rfl, ?_⟩
    refine wz ?_
    refine oli ER [] rfl rfl rfl rfl rfl (fun g w1 l => ?_)
    refine dg (List.Sublist.cons _ (List.Sublist.cons _ (List.Sublist.cons _ (List.Sublist.refl _)))) ?_
    exact wpick [1, 0, 2, 3] (by decide) rfl (sub_cons.2 ⟨rfl, sub_cons.2 ⟨rfl, sub_cons.2 ⟨rfl, sub_cons.2 ⟨rfl, sub_cons.2 ⟨rfl, sub_cons.2 ⟨rfl, sub_cons.2 ⟨rfl, sub_cons.2 ⟨rfl, sub_cons.2 ⟨rfl, sub_cons.2 ⟨rfl, sub_cons.2 ⟨rfl, sub_cons.2 ⟨rfl, sub_cons.2 ⟨rfl, sub_cons.2 ⟨rfl, sub_cons.2 ⟨rfl, sub_nil⟩⟩⟩⟩⟩⟩⟩⟩⟩⟩⟩⟩⟩⟩⟩) (toS0_01 hI hl)
  · refine ⟨_, rfl, ?_⟩
    refine wz ?_
    refine oli ER [] rfl rfl rfl rfl rfl (fun g w1 l => ?_)
    refine dg (List.Sublist.cons _ (List.Sublist.cons _ (List.Sublist.cons _ (List.Sublist.refl _)))) ?_
    exact wpick [1, 0, 2, 3] (by decide) rfl (sub_cons.2 ⟨rfl, sub_cons.2 ⟨rfl, sub_cons.2 ⟨rfl, sub_cons.2 ⟨rfl, sub_cons.2 ⟨rfl, sub_cons.2 ⟨rfl, sub_cons.2 ⟨rfl, sub_cons.2 ⟨rfl, sub_cons.2 ⟨rfl, sub_cons.2 ⟨rfl, sub_cons.2 ⟨rfl, sub_cons.2 ⟨rfl, sub_cons.2 ⟨rfl, sub_cons.2 ⟨rfl, sub_cons.2 ⟨rfl, sub_nil⟩⟩⟩⟩⟩⟩⟩⟩⟩⟩⟩⟩⟩⟩⟩) (toS0_02 hI hl)
  · refine ⟨_, rfl, ?_⟩
    refine wz ?_
    refine oli ER [] rfl rfl rfl rfl rfl (fun g w1 l => ?_)
    refine dg (List.Sublist.cons _ (List.Sublist.cons _ (List.Sublist.cons _ (List.Sublist.refl _)))) ?_
    exact wpick [1, 0, 2, 3] (by decide) rfl (sub_cons.2 ⟨rfl, sub_cons.2 ⟨rfl, sub_cons.2 ⟨rfl, sub_cons.2 ⟨rfl, sub_cons.2 ⟨rfl, sub_cons.2 ⟨rfl, sub_cons.2 ⟨rfl, sub_cons.2 ⟨rfl, sub_cons.2 ⟨rfl, sub_cons.2 ⟨rfl, sub_cons.2 ⟨rfl, sub_cons.2 ⟨rfl, sub_cons.2 ⟨rfl, sub_cons.2 ⟨rfl, sub_cons.2 ⟨rfl, sub_nil⟩⟩⟩⟩⟩⟩⟩⟩⟩⟩⟩⟩⟩⟩⟩) (toS0_03 hI hl)
theorem toS0_1 {u1 : Value} {m : Msg} {s : MsgS} {w0 w : World} {g1 g2 : Nat} (hI : MsgIn w0 m s) (hl : m.ask.length ≤ 320 ∧ m.answers.length ≤ 320 ∧ m.authority.length ≤ 320 ∧ m.extra.length ≤ 320) :
    WK toN (wd Tryd.prog toOps (toQ m w0) ⟨[], w0, [bx g1 (.cells (m.val s).cells 46 (0, 0))]⟩ 9 #[true, true, true, true, true, true, true, true, true, true, true, true, true, true, true, true, false, true, true, false, true, true, true, false, false, true, true, false, false, true, true, false, false, false]) [(2, .pointer (some ⟨g2, 0, none⟩)), (4, .int .i64 m.id), (6, .bool m.answer), (8, .int .i64 m.kind), (10, .bool m.own), (12, .bool m.cut), (14, .bool m.wanted), (16, .bool m.able), (18, .int .i64 m.code), (21, EW.val s.a), (25, EW.val s.b), (29, EW.val s.c), (33, EW.val s.d), (23, u1)] ⟨[], w0, [ow ER 61 u1 [], bx g2 (.cells zeroM 49 (0, 0)), bx g1 (.cells (m.val s).cells 46 (0, 0))]⟩ w := by
  refine da (rs := [16, 24, 28]) (by decide +kernel) rfl (fun i hi => ?_)
  simp only [List.mem_cons, List.mem_nil_iff, or_false] at hi
  rcases hi with rfl | rfl | rfl
  · refine ⟨_, rfl, ?_⟩
    refine wz ?_
    refine oli EQ [] rfl rfl rfl rfl rfl (fun g w1 l => ?_)
    refine dg (List.Sublist.cons _ (List.Sublist.cons _ (List.Sublist.cons _ (List.Sublist.refl _)))) ?_
    exact wpick [0, 1, 2, 3] (by decide) rfl (sub_cons.2 ⟨rfl, sub_cons.2 ⟨rfl, sub_cons.2 ⟨rfl, sub_cons.2 ⟨rfl, sub_cons.2 ⟨rfl, sub_cons.2 ⟨rfl, sub_cons.2 ⟨rfl, sub_cons.2 ⟨rfl, sub_cons.2 ⟨rfl, sub_cons.2 ⟨rfl, sub_cons.2 ⟨rfl, sub_cons.2 ⟨rfl, sub_cons.2 ⟨rfl, sub_cons.2 ⟨rfl, sub_cons.2 ⟨rfl, sub_nil⟩⟩⟩⟩⟩⟩⟩⟩⟩⟩⟩⟩⟩⟩⟩) (toS0_01 hI hl)
  · refine ⟨_, rfl, ?_⟩
    refine wz ?_
    refine oli ER [] rfl rfl rfl rfl rfl (fun g w1 l => ?_)
    refine dg (List.Sublist.cons _ (List.Sublist.cons _ (List.Sublist.cons _ (List.Sublist.refl _)))) ?_
    exact wpick [1, 0, 2, 3] (by decide) rfl (sub_cons.2 ⟨rfl, sub_cons.2 ⟨rfl, sub_cons.2 ⟨rfl, sub_cons.2 ⟨rfl, sub_cons.2 ⟨rfl, sub_cons.2 ⟨rfl, sub_cons.2 ⟨rfl, sub_cons.2 ⟨rfl, sub_cons.2 ⟨rfl, sub_cons.2 ⟨rfl, sub_cons.2 ⟨rfl, sub_cons.2 ⟨rfl, sub_cons.2 ⟨rfl, sub_cons.2 ⟨rfl, sub_cons.2 ⟨rfl, sub_nil⟩⟩⟩⟩⟩⟩⟩⟩⟩⟩⟩⟩⟩⟩⟩) (toS0_12 hI hl)
  · refine ⟨_, rfl, ?_⟩
    refine wz ?_
    refine oli ER [] rfl rfl rfl rfl rfl (fun g w1 l => ?_)
    refine dg (List.Sublist.cons _ (List.Sublist.cons _ (List.Sublist.cons _ (List.Sublist.refl _)))) ?_
    exact wpick [1, 0, 2, 3] (by decide) rfl (sub_cons.2 ⟨rfl, sub_cons.2 ⟨rfl, sub_cons.2 ⟨rfl, sub_cons.2 ⟨rfl, sub_cons.2 ⟨rfl, sub_cons.2 ⟨rfl, sub_cons.2 ⟨rfl, sub_cons.2 ⟨rfl, sub_cons.2 ⟨rfl, sub_cons.2 ⟨rfl, sub_cons.2 ⟨rfl, sub_cons.2 ⟨rfl, sub_cons.2 ⟨rfl, sub_cons.2 ⟨rfl, sub_cons.2 ⟨rfl, sub_nil⟩⟩⟩⟩⟩⟩⟩⟩⟩⟩⟩⟩⟩⟩⟩) (toS0_13 hI hl)
theorem toS0_2 {u2 : Value} {m : Msg} {s : MsgS} {w0 w : World} {g1 g2 : Nat} (hI : MsgIn w0 m s) (hl : m.ask.length ≤ 320 ∧ m.answers.length ≤ 320 ∧ m.authority.length ≤ 320 ∧ m.extra.length ≤ 320) :
    WK toN (wd Tryd.prog toOps (toQ m w0) ⟨[], w0, [bx g1 (.cells (m.val s).cells 46 (0, 0))]⟩ 9 #[true, true, true, true, true, true, true, true, true, true, true, true, true, true, true, true, false, true, true, false, false, true, true, false, true, true, true, false, false, true, true, false, false, false]) [(2, .pointer (some ⟨g2, 0, none⟩)), (4, .int .i64 m.id), (6, .bool m.answer), (8, .int .i64 m.kind), (10, .bool m.own), (12, .bool m.cut), (14, .bool m.wanted), (16, .bool m.able), (18, .int .i64 m.code), (21, EW.val s.a), (25, EW.val s.b), (29, EW.val s.c), (33, EW.val s.d), (27, u2)] ⟨[], w0, [ow ER 61 u2 [], bx g2 (.cells zeroM 49 (0, 0)), bx g1 (.cells (m.val s).cells 46 (0, 0))]⟩ w := by
  refine da (rs := [16, 20, 28]) (by decide +kernel) rfl (fun i hi => ?_)
  simp only [List.mem_cons, List.mem_nil_iff, or_false] at hi
  rcases hi with rfl | rfl | rfl
  · refine ⟨_, rfl, ?_⟩
    refine wz ?_
    refine oli EQ [] rfl rfl rfl rfl rfl (fun g w1 l => ?_)
    refine dg (List.Sublist.cons _ (List.Sublist.cons _ (List.Sublist.cons _ (List.Sublist.refl _)))) ?_
    exact wpick [0, 1, 2, 3] (by decide) rfl (sub_cons.2 ⟨rfl, sub_cons.2 ⟨rfl, sub_cons.2 ⟨rfl, sub_cons.2 ⟨rfl, sub_cons.2 ⟨rfl, sub_cons.2 ⟨rfl, sub_cons.2 ⟨rfl, sub_cons.2 ⟨rfl, sub_cons.2 ⟨rfl, sub_cons.2 ⟨rfl, sub_cons.2 ⟨rfl, sub_cons.2 ⟨rfl, sub_cons.2 ⟨rfl, sub_cons.2 ⟨rfl, sub_cons.2 ⟨rfl, sub_nil⟩⟩⟩⟩⟩⟩⟩⟩⟩⟩⟩⟩⟩⟩⟩) (toS0_02 hI hl)
  · refine ⟨_, rfl, ?_⟩
    refine wz ?_
    refine oli ER [] rfl rfl rfl rfl rfl (fun g w1 l => ?_)
    refine dg (List.Sublist.cons _ (List.Sublist.cons _ (List.Sublist.cons _ (List.Sublist.refl _)))) ?_
    exact wpick [0, 1, 2, 3] (by decide) rfl (sub_cons.2 ⟨rfl, sub_cons.2 ⟨rfl, sub_cons.2 ⟨rfl, sub_cons.2 ⟨rfl, sub_cons.2 ⟨rfl, sub_cons.2 ⟨rfl, sub_cons.2 ⟨rfl, sub_cons.2 ⟨rfl, sub_cons.2 ⟨rfl, sub_cons.2 ⟨rfl, sub_cons.2 ⟨rfl, sub_cons.2 ⟨rfl, sub_cons.2 ⟨rfl, sub_cons.2 ⟨rfl, sub_cons.2 ⟨rfl, sub_nil⟩⟩⟩⟩⟩⟩⟩⟩⟩⟩⟩⟩⟩⟩⟩) (toS0_12 hI hl)
  · refine ⟨_, rfl, ?_⟩
    refine wz ?_
    refine oli ER [] rfl rfl rfl rfl rfl (fun g w1 l => ?_)
    refine dg (List.Sublist.cons _ (List.Sublist.cons _ (List.Sublist.cons _ (List.Sublist.refl _)))) ?_
    exact wpick [1, 0, 2, 3] (by decide) rfl (sub_cons.2 ⟨rfl, sub_cons.2 ⟨rfl, sub_cons.2 ⟨rfl, sub_cons.2 ⟨rfl, sub_cons.2 ⟨rfl, sub_cons.2 ⟨rfl, sub_cons.2 ⟨rfl, sub_cons.2 ⟨rfl, sub_cons.2 ⟨rfl, sub_cons.2 ⟨rfl, sub_cons.2 ⟨rfl, sub_cons.2 ⟨rfl, sub_cons.2 ⟨rfl, sub_cons.2 ⟨rfl, sub_cons.2 ⟨rfl, sub_nil⟩⟩⟩⟩⟩⟩⟩⟩⟩⟩⟩⟩⟩⟩⟩) (toS0_23 hI hl)
theorem toS0_3 {u3 : Value} {m : Msg} {s : MsgS} {w0 w : World} {g1 g2 : Nat} (hI : MsgIn w0 m s) (hl : m.ask.length ≤ 320 ∧ m.answers.length ≤ 320 ∧ m.authority.length ≤ 320 ∧ m.extra.length ≤ 320) :
    WK toN (wd Tryd.prog toOps (toQ m w0) ⟨[], w0, [bx g1 (.cells (m.val s).cells 46 (0, 0))]⟩ 9 #[true, true, true, true, true, true, true, true, true, true, true, true, true, true, true, true, false, true, true, false, false, true, true, false, false, true, true, false, true, true, true, false, false, false]) [(2, .pointer (some ⟨g2, 0, none⟩)), (4, .int .i64 m.id), (6, .bool m.answer), (8, .int .i64 m.kind), (10, .bool m.own), (12, .bool m.cut), (14, .bool m.wanted), (16, .bool m.able), (18, .int .i64 m.code), (21, EW.val s.a), (25, EW.val s.b), (29, EW.val s.c), (33, EW.val s.d), (31, u3)] ⟨[], w0, [ow ER 61 u3 [], bx g2 (.cells zeroM 49 (0, 0)), bx g1 (.cells (m.val s).cells 46 (0, 0))]⟩ w := by
  refine da (rs := [16, 20, 24]) (by decide +kernel) rfl (fun i hi => ?_)
  simp only [List.mem_cons, List.mem_nil_iff, or_false] at hi
  rcases hi with rfl | rfl | rfl
  · refine ⟨_, rfl, ?_⟩
    refine wz ?_
    refine oli EQ [] rfl rfl rfl rfl rfl (fun g w1 l => ?_)
    refine dg (List.Sublist.cons _ (List.Sublist.cons _ (List.Sublist.cons _ (List.Sublist.refl _)))) ?_
    exact wpick [0, 1, 2, 3] (by decide) rfl (sub_cons.2 ⟨rfl, sub_cons.2 ⟨rfl, sub_cons.2 ⟨rfl, sub_cons.2 ⟨rfl, sub_cons.2 ⟨rfl, sub_cons.2 ⟨rfl, sub_cons.2 ⟨rfl, sub_cons.2 ⟨rfl, sub_cons.2 ⟨rfl, sub_cons.2 ⟨rfl, sub_cons.2 ⟨rfl, sub_cons.2 ⟨rfl, sub_cons.2 ⟨rfl, sub_cons.2 ⟨rfl, sub_cons.2 ⟨rfl, sub_nil⟩⟩⟩⟩⟩⟩⟩⟩⟩⟩⟩⟩⟩⟩⟩) (toS0_03 hI hl)
  · refine ⟨_, rfl, ?_⟩
    refine wz ?_
    refine oli ER [] rfl rfl rfl rfl rfl (fun g w1 l => ?_)
    refine dg (List.Sublist.cons _ (List.Sublist.cons _ (List.Sublist.cons _ (List.Sublist.refl _)))) ?_
    exact wpick [0, 1, 2, 3] (by decide) rfl (sub_cons.2 ⟨rfl, sub_cons.2 ⟨rfl, sub_cons.2 ⟨rfl, sub_cons.2 ⟨rfl, sub_cons.2 ⟨rfl, sub_cons.2 ⟨rfl, sub_cons.2 ⟨rfl, sub_cons.2 ⟨rfl, sub_cons.2 ⟨rfl, sub_cons.2 ⟨rfl, sub_cons.2 ⟨rfl, sub_cons.2 ⟨rfl, sub_cons.2 ⟨rfl, sub_cons.2 ⟨rfl, sub_cons.2 ⟨rfl, sub_nil⟩⟩⟩⟩⟩⟩⟩⟩⟩⟩⟩⟩⟩⟩⟩) (toS0_13 hI hl)
  · refine ⟨_, rfl, ?_⟩
    refine wz ?_
    refine oli ER [] rfl rfl rfl rfl rfl (fun g w1 l => ?_)
    refine dg (List.Sublist.cons _ (List.Sublist.cons _ (List.Sublist.cons _ (List.Sublist.refl _)))) ?_
    exact wpick [0, 1, 2, 3] (by decide) rfl (sub_cons.2 ⟨rfl, sub_cons.2 ⟨rfl, sub_cons.2 ⟨rfl, sub_cons.2 ⟨rfl, sub_cons.2 ⟨rfl, sub_cons.2 ⟨rfl, sub_cons.2 ⟨rfl, sub_cons.2 ⟨rfl, sub_cons.2 ⟨rfl, sub_cons.2 ⟨rfl, sub_cons.2 ⟨rfl, sub_cons.2 ⟨rfl, sub_cons.2 ⟨rfl, sub_cons.2 ⟨rfl, sub_cons.2 ⟨rfl, sub_nil⟩⟩⟩⟩⟩⟩⟩⟩⟩⟩⟩⟩⟩⟩⟩) (toS0_23 hI hl)
theorem toS0_n {m : Msg} {s : MsgS} {w0 w : World} {g1 g2 : Nat} (hI : MsgIn w0 m s) (hl : m.ask.length ≤ 320 ∧ m.answers.length ≤ 320 ∧ m.authority.length ≤ 320 ∧ m.extra.length ≤ 320) :
    WK toN (wd Tryd.prog toOps (toQ m w0) ⟨[], w0, [bx g1 (.cells (m.val s).cells 46 (0, 0))]⟩ 10 #[true, true, true, true, true, true, true, true, true, true, true, true, true, true, true, true, false, true, true, false, false, true, true, false, false, true, true, false, false, true, true, false, false, false]) [(2, .pointer (some ⟨g2, 0, none⟩)), (4, .int .i64 m.id), (6, .bool m.answer), (8, .int .i64 m.kind), (10, .bool m.own), (12, .bool m.cut), (14, .bool m.wanted), (16, .bool m.able), (18, .int .i64 m.code), (21, EW.val s.a), (25, EW.val s.b), (29, EW.val s.c), (33, EW.val s.d)] ⟨[], w0, [bx g2 (.cells zeroM 49 (0, 0)), bx g1 (.cells (m.val s).cells 46 (0, 0))]⟩ w := by
  refine da (rs := [16, 20, 24, 28]) (by decide +kernel) rfl (fun i hi => ?_)
  simp only [List.mem_cons, List.mem_nil_iff, or_false] at hi
  rcases hi with rfl | rfl | rfl | rfl
  · refine ⟨_, rfl, ?_⟩
    refine wz ?_
    refine oli EQ [] rfl rfl rfl rfl rfl (fun g w1 l => ?_)
    refine dg (List.Sublist.cons _ (List.Sublist.cons _ (List.Sublist.refl _))) ?_
    exact wpick [0, 1, 2] (by decide) rfl (sub_cons.2 ⟨rfl, sub_cons.2 ⟨rfl, sub_cons.2 ⟨rfl, sub_cons.2 ⟨rfl, sub_cons.2 ⟨rfl, sub_cons.2 ⟨rfl, sub_cons.2 ⟨rfl, sub_cons.2 ⟨rfl, sub_cons.2 ⟨rfl, sub_cons.2 ⟨rfl, sub_cons.2 ⟨rfl, sub_cons.2 ⟨rfl, sub_cons.2 ⟨rfl, sub_cons.2 ⟨rfl, sub_nil⟩⟩⟩⟩⟩⟩⟩⟩⟩⟩⟩⟩⟩⟩) (toS0_0 hI hl)
  · refine ⟨_, rfl, ?_⟩
    refine wz ?_
    refine oli ER [] rfl rfl rfl rfl rfl (fun g w1 l => ?_)
    refine dg (List.Sublist.cons _ (List.Sublist.cons _ (List.Sublist.refl _))) ?_
    exact wpick [0, 1, 2] (by decide) rfl (sub_cons.2 ⟨rfl, sub_cons.2 ⟨rfl, sub_cons.2 ⟨rfl, sub_cons.2 ⟨rfl, sub_cons.2 ⟨rfl, sub_cons.2 ⟨rfl, sub_cons.2 ⟨rfl, sub_cons.2 ⟨rfl, sub_cons.2 ⟨rfl, sub_cons.2 ⟨rfl, sub_cons.2 ⟨rfl, sub_cons.2 ⟨rfl, sub_cons.2 ⟨rfl, sub_cons.2 ⟨rfl, sub_nil⟩⟩⟩⟩⟩⟩⟩⟩⟩⟩⟩⟩⟩⟩) (toS0_1 hI hl)
  · refine ⟨_, rfl, ?_⟩
    refine wz ?_
    refine oli ER [] rfl rfl rfl rfl rfl (fun g w1 l => ?_)
    refine dg (List.Sublist.cons _ (List.Sublist.cons _ (List.Sublist.refl _))) ?_
    exact wpick [0, 1, 2] (by decide) rfl (sub_cons.2 ⟨rfl, sub_cons.2 ⟨rfl, sub_cons.2 ⟨rfl, sub_cons.2 ⟨rfl, sub_cons.2 ⟨rfl, sub_cons.2 ⟨rfl, sub_cons.2 ⟨rfl, sub_cons.2 ⟨rfl, sub_cons.2 ⟨rfl, sub_cons.2 ⟨rfl, sub_cons.2 ⟨rfl, sub_cons.2 ⟨rfl, sub_cons.2 ⟨rfl, sub_cons.2 ⟨rfl, sub_nil⟩⟩⟩⟩⟩⟩⟩⟩⟩⟩⟩⟩⟩⟩) (toS0_2 hI hl)
  · refine ⟨_, rfl, ?_⟩
    refine wz ?_
    refine oli ER [] rfl rfl rfl rfl rfl (fun g w1 l => ?_)
    refine dg (List.Sublist.cons _ (List.Sublist.cons _ (List.Sublist.refl _))) ?_
    exact wpick [0, 1, 2] (by decide) rfl (sub_cons.2 ⟨rfl, sub_cons.2 ⟨rfl, sub_cons.2 ⟨rfl, sub_cons.2 ⟨rfl, sub_cons.2 ⟨rfl, sub_cons.2 ⟨rfl, sub_cons.2 ⟨rfl, sub_cons.2 ⟨rfl, sub_cons.2 ⟨rfl, sub_cons.2 ⟨rfl, sub_cons.2 ⟨rfl, sub_cons.2 ⟨rfl, sub_cons.2 ⟨rfl, sub_cons.2 ⟨rfl, sub_nil⟩⟩⟩⟩⟩⟩⟩⟩⟩⟩⟩⟩⟩⟩) (toS0_3 hI hl)
theorem to_spec (m : Msg) (s : MsgS) (w : World) (hI : MsgIn w m s) (hl : m.ask.length ≤ 320 ∧ m.answers.length ≤ 320 ∧ m.authority.length ≤ 320 ∧ m.extra.length ≤ 320) : Spec Tryd.prog 25 [m.val s].toArray w (toK m w) := by
  refine Spec.intro Tryd.func25 rfl rfl (Nat.le_of_ble_eq_true rfl) (Mok.start w) ?_
  focus
    refine rsr ?_
    refine l0 ?_
    refine obx rfl rfl (fun g1 w1 l1 => ?_)
    refine l0 ?_
    refine oal rfl (fun g2 w2 l2 => ?_)
    refine on ?_
    refine pn ?_
    refine rs_ ?_
    refine rd [bx g1 (.cells (m.val s).cells 46 (0, 0))] rfl ?_
    refine dt (i := 0) rfl (by decide +kernel) (by repeat (first | exact List.nil_sublist _ | apply List.Sublist.cons_cons | apply List.Sublist.cons)) rfl (fun _ ha => g0 ha) (yfa rfl) ?_
    refine dt (i := 1) rfl (by decide +kernel) (by repeat (first | exact List.nil_sublist _ | apply List.Sublist.cons_cons | apply List.Sublist.cons)) rfl (fun _ ha => g0 ha) (yld 0 rfl rfl rfl) ?_
    refine dt (i := 2) rfl (by decide +kernel) (by repeat (first | exact List.nil_sublist _ | apply List.Sublist.cons_cons | apply List.Sublist.cons)) rfl (fun _ ha => g0 ha) (yfa rfl) ?_
    refine dt (i := 3) rfl (by decide +kernel) (by repeat (first | exact List.nil_sublist _ | apply List.Sublist.cons_cons | apply List.Sublist.cons)) rfl (fun _ ha => g0 ha) (yld 0 rfl rfl rfl) ?_
    refine dt (i := 4) rfl (by decide +kernel) (by repeat (first | exact List.nil_sublist _ | apply List.Sublist.cons_cons | apply List.Sublist.cons)) rfl (fun _ ha => g0 ha) (yfa rfl) ?_
    refine dt (i := 5) rfl (by decide +kernel) (by repeat (first | exact List.nil_sublist _ | apply List.Sublist.cons_cons | apply List.Sublist.cons)) rfl (fun _ ha => g0 ha) (yld 0 rfl rfl rfl) ?_
    refine dt (i := 6) rfl (by decide +kernel) (by repeat (first | exact List.nil_sublist _ | apply List.Sublist.cons_cons | apply List.Sublist.cons)) rfl (fun _ ha => g0 ha) (yfa rfl) ?_
    refine dt (i := 7) rfl (by decide +kernel) (by repeat (first | exact List.nil_sublist _ | apply List.Sublist.cons_cons | apply List.Sublist.cons)) rfl (fun _ ha => g0 ha) (yld 0 rfl rfl rfl) ?_
    refine dt (i := 8) rfl (by decide +kernel) (by repeat (first | exact List.nil_sublist _ | apply List.Sublist.cons_cons | apply List.Sublist.cons)) rfl (fun _ ha => g0 ha) (yfa rfl) ?_
    refine dt (i := 9) rfl (by decide +kernel) (by repeat (first | exact List.nil_sublist _ | apply List.Sublist.cons_cons | apply List.Sublist.cons)) rfl (fun _ ha => g0 ha) (yld 0 rfl rfl rfl) ?_
    refine dt (i := 10) rfl (by decide +kernel) (by repeat (first | exact List.nil_sublist _ | apply List.Sublist.cons_cons | apply List.Sublist.cons)) rfl (fun _ ha => g0 ha) (yfa rfl) ?_
    refine dt (i := 11) rfl (by decide +kernel) (by repeat (first | exact List.nil_sublist _ | apply List.Sublist.cons_cons | apply List.Sublist.cons)) rfl (fun _ ha => g0 ha) (yld 0 rfl rfl rfl) ?_
    refine dt (i := 12) rfl (by decide +kernel) (by repeat (first | exact List.nil_sublist _ | apply List.Sublist.cons_cons | apply List.Sublist.cons)) rfl (fun _ ha => g0 ha) (yfa rfl) ?_
    refine dt (i := 13) rfl (by decide +kernel) (by repeat (first | exact List.nil_sublist _ | apply List.Sublist.cons_cons | apply List.Sublist.cons)) rfl (fun _ ha => g0 ha) (yld 0 rfl rfl rfl) ?_
    refine dt (i := 14) rfl (by decide +kernel) (by repeat (first | exact List.nil_sublist _ | apply List.Sublist.cons_cons | apply List.Sublist.cons)) rfl (fun _ ha => g0 ha) (yfa rfl) ?_
    refine dt (i := 15) rfl (by decide +kernel) (by repeat (first | exact List.nil_sublist _ | apply List.Sublist.cons_cons | apply List.Sublist.cons)) rfl (fun _ ha => g0 ha) (yld 0 rfl rfl rfl) ?_
    refine dt (i := 17) rfl (by decide +kernel) (by repeat (first | exact List.nil_sublist _ | apply List.Sublist.cons_cons | apply List.Sublist.cons)) rfl (fun _ ha => g0 ha) (yfa rfl) ?_
    refine dt (i := 18) rfl (by decide +kernel) (by repeat (first | exact List.nil_sublist _ | apply List.Sublist.cons_cons | apply List.Sublist.cons)) rfl (fun _ ha => g0 ha) (yld 0 rfl rfl rfl) ?_
    refine dt (i := 21) rfl (by decide +kernel) (by repeat (first | exact List.nil_sublist _ | apply List.Sublist.cons_cons | apply List.Sublist.cons)) rfl (fun _ ha => g0 ha) (yfa rfl) ?_
    refine dt (i := 22) rfl (by decide +kernel) (by repeat (first | exact List.nil_sublist _ | apply List.Sublist.cons_cons | apply List.Sublist.cons)) rfl (fun _ ha => g0 ha) (yld 0 rfl rfl rfl) ?_
    refine dt (i := 25) rfl (by decide +kernel) (by repeat (first | exact List.nil_sublist _ | apply List.Sublist.cons_cons | apply List.Sublist.cons)) rfl (fun _ ha => g0 ha) (yfa rfl) ?_
    refine dt (i := 26) rfl (by decide +kernel) (by repeat (first | exact List.nil_sublist _ | apply List.Sublist.cons_cons | apply List.Sublist.cons)) rfl (fun _ ha => g0 ha) (yld 0 rfl rfl rfl) ?_
    refine dt (i := 29) rfl (by decide +kernel) (by repeat (first | exact List.nil_sublist _ | apply List.Sublist.cons_cons | apply List.Sublist.cons)) rfl (fun _ ha => g0 ha) (yfa rfl) ?_
    refine dt (i := 30) rfl (by decide +kernel) (by repeat (first | exact List.nil_sublist _ | apply List.Sublist.cons_cons | apply List.Sublist.cons)) rfl (fun _ ha => g0 ha) (yld 0 rfl rfl rfl) ?_
    rotate_left
  exact wpick [0, 1] (by decide) rfl (sub_cons.2 ⟨rfl, sub_cons.2 ⟨rfl, sub_cons.2 ⟨rfl, sub_cons.2 ⟨rfl, sub_cons.2 ⟨rfl, sub_cons.2 ⟨rfl, sub_cons.2 ⟨rfl, sub_cons.2 ⟨rfl, sub_cons.2 ⟨rfl, sub_cons.2 ⟨rfl, sub_cons.2 ⟨rfl, sub_cons.2 ⟨rfl, sub_cons.2 ⟨rfl, sub_nil⟩⟩⟩⟩⟩⟩⟩⟩⟩⟩⟩⟩⟩) (toS0_n hI hl)
end Go.Proofs.YtkhlmpkodjoioaaDoor
