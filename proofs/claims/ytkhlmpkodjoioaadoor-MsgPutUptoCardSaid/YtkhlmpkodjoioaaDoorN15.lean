/- Messages: the program's check of a whole one. -/
import Derived.Test.YtkhlmpkodjoioaaDoorN14
set_option linter.unusedVariables false
set_option linter.unusedSimpArgs false
set_option maxRecDepth 100000
namespace Go.Proofs.YtkhlmpkodjoioaaDoor
structure Msg where
  id : Int
  answer : Bool
  kind : Int
  own : Bool
  cut : Bool
  wanted : Bool
  able : Bool
  code : Int
  ask : List Que
  answers : List Rec
  authority : List Rec
  extra : List Rec
structure MsgS where
  a : Tri
  b : Tri
  c : Tri
  d : Tri
def msgV (id : Int) (an : Bool) (ki : Int) (ow cu wa ab : Bool) (co : Int) (s : MsgS) : Value := .agg #[.int .i64 id, .bool an, .int .i64 ki, .bool ow, .bool cu, .bool wa, .bool ab, .int .i64 co, EW.val s.a, EW.val s.b, EW.val s.c, EW.val s.d]
def Msg.val (m : Msg) (s : MsgS) : Value := msgV m.id m.answer m.kind m.own m.cut m.wanted m.able m.code s
structure MsgIn (w : World) (m : Msg) (s : MsgS) : Prop where
  a : Sl EQ w (EW.val s.a) m.ask
  b : Sl ER w (EW.val s.b) m.answers
  c : Sl ER w (EW.val s.c) m.authority
  d : Sl ER w (EW.val s.d) m.extra
theorem MsgIn.e0 {w w' : World} {m : Msg} {s : MsgS} (h : MsgIn w m s) (he : Ext [] w w') : MsgIn w' m s := ⟨h.a.e0 he, h.b.e0 he, h.c.e0 he, h.d.e0 he⟩
def Msg.all (m : Msg) : List Rec := m.answers ++ m.authority ++ m.extra
/-- No lists, and no texts, longer than any machine has. -/
structure MsgB (m : Msg) : Prop where
  a : m.ask.length ≤ 300000
  l : m.all.length ≤ 1000000
  q : ∀ q ∈ m.ask, q.name.length ≤ 4294967280
  r : ∀ r ∈ m.all, r.name.length ≤ 4294967280 ∧ r.data.length ≤ 4294967280
def okNums (m : Msg) : Bool := decide (0 ≤ m.id ∧ m.id ≤ 65535) && decide (0 ≤ m.kind ∧ m.kind ≤ 15) && decide (0 ≤ m.code ∧ m.code ≤ 15)
def msgErr (m : Msg) : Nat := if 300 < m.ask.length + m.all.length then 5 else if okNums m && m.ask.all okQ && m.all.all rightRec then 0 else 2
theorem any_not {α : Type} (f : α → Bool) (l : List α) : (l.any fun x => !f x) = !l.all f := by
  induction l with
  | nil => rfl
  | cons x l ih => rw [List.any_cons, List.all_cons, ih]; cases f x <;> simp
theorem check_spec (m : Msg) (s : MsgS) (w : World) (hI : MsgIn w m s) (hB : MsgB m) (hz : Zw w) : Spec Tryd.prog 51 [m.val s].toArray w (fun v w' => Ext [] w w' ∧ v = .int .i64 (msgErr m)) := by
  refine Spec.intro Tryd.func51 rfl rfl (Nat.le_of_ble_eq_true rfl) (Mok.start w) ?_
  have hl := hB.l
  have ha := hB.a
  unfold Msg.all at hl
  have hla := hI.a.len
  focus
    refine rsr ?_
    refine l0 ?_
    refine obx rfl rfl (fun g1 w1 l1 => ?_)
    refine oy rfl (yas rfl) ?_
    refine on ?_
    refine pn ?_
    refine rsr ?_
    refine oy rfl (yfa rfl) ?_
    refine oy rfl (yld 0 rfl rfl rfl) ?_
    refine oy rfl (yfa rfl) ?_
    refine oy rfl (yld 0 rfl rfl rfl) ?_
    refine oy rfl (yfa rfl) ?_
    refine oy rfl (yld 0 rfl rfl rfl) ?_
    refine l0 ?_
    refine oli EW [_, _, _] rfl rfl rfl rfl rfl (fun g2 w2 l2 => ?_)
    refine l0 ?_
    refine Concat_call rfl rfl (sl_own 0 rfl) (sl_arg hI.b rfl) (sl_arg hI.c rfl) (sl_arg hI.d rfl) hl (fun v1 w1 => ?_)
    refine oy rfl (yas rfl) ?_
    refine on ?_
    refine pn ?_
    refine rs_ ?_
    refine rsr ?_
    refine oy rfl (yfa rfl) ?_
    refine oy rfl (yld 2 rfl rfl rfl) ?_
    refine oy rfl (yll rfl) ?_
    refine oy rfl (ymv rfl) ?_
    refine oy rfl (yls rfl (sl_own 0 rfl)) ?_
    refine oy rfl (ybW rfl rfl rfl (by omega)) ?_
    refine oy rfl (ybI rfl rfl rfl) ?_
    refine on ?_
    refine pn ?_
    refine rcd rfl (fun c4 => ?_) (fun c4 => ?_)
    refine rsr ?_
    refine oy rfl (yas rfl) ?_
    refine on ?_
    refine pn ?_
    refine rt ?_
    refine pr ?_
    refine ret_ rfl (fun hM => ?_)
    rotate_left
    refine rk ?_
    refine pn ?_
    refine rs_ ?_
    refine rsr ?_
    refine oy rfl (yfa rfl) ?_
    refine oy rfl (yld 2 rfl rfl rfl) ?_
    refine l0 ?_
    refine ocd rfl rfl (fun hM => within_spec _ _ _ _) (fun w5 => ?_)
    refine oy rfl (yno rfl) ?_
    refine oy rfl (ymv rfl) ?_
    refine xn (g := 23) rfl (fun c6 => ?_) (fun c6 => ?_)
    refine ln rfl rfl rfl rfl ?_
    refine ln rfl rfl rfl rfl ?_
    refine ln rfl rfl rfl rfl ?_
    refine ln rfl rfl rfl rfl ?_
    refine oy rfl (ypT rfl rfl) ?_
    refine oy rfl (ymv rfl) ?_
    refine ln rfl rfl rfl rfl ?_
    refine ln rfl rfl rfl rfl ?_
    refine ln rfl rfl rfl rfl ?_
    refine ln rfl rfl rfl rfl ?_
    refine oy rfl (ypT rfl rfl) ?_
    refine oy rfl (ymv rfl) ?_
    refine ln rfl rfl rfl rfl ?_
    refine ln rfl rfl rfl rfl ?_
    refine ln rfl rfl rfl rfl ?_
    refine oy rfl (ypT rfl rfl) ?_
    refine oy rfl (ymv rfl) ?_
    refine ln rfl rfl rfl rfl ?_
    refine ln rfl rfl rfl rfl ?_
    refine oy rfl (ypT rfl rfl) ?_
    refine on ?_
    refine pn ?_
    refine rcT rfl ?_
    refine rsr ?_
    refine oy rfl (yas rfl) ?_
    refine on ?_
    refine pn ?_
    refine rt ?_
    refine pr ?_
    refine ret_ rfl (fun hM => ?_)
    rotate_left
    refine oyg rfl rfl rfl (yfa rfl) ?_
    refine oyg rfl rfl rfl (yld 2 rfl rfl rfl) ?_
    refine lg rfl rfl ?_
    refine ocd rfl rfl (fun hM => within_spec _ _ _ _) (fun w7 => ?_)
    refine oyg rfl rfl rfl (yno rfl) ?_
    refine oy rfl (ypF rfl rfl) ?_
    refine oy rfl (ymv rfl) ?_
    refine xn (g := 29) rfl (fun c8 => ?_) (fun c8 => ?_)
    refine ln rfl rfl rfl rfl ?_
    refine ln rfl rfl rfl rfl ?_
    refine ln rfl rfl rfl rfl ?_
    refine ln rfl rfl rfl rfl ?_
    refine oy rfl (ypT rfl rfl) ?_
    refine oy rfl (ymv rfl) ?_
    refine ln rfl rfl rfl rfl ?_
    refine ln rfl rfl rfl rfl ?_
    refine ln rfl rfl rfl rfl ?_
    refine oy rfl (ypT rfl rfl) ?_
    refine oy rfl (ymv rfl) ?_
    refine ln rfl rfl rfl rfl ?_
    refine ln rfl rfl rfl rfl ?_
    refine oy rfl (ypT rfl rfl) ?_
    refine on ?_
    refine pn ?_
    refine rcT rfl ?_
    refine rsr ?_
    refine oy rfl (yas rfl) ?_
    refine on ?_
    refine pn ?_
    refine rt ?_
    refine pr ?_
    refine ret_ rfl (fun hM => ?_)
    rotate_left
    refine oyg rfl rfl rfl (yfa rfl) ?_
    refine oyg rfl rfl rfl (yld 2 rfl rfl rfl) ?_
    refine lg rfl rfl ?_
    refine ocd rfl rfl (fun hM => within_spec _ _ _ _) (fun w9 => ?_)
    refine oyg rfl rfl rfl (yno rfl) ?_
    refine oy rfl (ypF rfl rfl) ?_
    refine oy rfl (ymv rfl) ?_
    refine xn (g := 35) rfl (fun c10 => ?_) (fun c10 => ?_)
    refine ln rfl rfl rfl rfl ?_
    refine ln rfl rfl rfl rfl ?_
    refine ln rfl rfl rfl rfl ?_
    refine oy rfl (ypT rfl rfl) ?_
    refine oy rfl (ymv rfl) ?_
    refine ln rfl rfl rfl rfl ?_
    refine ln rfl rfl rfl rfl ?_
    refine oy rfl (ypT rfl rfl) ?_
    refine on ?_
    refine pn ?_
    refine rcT rfl ?_
    refine rsr ?_
    refine oy rfl (yas rfl) ?_
    refine on ?_
    refine pn ?_
    refine rt ?_
    refine pr ?_
    refine ret_ rfl (fun hM => ?_)
    rotate_left
    refine oyg rfl rfl rfl (yfa rfl) ?_
    refine oyg rfl rfl rfl (yld 2 rfl rfl rfl) ?_
    refine lg rfl rfl ?_
    refine ocd rfl rfl (fun hM => ContainsQ_spec _ m.ask _ (sl_arg hI.a rfl _ hM) (by omega) hB.q (hM.zw hz (by simp))) (fun w11 => ?_)
    refine oy rfl (ypF rfl rfl) ?_
    refine oy rfl (ymv rfl) ?_
    refine xb (g := 40) rfl (fun c12 => ?_) (fun c12 => ?_)
    refine ln rfl rfl rfl rfl ?_
    refine ln rfl rfl rfl rfl ?_
    refine oy rfl (ypT rfl rfl) ?_
    refine on ?_
    refine pn ?_
    refine rcT rfl ?_
    refine rsr ?_
    refine oy rfl (yas rfl) ?_
    refine on ?_
    refine pn ?_
    refine rt ?_
    refine pr ?_
    refine ret_ rfl (fun hM => ?_)
    rotate_left
    refine oyg rfl rfl rfl (ymv rfl) ?_
    refine lg rfl rfl ?_
    refine ocd rfl rfl (fun hM => ContainsR_spec _ m.all _ (sl_own 0 rfl _ hM) hB.l hB.r (hM.zw hz (by simp))) (fun w13 => ?_)
    refine oy rfl (ypF rfl rfl) ?_
    refine on ?_
    refine pn ?_
    refine rc rfl (fun c14 => ?_) (fun c14 => ?_)
    refine rsr ?_
    refine oy rfl (yas rfl) ?_
    refine on ?_
    refine pn ?_
    refine rt ?_
    refine pr ?_
    refine ret_ rfl (fun hM => ?_)
    rotate_left
    refine rk ?_
    refine pn ?_
    refine rsr ?_
    refine oy rfl (yas rfl) ?_
    refine on ?_
    refine pn ?_
    refine rt ?_
    refine ret_ rfl (fun hM => ?_)
    rotate_left
  all_goals refine ⟨hM.ext, ?_⟩
  all_goals have hall : m.all.length = (m.answers ++ m.authority ++ m.extra).length := rfl
  · rw [msgErr, if_pos (by omega)]; rfl
  all_goals rw [msgErr, if_neg (by omega)]
  all_goals try simp only [any_not] at *
  case refine_2.refine_2.refine_2.refine_2.refine_2.refine_2 =>
    rw [if_pos (by simp only [okNums, Bool.and_eq_true, decide_eq_true_eq]; simp only [Bool.not_eq_false'] at *; exact ⟨⟨⟨⟨by assumption, by assumption⟩, by assumption⟩, by assumption⟩, by assumption⟩)]; rfl
  all_goals
    rw [if_neg]
    · rfl
    · intro h
      simp only [okNums, Bool.and_eq_true, decide_eq_true_eq] at h
      obtain ⟨⟨⟨⟨h1, h2⟩, h3⟩, h4⟩, h5⟩ := h
      first
        | omega
        | exact absurd (by assumption : (!m.ask.all okQ) = true) (by rw [h4]; decide)
        | exact absurd (by assumption : (!m.all.all rightRec) = true) (by rw [h5]; decide)
end Go.Proofs.YtkhlmpkodjoioaaDoor
