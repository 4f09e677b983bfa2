/- The law MsgPut. -/
import Derived.Test.YtkhlmpkodjoioaaDoorN28
set_option linter.unusedVariables false
set_option linter.unusedSimpArgs false
set_option maxRecDepth 100000
set_option maxHeartbeats 4000000
namespace Go.Proofs.YtkhlmpkodjoioaaDoor
theorem to_call {n : Nat} {e : Env} {Q : Post} {K : Act → World → Prop} {S : List Nat} {w0 w : World} {H : List Hc} {d : Nat} {ty : TypeId} {ps : String} {af : Array Edge} {gd : Option (Nat × Bool)} {ar : Array Operand} {ts : Array TypeId} {m : Msg} {s : MsgS}
    (hd : Nat.ble (d + 1) n = true) (ha : evs e ar.toList = some [m.val s]) (hz : Zw w0) (h0 : 0 ∉ S) (hI : ∀ w, Mok ⟨S, w0, H⟩ w → MsgIn w m s) (hl : m.ask.length ≤ 320 ∧ m.answers.length ≤ 320 ∧ m.authority.length ≤ 320 ∧ m.extra.length ≤ 320)
    (h : ∀ s' w', WK n K ((d, m.val s') :: e) ⟨S, w0, ow EQ 42 (EW.val s'.a) m.ask :: ow ER 61 (EW.val s'.b) m.answers :: ow ER 61 (EW.val s'.c) m.authority :: ow ER 61 (EW.val s'.d) m.extra :: H⟩ w') :
    WK n (wo Tryd.prog Q ⟨some d, .call { callee := .value (.func 25), args := ar, argTypes := ts }, ty, ps, af, gd⟩ K) e ⟨S, w0, H⟩ w :=
  ocm hd ha fun hM => (to_spec m s w (hI w hM) hl).mono fun v w' ⟨H', hk, s', hv, hH⟩ => by
    subst hv hH
    refine ⟨_, Mok.leave (Hc' := []) (Hr := H) hM hk (fun c hc => ?_), h s' w'⟩
    simp at hc
    rcases hc with rfl | rfl | rfl | rfl <;> rfl
theorem msgIn_own {S : List Nat} {w0 w : World} {H : List Hc} {m : Msg} {s : MsgS} (i : Nat) (h1 : H[i]? = some (ow EQ 42 (EW.val s.a) m.ask)) (h2 : H[i + 1]? = some (ow ER 61 (EW.val s.b) m.answers)) (h3 : H[i + 2]? = some (ow ER 61 (EW.val s.c) m.authority)) (h4 : H[i + 3]? = some (ow ER 61 (EW.val s.d) m.extra)) (hM : Mok ⟨S, w0, H⟩ w) : MsgIn w m s :=
  ⟨sl_own (M := ⟨S, w0, H⟩) i h1 w hM, sl_own (M := ⟨S, w0, H⟩) (i + 1) h2 w hM, sl_own (M := ⟨S, w0, H⟩) (i + 2) h3 w hM, sl_own (M := ⟨S, w0, H⟩) (i + 3) h4 w hM⟩
theorem MsgPut_spec (m : Msg) (s : MsgS) (w : World) (hI : MsgIn w m s) (hz : Zw w) (hQ : ∀ q ∈ m.ask, q.name.length ≤ 4294967280) (hR : ∀ r ∈ m.all, r.name.length ≤ 4294967280 ∧ r.data.length ≤ 4294967280) : Spec Tryd.prog 5 [m.val s].toArray w (fun v w' => Ext [] w w' ∧ v = .bool true) := by
  refine Spec.intro Tryd.func5 rfl rfl (Nat.le_of_ble_eq_true rfl) (Mok.start w) ?_
  by_cases hl : m.ask.length ≤ 320 ∧ m.answers.length ≤ 320 ∧ m.authority.length ≤ 320 ∧ m.extra.length ≤ 320
  · have hB : MsgB m := ⟨by omega, by unfold Msg.all; simp only [List.length_append]; omega, hQ, hR⟩
    focus
      refine rsr ?_
      refine l0 ?_
      refine obx rfl rfl (fun g1 w1 l1 => ?_)
      refine oy rfl (yas rfl) ?_
      refine on ?_
      refine pn ?_
      refine rs_ ?_
      refine rsr ?_
      refine oy rfl (ylS 0 rfl rfl rfl) ?_
      refine l0 ?_
      refine ocd rfl rfl (fun hM => small_spec m s _ (hI.e0 hM.ext)) (fun w2 => ?_)
      refine oy rfl (yno rfl) ?_
      refine on ?_
      refine pn ?_
      refine rcn rfl (fun c3 => by exfalso; omega) (fun c3 => ?_)
      refine rk ?_
      refine pn ?_
      refine rsr ?_
      refine oy rfl (ylS 0 rfl rfl rfl) ?_
      refine l0 ?_
      refine ocd rfl rfl (fun hM => DocPut18_spec m s _ (hI.e0 hM.ext) hB (hM.zw hz (by simp))) (fun w4 => ?_)
      refine oy rfl (ymv rfl) ?_
      refine oy rfl (yex rfl rfl) ?_
      refine oy rfl (yex rfl rfl) ?_
      refine oy rfl (yas rfl) ?_
      refine oy rfl (yas rfl) ?_
      refine on ?_
      refine pn ?_
      refine rsr ?_
      refine oy rfl (ylS 0 rfl rfl rfl) ?_
      refine l0 ?_
      refine to_call rfl rfl hz (by simp) (fun w hM => hI.e0 hM.ext) hl (fun s8 w8 => ?_)
      refine l0 ?_
      refine oal rfl (fun g6 w6 l6 => ?_)
      refine l0 ?_
      refine osts 0 rfl rfl rfl rfl rfl rfl (fun w7 => ?_)
      refine on ?_
      refine pn ?_
      refine rsr ?_
      refine oy rfl (ylS 0 rfl rfl rfl) ?_
      refine l0 ?_
      refine oc1 (R := fun v w' => ∃ sv, v = .tuple #[sv, .int .i64 (putN m).2] ∧ Own EB w' _ 5 sv (putN m).1) rfl rfl (fun hM => Put_spec m s8 _ (msgIn_own 1 rfl rfl rfl rfl hM) hB (hM.zw hz (by simp))) (fun v2 w2 r2 => ?_)
      rotate_left
    obtain ⟨sv, rfl, ho⟩ := r2
    refine ⟨ow EB 5 sv (putN m).1, ho.rebase (Nat.zero_le _), fun g hg => (ho.base hg).1, ?_⟩
    focus
      refine oy rfl (ymv rfl) ?_
      refine oy rfl (yex rfl rfl) ?_
      refine oy rfl (yex rfl rfl) ?_
      refine oy rfl (yas rfl) ?_
      refine oy rfl (yas rfl) ?_
      refine on ?_
      refine pn ?_
      refine rs_ ?_
      refine rq rfl (by decide +kernel) ?_
      refine qc rfl rfl (fun _ hM => asked_spec _ (hM.zw hz (by simp))) ?_
      refine qy rfl (ymv rfl) ?_
      refine qyg rfl rfl rfl (ymv rfl) ?_
      refine qyg rfl rfl rfl (ymv rfl) ?_
      refine qyg rfl rfl rfl (ycB rfl (sl_own 0 rfl)) ?_
      refine qyg rfl rfl rfl (ybE rfl rfl) ?_
      refine qy rfl (ypT rfl rfl) ?_
      refine qy rfl (ymv rfl) ?_
      refine qxd (g := 31) rfl (fun c1 => ?_) (fun c1 => ?_)
      refine qyg rfl rfl rfl (ymv rfl) ?_
      refine qyg rfl rfl rfl (ymv rfl) ?_
      refine qyg rfl rfl rfl (ybI rfl rfl rfl) ?_
      refine qy rfl (ypT rfl rfl) ?_
      refine qy rfl (ymv rfl) ?_
      refine qxd (g := 36) rfl (fun c2 => ?_) (fun c2 => by exfalso; omega)
      refine qyg rfl rfl rfl (ylS 1 rfl rfl rfl) ?_
      refine qcg rfl rfl rfl rfl (fun _ hM => from_spec m s8 _) ?_
      refine qyg rfl rfl rfl (ylS 6 rfl rfl rfl) ?_
      refine qcg rfl rfl rfl rfl (fun _ hM => Same_spec m s8 s _ (msgIn_own 2 rfl rfl rfl rfl hM) (hI.e0 hM.ext)) ?_
      refine qy rfl (ypT rfl rfl) ?_
      refine qy rfl (yas rfl) ?_
      refine qend (fun w3 => ?_)
      refine pn ?_
      refine rt ?_
      refine ret_ rfl (fun hM => ?_)
      rotate_left
      refine qn rfl rfl rfl rfl ?_
      refine qn rfl rfl rfl rfl ?_
      refine qn rfl rfl rfl rfl ?_
      refine qy rfl (ypF rfl rfl) ?_
      refine qy rfl (ymv rfl) ?_
      refine qn rfl rfl rfl rfl ?_
      refine qn rfl rfl rfl rfl ?_
      refine qn rfl rfl rfl rfl ?_
      refine qn rfl rfl rfl rfl ?_
      refine qy rfl (ypF rfl rfl) ?_
      refine qy rfl (yas rfl) ?_
      refine qend (fun w4 => ?_)
      refine pn ?_
      refine rt ?_
      refine ret_ rfl (fun hM => ?_)
      rotate_left
    all_goals first
      | exact absurd rfl (by assumption)
      | exact ⟨hM.ext, by simp [ret1]⟩
  · focus
      refine rsr ?_
      refine l0 ?_
      refine obx rfl rfl (fun g1 w1 l1 => ?_)
      refine oy rfl (yas rfl) ?_
      refine on ?_
      refine pn ?_
      refine rs_ ?_
      refine rsr ?_
      refine oy rfl (ylS 0 rfl rfl rfl) ?_
      refine l0 ?_
      refine ocd rfl rfl (fun hM => small_spec m s _ (hI.e0 hM.ext)) (fun w2 => ?_)
      refine oy rfl (yno rfl) ?_
      refine on ?_
      refine pn ?_
      refine rcn rfl (fun c3 => ?_) (fun c3 => by exfalso; omega)
      refine rsr ?_
      refine l0 ?_
      refine ocd rfl rfl (fun hM => asked_spec _ (hM.zw hz (by simp))) (fun w4 => ?_)
      refine oy rfl (yas rfl) ?_
      refine on ?_
      refine pn ?_
      refine rt ?_
      refine pr ?_
      refine ret_ rfl (fun hM => ?_)
      rotate_left
    all_goals exact ⟨hM.ext, rfl⟩
end Go.Proofs.YtkhlmpkodjoioaaDoor
