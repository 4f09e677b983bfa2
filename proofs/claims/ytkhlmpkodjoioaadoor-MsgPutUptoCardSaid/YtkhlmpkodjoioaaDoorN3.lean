/- Names: the document's DocGet. -/
import Derived.Test.YtkhlmpkodjoioaaDoorN2
set_option linter.unusedVariables false
set_option linter.unusedSimpArgs false
set_option maxRecDepth 10000
namespace Go.Proofs.YtkhlmpkodjoioaaDoor
def get3 (r : List UInt8 × Nat × Nat) : Value := .tuple #[.string (sOf r.1), .int .i64 r.2.1, .int .i64 r.2.2]
def strAt (vs : List Value) (j : Nat) : Nat := match vs[j]? with | some (.string x) => (bs x).length | _ => 0
theorem mu_lab {x x' y y' : Nat} (h : x + 1 ≤ x') (h2 : x' ≤ 255) (h3 : y' ≤ 4294967296) : (255 - x') * 4294967297 + y' < (255 - x) * 4294967297 + y := by omega
theorem DocGet_spec (b : List UInt8) (a : Nat) (w : World) (hb : b.length ≤ 4294967296) (ha : a ≤ 4294967296) :
    Spec Tryd.prog 58 [.string (sOf b), .int .i64 a].toArray w (fun v w' => Ext [] w w' ∧ v = get3 (getN b a)) := by
  refine Spec.intro Tryd.func58 rfl rfl (Nat.le_of_ble_eq_true rfl) (Mok.start w) ?_
  focus
    refine rsr ?_
    refine oy rfl (yas rfl) ?_
    refine oy rfl (yas rfl) ?_
    refine oy rfl (yas rfl) ?_
    refine on ?_
    refine pn ?_
    refine rs_ ?_
    refine rsr ?_
    refine oy rfl (ymv rfl) ?_
    refine oy rfl (ybI rfl rfl rfl) ?_
    refine oy rfl (ymv rfl) ?_
    refine oyg rfl rfl rfl (ymv rfl) ?_
    refine oyg rfl rfl rfl (ymv rfl) ?_
    refine oyg rfl rfl rfl (yln rfl) ?_
    refine oyg rfl rfl rfl (ybI rfl rfl rfl) ?_
    refine oy rfl (ypF rfl rfl) ?_
    refine on ?_
    refine pn ?_
    refine rcd rfl (fun c1 => ?_) (fun c1 => ?_)
    refine rsr ?_
    refine oy rfl (yas rfl) ?_
    refine oy rfl (yas rfl) ?_
    refine oy rfl (yas rfl) ?_
    refine on ?_
    refine pn ?_
    refine rt ?_
    refine pr ?_
    refine ret_ rfl (fun hM => ?_)
    rotate_left
    refine rk ?_
    refine pn ?_
    refine rsr ?_
    refine oy rfl (ymv rfl) ?_
    refine oy rfl (yas rfl) ?_
    refine oy rfl (yas rfl) ?_
    refine oy rfl (yas rfl) ?_
    refine on ?_
    refine pn ?_
    refine rb ?_
    rotate_left
  · exact ⟨hM.ext, by unfold getN; rw [if_pos (by omega)]; rfl⟩
  · have hn : getN b a = getP b [] 0 a a := by unfold getN; rw [if_neg (by omega)]
    rw [hn]
    refine loop [1, 7, 8, 9] [0] (fun vs H => ∃ (s : List UInt8) (e before at_ : Nat) (ei : Int), vs = [.int .i64 at_, .string (sOf s), .int .i64 ei, .int .i64 before] ∧ H = [] ∧ (ei = -1 ∧ e = 0 ∨ ei = e ∧ 0 < e) ∧ e ≤ 8589934592 ∧
      before ≤ 4294967296 ∧ at_ ≤ 4294967296 ∧ s.length ≤ 254 ∧ getP b [] 0 a a = getP b s e before at_) (fun vs => (255 - strAt vs 1) * 4294967297 + intAt vs 3) rfl rfl (List.Sublist.refl _)
      ⟨[], 0, a, a, -1, rfl, rfl, .inl ⟨rfl, rfl⟩, by omega, ha, ha, by simp, rfl⟩ ?_
    rintro _ _ w' ⟨s, e, before, at_, ei, rfl, rfl, hei, he, hbe, hat, hsl, hg⟩
    have hc := (b.getD at_ 0).toNat_lt
    have hd := (b.getD (at_ + 1) 0).toNat_lt
    have hX : b.getD at_ 0 = b.getD at_ 0 := rfl
    focus
      refine rb ?_
      refine rs_ ?_
      refine rsr ?_
      refine oy rfl (ymv rfl) ?_
      refine oy rfl (ymv rfl) ?_
      refine oy rfl (yln rfl) ?_
      refine oy rfl (ybI rfl rfl rfl) ?_
      refine on ?_
      refine pn ?_
      refine rcd rfl (fun c1 => ?_) (fun c1 => ?_)
      refine rsr ?_
      refine oy rfl (yas rfl) ?_
      refine oy rfl (yas rfl) ?_
      refine oy rfl (yas rfl) ?_
      refine on ?_
      refine pn ?_
      refine rt ?_
      refine pr ?_
      refine pbr ?_
      refine pr ?_
      refine pbr ?_
      refine ret_ rfl (fun hM => ?_)
      rotate_left
      refine rk ?_
      refine pn ?_
      refine rsr ?_
      refine oy rfl (ymv rfl) ?_
      refine oy rfl (ymv rfl) ?_
      refine oy rfl (ysiN rfl rfl (by omega)) ?_
      refine oy rfl (ycb _ rfl) ?_
      refine oy rfl (yas rfl) ?_
      refine on ?_
      refine pn ?_
      refine rs_ ?_
      refine rsr ?_
      refine oy rfl (ymv rfl) ?_
      refine oy rfl (ybI rfl rfl rfl) ?_
      refine on ?_
      refine pn ?_
      refine rcd rfl (fun c2 => ?_) (fun c2 => ?_)
      refine rs_ ?_
      refine rsr ?_
      refine oy rfl (ymv rfl) ?_
      refine oy rfl (ybI rfl rfl rfl) ?_
      refine on ?_
      refine pn ?_
      refine rcd rfl (fun c3 => ?_) (fun c3 => ?_)
      refine rr ?_
      refine oy rfl (ymv rfl) ?_
      refine oy rfl (ybW rfl rfl rfl (by omega)) ?_
      refine oy rfl (yas rfl) ?_
      refine on ?_
      refine pn ?_
      refine rs_ ?_
      refine rsr ?_
      refine oy rfl (ymv rfl) ?_
      refine oy rfl (ybE rfl rfl) ?_
      refine on ?_
      refine pn ?_
      refine rcd rfl (fun c4 => ?_) (fun c4 => ?_)
      refine rr ?_
      refine oy rfl (yas rfl) ?_
      refine on ?_
      refine pn ?_
      refine rsr ?_
      refine oy rfl (ymv rfl) ?_
      refine oy rfl (ymv rfl) ?_
      refine oy rfl (yas rfl) ?_
      refine oy rfl (yas rfl) ?_
      refine oy rfl (yas rfl) ?_
      refine on ?_
      refine pn ?_
      refine rt ?_
      refine pr ?_
      refine pbr ?_
      refine pr ?_
      refine pbr ?_
      refine ret_ rfl (fun hM => ?_)
      rotate_left
      refine rk ?_
      refine pn ?_
      refine rsr ?_
      refine oy rfl (ymv rfl) ?_
      refine oy rfl (ymv rfl) ?_
      refine oy rfl (yas rfl) ?_
      refine oy rfl (yas rfl) ?_
      refine oy rfl (yas rfl) ?_
      refine on ?_
      refine pn ?_
      refine rt ?_
      refine pr ?_
      refine pbr ?_
      refine pr ?_
      refine pbr ?_
      refine ret_ rfl (fun hM => ?_)
      rotate_left
      refine rk ?_
      refine pn ?_
      refine rs_ ?_
      refine rsr ?_
      refine oy rfl (ymv rfl) ?_
      refine oy rfl (ybE rfl rfl) ?_
      refine on ?_
      refine pn ?_
      refine rcd rfl (fun c5 => ?_) (fun c5 => ?_)
      refine rr ?_
      refine oy rfl (yas rfl) ?_
      refine on ?_
      refine pn ?_
      refine rsr ?_
      refine oy rfl (ymv rfl) ?_
      refine oy rfl (ymv rfl) ?_
      refine oy rfl (yas rfl) ?_
      refine oy rfl (yas rfl) ?_
      refine oy rfl (yas rfl) ?_
      refine on ?_
      refine pn ?_
      refine rt ?_
      refine pr ?_
      refine pbr ?_
      refine pr ?_
      refine pbr ?_
      refine ret_ rfl (fun hM => ?_)
      rotate_left
      refine rk ?_
      refine pn ?_
      refine rsr ?_
      refine oy rfl (ymv rfl) ?_
      refine oy rfl (ymv rfl) ?_
      refine oy rfl (yas rfl) ?_
      refine oy rfl (yas rfl) ?_
      refine oy rfl (yas rfl) ?_
      refine on ?_
      refine pn ?_
      refine rt ?_
      refine pr ?_
      refine pbr ?_
      refine pr ?_
      refine pbr ?_
      refine ret_ rfl (fun hM => ?_)
      rotate_left
      refine rk ?_
      refine pn ?_
      refine rs_ ?_
      refine rsr ?_
      refine oy rfl (ymv rfl) ?_
      refine oy rfl (ybI rfl rfl rfl) ?_
      refine on ?_
      refine pn ?_
      refine rcd rfl (fun c6 => ?_) (fun c6 => ?_)
      refine rs_ ?_
      refine rsr ?_
      refine oy rfl (ymv rfl) ?_
      refine oy rfl (ybW rfl rfl rfl (by omega)) ?_
      refine oy rfl (ymv rfl) ?_
      refine oy rfl (yln rfl) ?_
      refine oy rfl (ybI rfl rfl rfl) ?_
      refine on ?_
      refine pn ?_
      refine rcd rfl (fun c7 => ?_) (fun c7 => ?_)
      refine rsr ?_
      refine oy rfl (yas rfl) ?_
      refine oy rfl (yas rfl) ?_
      refine oy rfl (yas rfl) ?_
      refine on ?_
      refine pn ?_
      refine rt ?_
      refine pr ?_
      refine pr ?_
      refine pbr ?_
      refine pr ?_
      refine pbr ?_
      refine ret_ rfl (fun hM => ?_)
      rotate_left
      refine rk ?_
      refine pn ?_
      refine rsr ?_
      refine oy rfl (ymv rfl) ?_
      refine oy rfl (ybW rfl rfl rfl (by omega)) ?_
      refine oy rfl (ybW rfl rfl rfl (by omega)) ?_
      refine oy rfl (ymv rfl) ?_
      refine oy rfl (ymv rfl) ?_
      refine oy rfl (ybW rfl rfl rfl (by omega)) ?_
      refine oy rfl (ysiN rfl rfl (by omega)) ?_
      refine oy rfl (ycb _ rfl) ?_
      refine oy rfl (ybW rfl rfl rfl (by omega)) ?_
      refine oy rfl (yas rfl) ?_
      refine on ?_
      refine pn ?_
      refine rs_ ?_
      refine rsr ?_
      refine oy rfl (ymv rfl) ?_
      refine oy rfl (ybI rfl rfl rfl) ?_
      refine on ?_
      refine pn ?_
      refine rcd rfl (fun c8 => ?_) (fun c8 => ?_)
      refine rr ?_
      refine oy rfl (ymv rfl) ?_
      refine oy rfl (ybW rfl rfl rfl (by omega)) ?_
      refine oy rfl (yas rfl) ?_
      refine on ?_
      refine pn ?_
      refine rs_ ?_
      refine rsr ?_
      refine oy rfl (ymv rfl) ?_
      refine oy rfl (ymv rfl) ?_
      refine oy rfl (ybI rfl rfl rfl) ?_
      refine on ?_
      refine pn ?_
      refine rcd rfl (fun c9 => ?_) (fun c9 => ?_)
      refine rsr ?_
      refine oy rfl (yas rfl) ?_
      refine oy rfl (yas rfl) ?_
      refine oy rfl (yas rfl) ?_
      refine on ?_
      refine pn ?_
      refine rt ?_
      refine pr ?_
      refine pr ?_
      refine pbr ?_
      refine pr ?_
      refine pbr ?_
      refine ret_ rfl (fun hM => ?_)
      rotate_left
      refine rk ?_
      refine pn ?_
      refine rsr ?_
      refine oy rfl (ymv rfl) ?_
      refine oy rfl (ymv rfl) ?_
      refine oy rfl (yas rfl) ?_
      refine oy rfl (yas rfl) ?_
      refine on ?_
      refine pn ?_
      refine re ?_
      refine pe ?_
      refine pbe ?_
      refine pn ?_
      rotate_left
      refine rk ?_
      refine pn ?_
      refine rs_ ?_
      refine rsr ?_
      refine oy rfl (ymv rfl) ?_
      refine oy rfl (ymv rfl) ?_
      refine oy rfl (ybI rfl rfl rfl) ?_
      refine on ?_
      refine pn ?_
      refine rcd rfl (fun c10 => ?_) (fun c10 => ?_)
      refine rsr ?_
      refine oy rfl (yas rfl) ?_
      refine oy rfl (yas rfl) ?_
      refine oy rfl (yas rfl) ?_
      refine on ?_
      refine pn ?_
      refine rt ?_
      refine pr ?_
      refine pr ?_
      refine pbr ?_
      refine pr ?_
      refine pbr ?_
      refine ret_ rfl (fun hM => ?_)
      rotate_left
      refine rk ?_
      refine pn ?_
      refine rsr ?_
      refine oy rfl (ymv rfl) ?_
      refine oy rfl (ymv rfl) ?_
      refine oy rfl (yas rfl) ?_
      refine oy rfl (yas rfl) ?_
      refine on ?_
      refine pn ?_
      refine re ?_
      refine pe ?_
      refine pbe ?_
      refine pn ?_
      rotate_left
      refine rk ?_
      refine pn ?_
      refine rs_ ?_
      refine rsr ?_
      refine oy rfl (ymv rfl) ?_
      refine oy rfl (ybI rfl rfl rfl) ?_
      refine on ?_
      refine pn ?_
      refine rcd rfl (fun c11 => ?_) (fun c11 => ?_)
      refine rsr ?_
      refine oy rfl (yas rfl) ?_
      refine oy rfl (yas rfl) ?_
      refine oy rfl (yas rfl) ?_
      refine on ?_
      refine pn ?_
      refine rt ?_
      refine pr ?_
      refine pbr ?_
      refine pr ?_
      refine pbr ?_
      refine ret_ rfl (fun hM => ?_)
      rotate_left
      refine rk ?_
      refine pn ?_
      refine rsr ?_
      refine oy rfl (yas rfl) ?_
      refine on ?_
      refine pn ?_
      refine rs_ ?_
      refine rsr ?_
      refine oy rfl (yas rfl) ?_
      refine on ?_
      refine pn ?_
      refine rb ?_
      rotate_left
    · exact ⟨hM.ext, by rw [hg, getP_tail (by omega)]; rfl⟩
    · exact ⟨hM.ext, by rw [hg, getP_zero (by omega) (by omega), if_pos c4, if_pos (by omega)]; rfl⟩
    · exact ⟨hM.ext, by rw [hg, getP_zero (by omega) (by omega), if_neg c4, if_pos (by omega)]; rfl⟩
    · obtain rfl : ei = e := by omega
      exact ⟨hM.ext, by rw [hg, getP_zero (by omega) (by omega), if_pos c5, if_neg (by omega)]; rfl⟩
    · obtain rfl : ei = e := by omega
      exact ⟨hM.ext, by rw [hg, getP_zero (by omega) (by omega), if_neg c5, if_neg (by omega)]; rfl⟩
    · exact ⟨hM.ext, by rw [hg, getP_tail2 (by omega) (by omega) (by omega)]; rfl⟩
    · exact ⟨hM.ext, by rw [hg, getP_loop (by omega) (by omega) (by omega)]; rfl⟩
    · have hX : ((b.getD at_ 0).toNat - 192 : Int) * 256 + (b.getD (at_ + 1) 0).toNat = (((b.getD at_ 0).toNat - 192) * 256 + (b.getD (at_ + 1) 0).toNat : Nat) := by omega
      rw [hX]
      refine round rfl rfl (List.Sublist.refl _) ⟨s, at_ + 2, _, _, _, rfl, rfl, .inr ⟨rfl, by omega⟩, by omega, by omega, by omega, hsl, ?_⟩ (show (255 - s.length) * 4294967297 + (((b.getD at_ 0).toNat - 192) * 256 + (b.getD (at_ + 1) 0).toNat) < (255 - s.length) * 4294967297 + before by omega)
      rw [hg, getP_jump (by omega) (by omega) (by omega), if_pos (by omega)]
    · exact ⟨hM.ext, by rw [hg, getP_loop (by omega) (by omega) (by omega)]; rfl⟩
    · have hX : ((b.getD at_ 0).toNat - 192 : Int) * 256 + (b.getD (at_ + 1) 0).toNat = (((b.getD at_ 0).toNat - 192) * 256 + (b.getD (at_ + 1) 0).toNat : Nat) := by omega
      rw [hX]
      refine round rfl rfl (List.Sublist.refl _) ⟨s, e, _, _, ei, rfl, rfl, by omega, by omega, by omega, by omega, hsl, ?_⟩ (show (255 - s.length) * 4294967297 + (((b.getD at_ 0).toNat - 192) * 256 + (b.getD (at_ + 1) 0).toNat) < (255 - s.length) * 4294967297 + before by omega)
      rw [hg, getP_jump (by omega) (by omega) (by omega), if_neg (by omega)]
    · exact ⟨hM.ext, by rw [hg, getP_form (by omega) (by omega) (by omega)]; rfl⟩
    · refine loop [12, 13] [0, 1, 7, 8, 9, 10] (fun vs H => ∃ (p : List UInt8) (i : Nat), vs = [.string (sOf p), .int .i64 (i + 1 : Nat)] ∧ H = [] ∧ i ≤ (b.getD at_ 0).toNat ∧ p.length = i ∧ (i = 0 ∨ at_ + i < b.length) ∧
        partP (b.drop (at_ + 1)) (b.getD at_ 0).toNat [] = partP (b.drop (at_ + 1 + i)) ((b.getD at_ 0).toNat - i) p) (fun vs => (b.getD at_ 0).toNat + 1 - intAt vs 1) rfl rfl (List.Sublist.refl _) ⟨[], 0, rfl, rfl, Nat.zero_le _, rfl, .inl rfl, rfl⟩ ?_
      rintro _ _ w' ⟨p, i, rfl, rfl, hin, hpl, hil, hpp⟩
      have hc3 := (b.getD (at_ + (i + 1)) 0).toNat_lt
      have hk : at_ + (i + 1) = at_ + 1 + i := by omega
      have hstep : i < (b.getD at_ 0).toNat → at_ + (i + 1) < b.length → partP (b.drop (at_ + 1)) (b.getD at_ 0).toNat [] =
          if isLet (low (b.getD (at_ + (i + 1)) 0)) then partP (b.drop (at_ + 1 + (i + 1))) ((b.getD at_ 0).toNat - (i + 1)) (p ++ [low (b.getD (at_ + (i + 1)) 0)]) else .error 14 := fun h1 h2 => by
        have h3 : (b.getD at_ 0).toNat - i = (b.getD at_ 0).toNat - (i + 1) + 1 := by omega
        rw [hpp, h3, partP_step (by omega), hk]
        rfl
      focus
        refine rs_ ?_
        refine rsr ?_
        refine oy rfl (ymv rfl) ?_
        refine oy rfl (ymv rfl) ?_
        refine oy rfl (ybI rfl rfl rfl) ?_
        refine on ?_
        refine pn ?_
        refine rcd rfl (fun c1 => ?_) (fun c1 => ?_)
        refine rk ?_
        refine pn ?_
        refine rs_ ?_
        refine rb ?_
        refine rs_ ?_
        refine rsr ?_
        refine oy rfl (ymv rfl) ?_
        refine oy rfl (ymv rfl) ?_
        refine oy rfl (ybW rfl rfl rfl (by omega)) ?_
        refine oy rfl (ymv rfl) ?_
        refine oy rfl (yln rfl) ?_
        refine oy rfl (ybI rfl rfl rfl) ?_
        refine on ?_
        refine pn ?_
        refine rcd rfl (fun c2 => ?_) (fun c2 => ?_)
        refine rsr ?_
        refine oy rfl (yas rfl) ?_
        refine oy rfl (yas rfl) ?_
        refine oy rfl (yas rfl) ?_
        refine on ?_
        refine pn ?_
        refine rt ?_
        refine pr ?_
        refine pbr ?_
        refine pr ?_
        refine pr ?_
        refine pbr ?_
        refine pr ?_
        refine pbr ?_
        refine pr ?_
        refine pbr ?_
        refine ret_ rfl (fun hM => ?_)
        rotate_left
        refine rk ?_
        refine pn ?_
        refine rsr ?_
        refine oy rfl (ymv rfl) ?_
        refine oy rfl (ymv rfl) ?_
        refine oy rfl (ymv rfl) ?_
        refine oy rfl (ybW rfl rfl rfl (by omega)) ?_
        refine oy rfl (ysiN rfl rfl (by omega)) ?_
        refine oy rfl (yas rfl) ?_
        refine on ?_
        refine pn ?_
        refine rs_ ?_
        refine rsr ?_
        refine oy rfl (ymv rfl) ?_
        refine oy rfl (ybI rfl rfl rfl) ?_
        refine oy rfl (ymv rfl) ?_
        refine xd (g := 87) rfl (fun c3 => ?_) (fun c3 => ?_)
        refine oyg rfl rfl rfl (ymv rfl) ?_
        refine oyg rfl rfl rfl (ybI rfl rfl rfl) ?_
        refine oy rfl (ypT rfl rfl) ?_
        refine on ?_
        refine pn ?_
        refine rcd rfl (fun c4 => ?_) (fun c4 => ?_)
        refine rr ?_
        refine oy rfl (ymv rfl) ?_
        refine oy rfl (ybU 32 rfl rfl) ?_
        refine oy rfl (yas rfl) ?_
        refine on ?_
        refine pn ?_
        refine rs_ ?_
        refine rsr ?_
        refine oy rfl (ymv rfl) ?_
        refine l0 ?_
        refine ocd rfl rfl (fun hM => letter_spec _ _) (fun w5 => ?_)
        refine oy rfl (yno rfl) ?_
        refine on ?_
        refine pn ?_
        refine rc rfl (fun c6 => ?_) (fun c6 => ?_)
        refine rsr ?_
        refine oy rfl (yas rfl) ?_
        refine oy rfl (yas rfl) ?_
        refine oy rfl (yas rfl) ?_
        refine on ?_
        refine pn ?_
        refine rt ?_
        refine pr ?_
        refine pbr ?_
        refine pr ?_
        refine pr ?_
        refine pbr ?_
        refine pr ?_
        refine pbr ?_
        refine pr ?_
        refine pbr ?_
        refine ret_ rfl (fun hM => ?_)
        rotate_left
        refine rk ?_
        refine pn ?_
        refine rr ?_
        refine oy rfl (ymv rfl) ?_
        refine oy rfl (ymv rfl) ?_
        refine l0 ?_
        refine oli EB [_] rfl rfl rfl rfl rfl (fun g7 w7 l7 => ?_)
        refine oy rfl (ycB rfl (sl_own 0 rfl)) ?_
        refine oy rfl (yba rfl rfl (by simp only [List.length_append, List.length_take, List.length_drop, List.length_cons, List.length_nil]; omega)) ?_
        refine oy rfl (yas rfl) ?_
        refine on ?_
        refine pbn ?_
        refine pn ?_
        refine rr ?_
        refine oy rfl (ymv rfl) ?_
        refine oy rfl (ybW rfl rfl rfl (by omega)) ?_
        refine oy rfl (yas rfl) ?_
        refine on ?_
        refine pn ?_
        rotate_left
        refine rk ?_
        refine pn ?_
        refine rs_ ?_
        refine rsr ?_
        refine oy rfl (ymv rfl) ?_
        refine l0 ?_
        refine ocd rfl rfl (fun hM => letter_spec _ _) (fun w8 => ?_)
        refine oy rfl (yno rfl) ?_
        refine on ?_
        refine pn ?_
        refine rc rfl (fun c9 => ?_) (fun c9 => ?_)
        refine rsr ?_
        refine oy rfl (yas rfl) ?_
        refine oy rfl (yas rfl) ?_
        refine oy rfl (yas rfl) ?_
        refine on ?_
        refine pn ?_
        refine rt ?_
        refine pr ?_
        refine pbr ?_
        refine pr ?_
        refine pr ?_
        refine pbr ?_
        refine pr ?_
        refine pbr ?_
        refine pr ?_
        refine pbr ?_
        refine ret_ rfl (fun hM => ?_)
        rotate_left
        refine rk ?_
        refine pn ?_
        refine rr ?_
        refine oy rfl (ymv rfl) ?_
        refine oy rfl (ymv rfl) ?_
        refine l0 ?_
        refine oli EB [_] rfl rfl rfl rfl rfl (fun g10 w10 l10 => ?_)
        refine oy rfl (ycB rfl (sl_own 0 rfl)) ?_
        refine oy rfl (yba rfl rfl (by simp only [List.length_append, List.length_take, List.length_drop, List.length_cons, List.length_nil]; omega)) ?_
        refine oy rfl (yas rfl) ?_
        refine on ?_
        refine pbn ?_
        refine pn ?_
        refine rr ?_
        refine oy rfl (ymv rfl) ?_
        refine oy rfl (ybW rfl rfl rfl (by omega)) ?_
        refine oy rfl (yas rfl) ?_
        refine on ?_
        refine pn ?_
        rotate_left
        refine ln rfl rfl rfl rfl ?_
        refine ln rfl rfl rfl rfl ?_
        refine oy rfl (ypF rfl rfl) ?_
        refine on ?_
        refine pn ?_
        refine rcF rfl ?_
        refine rk ?_
        refine pn ?_
        refine rs_ ?_
        refine rsr ?_
        refine oy rfl (ymv rfl) ?_
        refine l0 ?_
        refine ocd rfl rfl (fun hM => letter_spec _ _) (fun w11 => ?_)
        refine oy rfl (yno rfl) ?_
        refine on ?_
        refine pn ?_
        refine rc rfl (fun c12 => ?_) (fun c12 => ?_)
        refine rsr ?_
        refine oy rfl (yas rfl) ?_
        refine oy rfl (yas rfl) ?_
        refine oy rfl (yas rfl) ?_
        refine on ?_
        refine pn ?_
        refine rt ?_
        refine pr ?_
        refine pbr ?_
        refine pr ?_
        refine pr ?_
        refine pbr ?_
        refine pr ?_
        refine pbr ?_
        refine pr ?_
        refine pbr ?_
        refine ret_ rfl (fun hM => ?_)
        rotate_left
        refine rk ?_
        refine pn ?_
        refine rr ?_
        refine oy rfl (ymv rfl) ?_
        refine oy rfl (ymv rfl) ?_
        refine l0 ?_
        refine oli EB [_] rfl rfl rfl rfl rfl (fun g13 w13 l13 => ?_)
        refine oy rfl (ycB rfl (sl_own 0 rfl)) ?_
        refine oy rfl (yba rfl rfl (by simp only [List.length_append, List.length_take, List.length_drop, List.length_cons, List.length_nil]; omega)) ?_
        refine oy rfl (yas rfl) ?_
        refine on ?_
        refine pbn ?_
        refine pn ?_
        refine rr ?_
        refine oy rfl (ymv rfl) ?_
        refine oy rfl (ybW rfl rfl rfl (by omega)) ?_
        refine oy rfl (yas rfl) ?_
        refine on ?_
        refine pn ?_
        rotate_left
        refine re ?_
        refine pe ?_
        refine pe ?_
        refine pbe ?_
        refine pn ?_
        refine rsr ?_
        refine oy rfl (ymv rfl) ?_
        refine oy rfl (ymv rfl) ?_
        refine oy rfl (yba rfl rfl (by omega)) ?_
        refine oy rfl (yba rfl rfl (by simp only [List.length_append, List.length_take, List.length_drop, List.length_cons, List.length_nil]; omega)) ?_
        refine oy rfl (yas rfl) ?_
        refine on ?_
        refine pn ?_
        refine rs_ ?_
        refine rsr ?_
        refine oy rfl (ymv rfl) ?_
        refine oy rfl (yln rfl) ?_
        refine oy rfl (ybI rfl rfl rfl) ?_
        refine on ?_
        refine pn ?_
        refine rcd rfl (fun c14 => ?_) (fun c14 => ?_)
        refine rsr ?_
        refine oy rfl (yas rfl) ?_
        refine oy rfl (yas rfl) ?_
        refine oy rfl (yas rfl) ?_
        refine on ?_
        refine pn ?_
        refine rt ?_
        refine pr ?_
        refine pbr ?_
        refine pr ?_
        refine pbr ?_
        refine ret_ rfl (fun hM => ?_)
        rotate_left
        refine rk ?_
        refine pn ?_
        refine rsr ?_
        refine oy rfl (ymv rfl) ?_
        refine oy rfl (yas rfl) ?_
        refine on ?_
        refine pn ?_
        refine rr ?_
        refine oy rfl (ymv rfl) ?_
        refine oy rfl (ybW rfl rfl rfl (by omega)) ?_
        refine oy rfl (ymv rfl) ?_
        refine oy rfl (ybW rfl rfl rfl (by omega)) ?_
        refine oy rfl (yas rfl) ?_
        refine on ?_
        refine pbn ?_
        refine pn ?_
        rotate_left
      · exact ⟨hM.ext, by rw [hg, getP_part (x := 3) (by omega) (by omega) (by omega) (by rw [hpp]; exact partP_end (by omega) (by omega))]; rfl⟩
      · exact ⟨hM.ext, by rw [hg, getP_part (x := 14) (by omega) (by omega) (by omega) (by rw [hstep (by omega) (by omega), low_hi (by omega) (by omega), if_neg (by simpa using c6)])]; rfl⟩
      · refine round rfl rfl (List.nil_sublist _) ⟨p ++ [b.getD (at_ + (i + 1)) 0 + 32], i + 1, rfl, rfl, by omega, by simp [hpl], by omega, ?_⟩ (show (b.getD at_ 0).toNat + 1 - (i + 1 + 1) < (b.getD at_ 0).toNat + 1 - (i + 1) by omega)
        rw [hstep (by omega) (by omega), low_hi (by omega) (by omega), if_pos (by simpa using c6)]
      · exact ⟨hM.ext, by rw [hg, getP_part (x := 14) (by omega) (by omega) (by omega) (by rw [hstep (by omega) (by omega), low_lo (by omega), if_neg (by simpa using c9)])]; rfl⟩
      · refine round rfl rfl (List.nil_sublist _) ⟨p ++ [b.getD (at_ + (i + 1)) 0], i + 1, rfl, rfl, by omega, by simp [hpl], by omega, ?_⟩ (show (b.getD at_ 0).toNat + 1 - (i + 1 + 1) < (b.getD at_ 0).toNat + 1 - (i + 1) by omega)
        rw [hstep (by omega) (by omega), low_lo (by omega), if_pos (by simpa using c9)]
      · exact ⟨hM.ext, by rw [hg, getP_part (x := 14) (by omega) (by omega) (by omega) (by rw [hstep (by omega) (by omega), low_lo (by omega), if_neg (by simpa using c12)])]; rfl⟩
      · refine round rfl rfl (List.nil_sublist _) ⟨p ++ [b.getD (at_ + (i + 1)) 0], i + 1, rfl, rfl, by omega, by simp [hpl], by omega, ?_⟩ (show (b.getD at_ 0).toNat + 1 - (i + 1 + 1) < (b.getD at_ 0).toNat + 1 - (i + 1) by omega)
        rw [hstep (by omega) (by omega), low_lo (by omega), if_pos (by simpa using c12)]
      · have hi : i = (b.getD at_ 0).toNat := by omega
        simp only [List.length_append, List.length_cons, List.length_nil] at c14
        exact ⟨hM.ext, by rw [hg, getP_long (p := p) (by omega) (by omega) (by omega) (by rw [hpp, ← hi, Nat.sub_self]; unfold partP; rfl) (by omega)]; rfl⟩
      · have hi : i = (b.getD at_ 0).toNat := by omega
        simp only [List.length_append, List.length_cons, List.length_nil] at c14
        refine round (vs := [.int .i64 (at_ + 1 + (b.getD at_ 0).toNat : Nat), .string (sOf (s ++ p ++ [46])), .int .i64 ei, .int .i64 at_]) rfl rfl (List.nil_sublist _) ⟨s ++ p ++ [46], e, at_, at_ + 1 + (b.getD at_ 0).toNat, ei, rfl, rfl, hei, he, hat, by omega, by simp; omega, ?_⟩ ?_
        · rw [hg, getP_lab (p := p) (by omega) (by omega) (by omega) (by rw [hpp, ← hi, Nat.sub_self]; unfold partP; rfl) (by omega)]
        · refine mu_lab ?_ ?_ hat
          · show s.length + 1 ≤ (s ++ p ++ [46]).length
            simp
          · show (s ++ p ++ [46]).length ≤ 255
            simp; omega
end Go.Proofs.YtkhlmpkodjoioaaDoor
