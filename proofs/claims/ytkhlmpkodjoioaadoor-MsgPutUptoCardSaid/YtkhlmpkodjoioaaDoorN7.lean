/- Names: the program's Get. -/
import Derived.Test.YtkhlmpkodjoioaaDoorN6
set_option linter.unusedVariables false
set_option linter.unusedSimpArgs false
set_option maxRecDepth 10000
namespace Go.Proofs.YtkhlmpkodjoioaaDoor
theorem partP_err : ∀ (n : Nat) (b acc : List UInt8) (x : Nat), partP b n acc = .error x → x = 3 ∨ x = 14
  | 0, b, acc, x, h => by cases b <;> (unfold partP at h; cases h)
  | n + 1, [], acc, x, h => by unfold partP at h; cases h; exact .inl rfl
  | n + 1, c :: b, acc, x, h => by
    unfold partP at h
    split at h
    · exact partP_err n _ _ x h
    · cases h; exact .inr rfl
theorem partP_len : ∀ (n : Nat) (b acc p : List UInt8), partP b n acc = .ok p → p.length = acc.length + n ∧ n ≤ b.length
  | 0, b, acc, p, h => by cases b <;> (unfold partP at h; cases h; exact ⟨rfl, Nat.zero_le _⟩)
  | n + 1, [], acc, p, h => by unfold partP at h; cases h
  | n + 1, c :: b, acc, p, h => by
    unfold partP at h
    split at h
    · obtain ⟨h1, h2⟩ := partP_len n _ _ p h
      simp at h1 ⊢
      omega
    · cases h
theorem part_is {v : Value} {b : List UInt8} {n : Nat} {r : Except Nat (List UInt8)} (h : partP b n [] = r) (w : World) (hv : Sl EB w v b) (hb : b.length ≤ 4294967296) (hn : n ≤ 4294967296) : Spec Tryd.prog 41 [v, .int .i64 n].toArray w (fun v w' => Ext [] w w' ∧ v = part2 r) := h ▸ part_spec v b n w hv hb hn
theorem sub_tail {M : Mem} {v : Value} {b : List UInt8} {l : Nat} (hs : ∀ w, Mok M w → Sl EB w v b) (h : l ≤ b.length) : ∀ w, Mok M w → Sl EB w (subS 1 v l b.length) (b.drop l) := fun w hM => by
  have h1 := subS_sl (hs w hM) h (Nat.le_refl _)
  rwa [List.take_length] at h1
theorem bnot_all : ∀ n : Fin 256, 192 ≤ n.val → bnot n.val 192 = n.val - 192 := by decide +kernel
theorem bnot_192 {n : Nat} (h : 192 ≤ n) (h1 : n < 256) : bnot n 192 = n - 192 := bnot_all ⟨n, h1⟩ h
theorem or_256 {a d : Nat} (h : d < 256) : a * 256 ||| d = a * 256 + d := by
  have := Nat.shiftLeft_add_eq_or_of_lt (i := 8) (b := d) (by simpa using h) a
  rw [Nat.shiftLeft_eq] at this
  exact this.symm
theorem Get_spec (v : Value) (b : List UInt8) (a : Nat) (w : World) (hv : Sl EB w v b) (hb : b.length ≤ 4294967296) (ha : a ≤ 4294967296) :
    Spec Tryd.prog 16 [v, .int .i64 a].toArray w (fun v w' => Ext [] w w' ∧ v = get3 (getN b a)) := by
  refine Spec.intro Tryd.func16 rfl rfl (Nat.le_of_ble_eq_true rfl) (Mok.start w) ?_
  focus
    refine rsr ?_
    refine oy rfl (yas rfl) ?_
    refine oy rfl (yas rfl) ?_
    refine oy rfl (yas rfl) ?_
    refine on ?_
    refine pn ?_
    refine rs_ ?_
    refine rsr ?_
    refine oy rfl (ymv rfl) ?_
    refine oy rfl (ybI rfl rfl rfl) ?_
    refine oy rfl (ymv rfl) ?_
    refine oyg rfl rfl rfl (ymv rfl) ?_
    refine oyg rfl rfl rfl (ymv rfl) ?_
    refine oyg rfl rfl rfl (yls rfl (sl_arg hv rfl)) ?_
    refine oyg rfl rfl rfl (ybI rfl rfl rfl) ?_
    refine oy rfl (ypF rfl rfl) ?_
    refine on ?_
    refine pn ?_
    refine rcd rfl (fun c1 => ?_) (fun c1 => ?_)
    refine rsr ?_
    refine oy rfl (yas rfl) ?_
    refine oy rfl (yas rfl) ?_
    refine oy rfl (yas rfl) ?_
    refine on ?_
    refine pn ?_
    refine rt ?_
    refine pr ?_
    refine ret_ rfl (fun hM => ?_)
    rotate_left
    refine rk ?_
    refine pn ?_
    refine rsr ?_
    refine oy rfl (ymv rfl) ?_
    refine oy rfl (yas rfl) ?_
    refine oy rfl (yas rfl) ?_
    refine oy rfl (yas rfl) ?_
    refine on ?_
    refine pn ?_
    refine rs_ ?_
    refine rb ?_
    rotate_left
  · exact ⟨hM.ext, by unfold getN; rw [if_pos (by omega)]; rfl⟩
  · have hn : getN b a = getP b [] 0 a a := by unfold getN; rw [if_neg (by omega)]
    rw [hn]
    refine loop [1, 7, 8, 9] [0] (fun vs H => ∃ (s : List UInt8) (e before at_ : Nat), vs = [.int .i64 at_, .string (sOf s), .int .i64 e, .int .i64 before] ∧ H = [] ∧ e ≤ 8589934592 ∧
      before ≤ 4294967296 ∧ at_ ≤ 4294967296 ∧ s.length ≤ 254 ∧ getP b [] 0 a a = getP b s e before at_) (fun vs => (255 - strAt vs 1) * 4294967297 + intAt vs 3) rfl rfl (List.Sublist.refl _)
      ⟨[], 0, a, a, rfl, rfl, by omega, ha, ha, by simp, rfl⟩ ?_
    rintro _ _ w' ⟨s, e, before, at_, rfl, rfl, he, hbe, hat, hsl, hg⟩
    by_cases hlt : at_ < b.length
    · have hg0 : b.getD at_ 0 = b[at_] := getD_get hlt
      have hc := (b[at_]).toNat_lt
      have hd := (b.getD (at_ + 1) 0).toNat_lt
      have hbn := bnot_le b[at_].toNat 192
      have hq : (b.getD at_ 0).toNat = b[at_].toNat := by rw [hg0]
      have hd1 : ∀ h : at_ + 1 < b.length, (b.getD (at_ + 1) 0).toNat = b[at_ + 1].toNat := fun h => by rw [getD_get h]
      have hX : ∀ h : at_ + 1 < b.length, 192 ≤ b[at_].toNat → bnot b[at_].toNat 192 * 256 ||| b[at_ + 1].toNat = ((b.getD at_ 0).toNat - 192) * 256 + (b.getD (at_ + 1) 0).toNat := fun h h1 => by
        rw [bnot_192 h1 hc, or_256 (b[at_ + 1]).toNat_lt, hq, hd1 h]
      have hlast : at_ + 1 < b.length → ∃ d : UInt8, True := fun _ => ⟨0, trivial⟩
      by_cases h1 : at_ + 1 < b.length
      · have hd2 := (b[at_ + 1]).toNat_lt
        have hX := hX h1
        rcases hp : partP (b.drop (at_ + 1)) b[at_].toNat [] with x | p
        · have hx := partP_err _ _ _ _ hp
          focus
            refine rs_ ?_
            refine rsr ?_
            refine oy rfl (ymv rfl) ?_
            refine oy rfl (ymv rfl) ?_
            refine oy rfl (yls rfl (sl_arg hv rfl)) ?_
            refine oy rfl (ybI rfl rfl rfl) ?_
            refine on ?_
            refine pn ?_
            refine rcd rfl (fun c1 => ?_) (fun c1 => by exfalso; omega)
            refine rk ?_
            refine pn ?_
            refine rb ?_
            refine rsr ?_
            refine oy rfl (ymv rfl) ?_
            refine oy rfl (ymv rfl) ?_
            refine oy rfl (yix rfl rfl rfl (sl_arg hv rfl) (by omega)) ?_
            refine oy rfl (yleN rfl rfl (sl_arg hv rfl) (by omega)) ?_
            refine oy rfl (ycb _ rfl) ?_
            refine oy rfl (yas rfl) ?_
            refine on ?_
            refine pn ?_
            refine rb ?_
            refine rsr ?_
            refine oy rfl (ymv rfl) ?_
            refine oy rfl (ybI rfl rfl rfl) ?_
            refine oy rfl (yas rfl) ?_
            refine on ?_
            refine pn ?_
            refine rcd rfl (fun c2 => ?_) (fun c2 => ?_)
            refine rs_ ?_
            refine rsr ?_
            refine oy rfl (ymv rfl) ?_
            refine oy rfl (ybI rfl rfl rfl) ?_
            refine on ?_
            refine pn ?_
            refine rcd rfl (fun c3 => ?_) (fun c3 => ?_)
            refine rr ?_
            refine oy rfl (ymv rfl) ?_
            refine oy rfl (ybW rfl rfl rfl (by omega)) ?_
            refine oy rfl (yas rfl) ?_
            refine on ?_
            refine pn ?_
            refine rs_ ?_
            refine rsr ?_
            refine oy rfl (ymv rfl) ?_
            refine oy rfl (ybE rfl rfl) ?_
            refine on ?_
            refine pn ?_
            refine rcd rfl (fun c4 => ?_) (fun c4 => ?_)
            refine rr ?_
            refine oy rfl (yas rfl) ?_
            refine on ?_
            refine pn ?_
            refine rsr ?_
            refine oy rfl (ymv rfl) ?_
            refine oy rfl (ymv rfl) ?_
            refine oy rfl (yas rfl) ?_
            refine oy rfl (yas rfl) ?_
            refine oy rfl (yas rfl) ?_
            refine on ?_
            refine pn ?_
            refine rt ?_
            refine pbr ?_
            refine pbr ?_
            refine pr ?_
            refine pbr ?_
            refine pr ?_
            refine ret_ rfl (fun hM => ?_)
            rotate_left
            refine rk ?_
            refine pn ?_
            refine rsr ?_
            refine oy rfl (ymv rfl) ?_
            refine oy rfl (ymv rfl) ?_
            refine oy rfl (yas rfl) ?_
            refine oy rfl (yas rfl) ?_
            refine oy rfl (yas rfl) ?_
            refine on ?_
            refine pn ?_
            refine rt ?_
            refine pbr ?_
            refine pbr ?_
            refine pr ?_
            refine pbr ?_
            refine pr ?_
            refine ret_ rfl (fun hM => ?_)
            rotate_left
            refine rk ?_
            refine pn ?_
            refine rs_ ?_
            refine rsr ?_
            refine oy rfl (ymv rfl) ?_
            refine oy rfl (ybE rfl rfl) ?_
            refine on ?_
            refine pn ?_
            refine rcd rfl (fun c5 => ?_) (fun c5 => ?_)
            refine rr ?_
            refine oy rfl (yas rfl) ?_
            refine on ?_
            refine pn ?_
            refine rsr ?_
            refine oy rfl (ymv rfl) ?_
            refine oy rfl (ymv rfl) ?_
            refine oy rfl (yas rfl) ?_
            refine oy rfl (yas rfl) ?_
            refine oy rfl (yas rfl) ?_
            refine on ?_
            refine pn ?_
            refine rt ?_
            refine pbr ?_
            refine pbr ?_
            refine pr ?_
            refine pbr ?_
            refine pr ?_
            refine ret_ rfl (fun hM => ?_)
            rotate_left
            refine rk ?_
            refine pn ?_
            refine rsr ?_
            refine oy rfl (ymv rfl) ?_
            refine oy rfl (ymv rfl) ?_
            refine oy rfl (yas rfl) ?_
            refine oy rfl (yas rfl) ?_
            refine oy rfl (yas rfl) ?_
            refine on ?_
            refine pn ?_
            refine rt ?_
            refine pbr ?_
            refine pbr ?_
            refine pr ?_
            refine pbr ?_
            refine pr ?_
            refine ret_ rfl (fun hM => ?_)
            rotate_left
            refine rsr ?_
            refine oy rfl (ymv rfl) ?_
            refine oy rfl (ybI rfl rfl rfl) ?_
            refine oy rfl (yas rfl) ?_
            refine on ?_
            refine pn ?_
            refine rcd rfl (fun c6 => ?_) (fun c6 => ?_)
            refine rs_ ?_
            refine rsr ?_
            refine oy rfl (ymv rfl) ?_
            refine oy rfl (ybW rfl rfl rfl (by omega)) ?_
            refine oy rfl (ymv rfl) ?_
            refine oy rfl (yls rfl (sl_arg hv rfl)) ?_
            refine oy rfl (ybI rfl rfl rfl) ?_
            refine on ?_
            refine pn ?_
            refine rcd rfl (fun c7 => by exfalso; omega) (fun c7 => ?_)
            refine rk ?_
            refine pn ?_
            refine rsr ?_
            refine oy rfl (ymv rfl) ?_
            refine oy rfl (yan rfl rfl (by omega)) ?_
            refine oy rfl (yshl 8 256 rfl rfl rfl (by decide) (by omega)) ?_
            refine oy rfl (ymv rfl) ?_
            refine oy rfl (ymv rfl) ?_
            refine oy rfl (ybW rfl rfl rfl (by omega)) ?_
            refine oy rfl (yix rfl rfl rfl (sl_arg hv rfl) (by omega)) ?_
            refine oy rfl (yleN rfl rfl (sl_arg hv rfl) (by omega)) ?_
            refine oy rfl (ycb _ rfl) ?_
            refine oy rfl (yor rfl rfl (by omega) (by omega)) ?_
            refine oy rfl (yas rfl) ?_
            refine on ?_
            refine pn ?_
            refine rs_ ?_
            refine rsr ?_
            refine oy rfl (ymv rfl) ?_
            refine oy rfl (ybI rfl rfl rfl) ?_
            refine on ?_
            refine pn ?_
            refine rcd rfl (fun c8 => ?_) (fun c8 => ?_)
            refine rr ?_
            refine oy rfl (ymv rfl) ?_
            refine oy rfl (ybW rfl rfl rfl (by omega)) ?_
            refine oy rfl (yas rfl) ?_
            refine on ?_
            refine pn ?_
            refine rs_ ?_
            refine rsr ?_
            refine oy rfl (ymv rfl) ?_
            refine oy rfl (ymv rfl) ?_
            refine oy rfl (ybI rfl rfl rfl) ?_
            refine on ?_
            refine pn ?_
            refine rcd rfl (fun c9 => ?_) (fun c9 => ?_)
            refine rsr ?_
            refine oy rfl (yas rfl) ?_
            refine oy rfl (yas rfl) ?_
            refine oy rfl (yas rfl) ?_
            refine on ?_
            refine pn ?_
            refine rt ?_
            refine pr ?_
            refine pbr ?_
            refine pbr ?_
            refine pr ?_
            refine pbr ?_
            refine pr ?_
            refine ret_ rfl (fun hM => ?_)
            rotate_left
            refine rk ?_
            refine pn ?_
            refine rr ?_
            refine oy rfl (ymv rfl) ?_
            refine oy rfl (ymv rfl) ?_
            refine oy rfl (yas rfl) ?_
            refine oy rfl (yas rfl) ?_
            refine on ?_
            refine pbn ?_
            refine pbn ?_
            refine pn ?_
            rotate_left
            refine rk ?_
            refine pn ?_
            refine rs_ ?_
            refine rsr ?_
            refine oy rfl (ymv rfl) ?_
            refine oy rfl (ymv rfl) ?_
            refine oy rfl (ybI rfl rfl rfl) ?_
            refine on ?_
            refine pn ?_
            refine rcd rfl (fun c10 => ?_) (fun c10 => ?_)
            refine rsr ?_
            refine oy rfl (yas rfl) ?_
            refine oy rfl (yas rfl) ?_
            refine oy rfl (yas rfl) ?_
            refine on ?_
            refine pn ?_
            refine rt ?_
            refine pr ?_
            refine pbr ?_
            refine pbr ?_
            refine pr ?_
            refine pbr ?_
            refine pr ?_
            refine ret_ rfl (fun hM => ?_)
            rotate_left
            refine rk ?_
            refine pn ?_
            refine rr ?_
            refine oy rfl (ymv rfl) ?_
            refine oy rfl (ymv rfl) ?_
            refine oy rfl (yas rfl) ?_
            refine oy rfl (yas rfl) ?_
            refine on ?_
            refine pbn ?_
            refine pbn ?_
            refine pn ?_
            rotate_left
            refine rsr ?_
            refine oy rfl (ymv rfl) ?_
            refine oy rfl (ybI rfl rfl rfl) ?_
            refine oy rfl (yas rfl) ?_
            refine on ?_
            refine pn ?_
            refine rcd rfl (fun c11 => ?_) (fun c11 => ?_)
            refine rsr ?_
            refine oy rfl (yas rfl) ?_
            refine oy rfl (yas rfl) ?_
            refine oy rfl (yas rfl) ?_
            refine on ?_
            refine pn ?_
            refine rt ?_
            refine pbr ?_
            refine pbr ?_
            refine pr ?_
            refine pbr ?_
            refine pr ?_
            refine ret_ rfl (fun hM => ?_)
            rotate_left
            refine rsr ?_
            refine oy rfl (ymv rfl) ?_
            refine oy rfl (ymv rfl) ?_
            refine oy rfl (ybW rfl rfl rfl (by omega)) ?_
            refine oy rfl (yp1 rfl rfl rfl (sl_arg hv rfl) (by omega)) ?_
            refine oy rfl (ymv rfl) ?_
            refine l0 ?_
            refine ocd rfl rfl (fun hM => part_is hp _ (sub_tail (sl_arg hv rfl) (by omega) _ hM) (by simp only [List.length_drop]; omega) (by omega)) (fun w12 => ?_)
            refine oy rfl (ymv rfl) ?_
            refine oy rfl (yex rfl rfl) ?_
            refine oy rfl (yex rfl rfl) ?_
            refine oy rfl (yas rfl) ?_
            refine oy rfl (yas rfl) ?_
            refine on ?_
            refine pn ?_
            refine rs_ ?_
            refine rsr ?_
            refine oy rfl (ymv rfl) ?_
            refine oy rfl (ybI rfl rfl rfl) ?_
            refine on ?_
            refine pn ?_
            refine rcd rfl (fun c13 => ?_) (fun c13 => by exfalso; omega)
            refine rsr ?_
            refine oy rfl (ymv rfl) ?_
            refine oy rfl (yas rfl) ?_
            refine oy rfl (yas rfl) ?_
            refine oy rfl (yas rfl) ?_
            refine on ?_
            refine pn ?_
            refine rt ?_
            refine pr ?_
            refine pbr ?_
            refine pbr ?_
            refine pr ?_
            refine pbr ?_
            refine pr ?_
            refine ret_ rfl (fun hM => ?_)
            rotate_left
          all_goals first
            | exact ⟨hM.ext, by rw [hg, getP_zero (by omega) (by omega), if_pos (by assumption), if_pos (by omega)]; rfl⟩
            | exact ⟨hM.ext, by rw [hg, getP_zero (by omega) (by omega), if_pos (by assumption), if_neg (by omega)]; rfl⟩
            | exact ⟨hM.ext, by rw [hg, getP_zero (by omega) (by omega), if_neg (by assumption), if_pos (by omega)]; rfl⟩
            | exact ⟨hM.ext, by rw [hg, getP_zero (by omega) (by omega), if_neg (by assumption), if_neg (by omega)]; rfl⟩
            | exact ⟨hM.ext, by rw [hg, getP_tail2 (by omega) (by omega) (by omega)]; rfl⟩
            | exact ⟨hM.ext, by rw [hg, getP_form (by omega) (by omega) (by omega)]; rfl⟩
            | exact ⟨hM.ext, by rw [hg, getP_loop (by omega) (by omega) (by have := hX (by omega); omega)]; rfl⟩
            | (have hX2 := hX (by omega); rw [hX2] at *; refine round rfl rfl (List.Sublist.refl _) ⟨s, at_ + 2, _, _, rfl, rfl, by omega, by omega, by omega, hsl, by rw [hg, getP_jump (by omega) (by omega) (by omega), if_pos (by omega)]⟩ (show (255 - s.length) * 4294967297 + (((b.getD at_ 0).toNat - 192) * 256 + (b.getD (at_ + 1) 0).toNat) < (255 - s.length) * 4294967297 + before by omega))
            | (have hX2 := hX (by omega); rw [hX2] at *; refine round rfl rfl (List.Sublist.refl _) ⟨s, e, _, _, rfl, rfl, by omega, by omega, by omega, hsl, by rw [hg, getP_jump (by omega) (by omega) (by omega), if_neg (by omega)]⟩ (show (255 - s.length) * 4294967297 + (((b.getD at_ 0).toNat - 192) * 256 + (b.getD (at_ + 1) 0).toNat) < (255 - s.length) * 4294967297 + before by omega))
            | exact ⟨hM.ext, by rw [hg, getP_part (x := x) (by omega) (by omega) (by omega) (by rw [hq]; exact hp)]; rfl⟩
        · have hpl := partP_len _ _ _ _ hp
          simp only [List.length_nil, List.length_drop, Nat.zero_add] at hpl
          focus
            refine rs_ ?_
            refine rsr ?_
            refine oy rfl (ymv rfl) ?_
            refine oy rfl (ymv rfl) ?_
            refine oy rfl (yls rfl (sl_arg hv rfl)) ?_
            refine oy rfl (ybI rfl rfl rfl) ?_
            refine on ?_
            refine pn ?_
            refine rcd rfl (fun c1 => ?_) (fun c1 => by exfalso; omega)
            refine rk ?_
            refine pn ?_
            refine rb ?_
            refine rsr ?_
            refine oy rfl (ymv rfl) ?_
            refine oy rfl (ymv rfl) ?_
            refine oy rfl (yix rfl rfl rfl (sl_arg hv rfl) (by omega)) ?_
            refine oy rfl (yleN rfl rfl (sl_arg hv rfl) (by omega)) ?_
            refine oy rfl (ycb _ rfl) ?_
            refine oy rfl (yas rfl) ?_
            refine on ?_
            refine pn ?_
            refine rb ?_
            refine rsr ?_
            refine oy rfl (ymv rfl) ?_
            refine oy rfl (ybI rfl rfl rfl) ?_
            refine oy rfl (yas rfl) ?_
            refine on ?_
            refine pn ?_
            refine rcd rfl (fun c2 => ?_) (fun c2 => ?_)
            refine rs_ ?_
            refine rsr ?_
            refine oy rfl (ymv rfl) ?_
            refine oy rfl (ybI rfl rfl rfl) ?_
            refine on ?_
            refine pn ?_
            refine rcd rfl (fun c3 => ?_) (fun c3 => ?_)
            refine rr ?_
            refine oy rfl (ymv rfl) ?_
            refine oy rfl (ybW rfl rfl rfl (by omega)) ?_
            refine oy rfl (yas rfl) ?_
            refine on ?_
            refine pn ?_
            refine rs_ ?_
            refine rsr ?_
            refine oy rfl (ymv rfl) ?_
            refine oy rfl (ybE rfl rfl) ?_
            refine on ?_
            refine pn ?_
            refine rcd rfl (fun c4 => ?_) (fun c4 => ?_)
            refine rr ?_
            refine oy rfl (yas rfl) ?_
            refine on ?_
            refine pn ?_
            refine rsr ?_
            refine oy rfl (ymv rfl) ?_
            refine oy rfl (ymv rfl) ?_
            refine oy rfl (yas rfl) ?_
            refine oy rfl (yas rfl) ?_
            refine oy rfl (yas rfl) ?_
            refine on ?_
            refine pn ?_
            refine rt ?_
            refine pbr ?_
            refine pbr ?_
            refine pr ?_
            refine pbr ?_
            refine pr ?_
            refine ret_ rfl (fun hM => ?_)
            rotate_left
            refine rk ?_
            refine pn ?_
            refine rsr ?_
            refine oy rfl (ymv rfl) ?_
            refine oy rfl (ymv rfl) ?_
            refine oy rfl (yas rfl) ?_
            refine oy rfl (yas rfl) ?_
            refine oy rfl (yas rfl) ?_
            refine on ?_
            refine pn ?_
            refine rt ?_
            refine pbr ?_
            refine pbr ?_
            refine pr ?_
            refine pbr ?_
            refine pr ?_
            refine ret_ rfl (fun hM => ?_)
            rotate_left
            refine rk ?_
            refine pn ?_
            refine rs_ ?_
            refine rsr ?_
            refine oy rfl (ymv rfl) ?_
            refine oy rfl (ybE rfl rfl) ?_
            refine on ?_
            refine pn ?_
            refine rcd rfl (fun c5 => ?_) (fun c5 => ?_)
            refine rr ?_
            refine oy rfl (yas rfl) ?_
            refine on ?_
            refine pn ?_
            refine rsr ?_
            refine oy rfl (ymv rfl) ?_
            refine oy rfl (ymv rfl) ?_
            refine oy rfl (yas rfl) ?_
            refine oy rfl (yas rfl) ?_
            refine oy rfl (yas rfl) ?_
            refine on ?_
            refine pn ?_
            refine rt ?_
            refine pbr ?_
            refine pbr ?_
            refine pr ?_
            refine pbr ?_
            refine pr ?_
            refine ret_ rfl (fun hM => ?_)
            rotate_left
            refine rk ?_
            refine pn ?_
            refine rsr ?_
            refine oy rfl (ymv rfl) ?_
            refine oy rfl (ymv rfl) ?_
            refine oy rfl (yas rfl) ?_
            refine oy rfl (yas rfl) ?_
            refine oy rfl (yas rfl) ?_
            refine on ?_
            refine pn ?_
            refine rt ?_
            refine pbr ?_
            refine pbr ?_
            refine pr ?_
            refine pbr ?_
            refine pr ?_
            refine ret_ rfl (fun hM => ?_)
            rotate_left
            refine rsr ?_
            refine oy rfl (ymv rfl) ?_
            refine oy rfl (ybI rfl rfl rfl) ?_
            refine oy rfl (yas rfl) ?_
            refine on ?_
            refine pn ?_
            refine rcd rfl (fun c6 => ?_) (fun c6 => ?_)
            refine rs_ ?_
            refine rsr ?_
            refine oy rfl (ymv rfl) ?_
            refine oy rfl (ybW rfl rfl rfl (by omega)) ?_
            refine oy rfl (ymv rfl) ?_
            refine oy rfl (yls rfl (sl_arg hv rfl)) ?_
            refine oy rfl (ybI rfl rfl rfl) ?_
            refine on ?_
            refine pn ?_
            refine rcd rfl (fun c7 => by exfalso; omega) (fun c7 => ?_)
            refine rk ?_
            refine pn ?_
            refine rsr ?_
            refine oy rfl (ymv rfl) ?_
            refine oy rfl (yan rfl rfl (by omega)) ?_
            refine oy rfl (yshl 8 256 rfl rfl rfl (by decide) (by omega)) ?_
            refine oy rfl (ymv rfl) ?_
            refine oy rfl (ymv rfl) ?_
            refine oy rfl (ybW rfl rfl rfl (by omega)) ?_
            refine oy rfl (yix rfl rfl rfl (sl_arg hv rfl) (by omega)) ?_
            refine oy rfl (yleN rfl rfl (sl_arg hv rfl) (by omega)) ?_
            refine oy rfl (ycb _ rfl) ?_
            refine oy rfl (yor rfl rfl (by omega) (by omega)) ?_
            refine oy rfl (yas rfl) ?_
            refine on ?_
            refine pn ?_
            refine rs_ ?_
            refine rsr ?_
            refine oy rfl (ymv rfl) ?_
            refine oy rfl (ybI rfl rfl rfl) ?_
            refine on ?_
            refine pn ?_
            refine rcd rfl (fun c8 => ?_) (fun c8 => ?_)
            refine rr ?_
            refine oy rfl (ymv rfl) ?_
            refine oy rfl (ybW rfl rfl rfl (by omega)) ?_
            refine oy rfl (yas rfl) ?_
            refine on ?_
            refine pn ?_
            refine rs_ ?_
            refine rsr ?_
            refine oy rfl (ymv rfl) ?_
            refine oy rfl (ymv rfl) ?_
            refine oy rfl (ybI rfl rfl rfl) ?_
            refine on ?_
            refine pn ?_
            refine rcd rfl (fun c9 => ?_) (fun c9 => ?_)
            refine rsr ?_
            refine oy rfl (yas rfl) ?_
            refine oy rfl (yas rfl) ?_
            refine oy rfl (yas rfl) ?_
            refine on ?_
            refine pn ?_
            refine rt ?_
            refine pr ?_
            refine pbr ?_
            refine pbr ?_
            refine pr ?_
            refine pbr ?_
            refine pr ?_
            refine ret_ rfl (fun hM => ?_)
            rotate_left
            refine rk ?_
            refine pn ?_
            refine rr ?_
            refine oy rfl (ymv rfl) ?_
            refine oy rfl (ymv rfl) ?_
            refine oy rfl (yas rfl) ?_
            refine oy rfl (yas rfl) ?_
            refine on ?_
            refine pbn ?_
            refine pbn ?_
            refine pn ?_
            rotate_left
            refine rk ?_
            refine pn ?_
            refine rs_ ?_
            refine rsr ?_
            refine oy rfl (ymv rfl) ?_
            refine oy rfl (ymv rfl) ?_
            refine oy rfl (ybI rfl rfl rfl) ?_
            refine on ?_
            refine pn ?_
            refine rcd rfl (fun c10 => ?_) (fun c10 => ?_)
            refine rsr ?_
            refine oy rfl (yas rfl) ?_
            refine oy rfl (yas rfl) ?_
            refine oy rfl (yas rfl) ?_
            refine on ?_
            refine pn ?_
            refine rt ?_
            refine pr ?_
            refine pbr ?_
            refine pbr ?_
            refine pr ?_
            refine pbr ?_
            refine pr ?_
            refine ret_ rfl (fun hM => ?_)
            rotate_left
            refine rk ?_
            refine pn ?_
            refine rr ?_
            refine oy rfl (ymv rfl) ?_
            refine oy rfl (ymv rfl) ?_
            refine oy rfl (yas rfl) ?_
            refine oy rfl (yas rfl) ?_
            refine on ?_
            refine pbn ?_
            refine pbn ?_
            refine pn ?_
            rotate_left
            refine rsr ?_
            refine oy rfl (ymv rfl) ?_
            refine oy rfl (ybI rfl rfl rfl) ?_
            refine oy rfl (yas rfl) ?_
            refine on ?_
            refine pn ?_
            refine rcd rfl (fun c11 => ?_) (fun c11 => ?_)
            refine rsr ?_
            refine oy rfl (yas rfl) ?_
            refine oy rfl (yas rfl) ?_
            refine oy rfl (yas rfl) ?_
            refine on ?_
            refine pn ?_
            refine rt ?_
            refine pbr ?_
            refine pbr ?_
            refine pr ?_
            refine pbr ?_
            refine pr ?_
            refine ret_ rfl (fun hM => ?_)
            rotate_left
            refine rsr ?_
            refine oy rfl (ymv rfl) ?_
            refine oy rfl (ymv rfl) ?_
            refine oy rfl (ybW rfl rfl rfl (by omega)) ?_
            refine oy rfl (yp1 rfl rfl rfl (sl_arg hv rfl) (by omega)) ?_
            refine oy rfl (ymv rfl) ?_
            refine l0 ?_
            refine ocd rfl rfl (fun hM => part_is hp _ (sub_tail (sl_arg hv rfl) (by omega) _ hM) (by simp only [List.length_drop]; omega) (by omega)) (fun w12 => ?_)
            refine oy rfl (ymv rfl) ?_
            refine oy rfl (yex rfl rfl) ?_
            refine oy rfl (yex rfl rfl) ?_
            refine oy rfl (yas rfl) ?_
            refine oy rfl (yas rfl) ?_
            refine on ?_
            refine pn ?_
            refine rs_ ?_
            refine rsr ?_
            refine oy rfl (ymv rfl) ?_
            refine oy rfl (ybI rfl rfl rfl) ?_
            refine on ?_
            refine pn ?_
            refine rcF rfl ?_
            refine rk ?_
            refine pn ?_
            refine rs_ ?_
            refine rsr ?_
            refine oy rfl (ymv rfl) ?_
            refine oy rfl (ymv rfl) ?_
            refine oy rfl (yba rfl rfl (by simp only [List.length_append, List.length_take, List.length_drop, List.length_cons, List.length_nil]; omega)) ?_
            refine oy rfl (yba rfl rfl (by simp only [List.length_append, List.length_take, List.length_drop, List.length_cons, List.length_nil]; omega)) ?_
            refine oy rfl (yas rfl) ?_
            refine on ?_
            refine pn ?_
            refine rsr ?_
            refine oy rfl (ymv rfl) ?_
            refine oy rfl (yln rfl) ?_
            refine oy rfl (ybI rfl rfl rfl) ?_
            refine on ?_
            refine pn ?_
            refine rcd rfl (fun c13 => ?_) (fun c13 => ?_)
            refine rsr ?_
            refine oy rfl (yas rfl) ?_
            refine oy rfl (yas rfl) ?_
            refine oy rfl (yas rfl) ?_
            refine on ?_
            refine pn ?_
            refine rt ?_
            refine pr ?_
            refine pbr ?_
            refine pbr ?_
            refine pr ?_
            refine pbr ?_
            refine pr ?_
            refine ret_ rfl (fun hM => ?_)
            rotate_left
            refine rk ?_
            refine pn ?_
            refine rsr ?_
            refine oy rfl (ymv rfl) ?_
            refine oy rfl (yas rfl) ?_
            refine on ?_
            refine pn ?_
            refine rr ?_
            refine oy rfl (ymv rfl) ?_
            refine oy rfl (ymv rfl) ?_
            refine oy rfl (ybW rfl rfl rfl (by omega)) ?_
            refine oy rfl (ybW rfl rfl rfl (by omega)) ?_
            refine oy rfl (yas rfl) ?_
            refine on ?_
            refine pbn ?_
            refine pbn ?_
            refine pn ?_
            rotate_left
          all_goals first
            | exact ⟨hM.ext, by rw [hg, getP_zero (by omega) (by omega), if_pos (by assumption), if_pos (by omega)]; rfl⟩
            | exact ⟨hM.ext, by rw [hg, getP_zero (by omega) (by omega), if_pos (by assumption), if_neg (by omega)]; rfl⟩
            | exact ⟨hM.ext, by rw [hg, getP_zero (by omega) (by omega), if_neg (by assumption), if_pos (by omega)]; rfl⟩
            | exact ⟨hM.ext, by rw [hg, getP_zero (by omega) (by omega), if_neg (by assumption), if_neg (by omega)]; rfl⟩
            | exact ⟨hM.ext, by rw [hg, getP_tail2 (by omega) (by omega) (by omega)]; rfl⟩
            | exact ⟨hM.ext, by rw [hg, getP_form (by omega) (by omega) (by omega)]; rfl⟩
            | exact ⟨hM.ext, by rw [hg, getP_loop (by omega) (by omega) (by have := hX (by omega); omega)]; rfl⟩
            | (have hX2 := hX (by omega); rw [hX2] at *; refine round rfl rfl (List.Sublist.refl _) ⟨s, at_ + 2, _, _, rfl, rfl, by omega, by omega, by omega, hsl, by rw [hg, getP_jump (by omega) (by omega) (by omega), if_pos (by omega)]⟩ (show (255 - s.length) * 4294967297 + (((b.getD at_ 0).toNat - 192) * 256 + (b.getD (at_ + 1) 0).toNat) < (255 - s.length) * 4294967297 + before by omega))
            | (have hX2 := hX (by omega); rw [hX2] at *; refine round rfl rfl (List.Sublist.refl _) ⟨s, e, _, _, rfl, rfl, by omega, by omega, by omega, hsl, by rw [hg, getP_jump (by omega) (by omega) (by omega), if_neg (by omega)]⟩ (show (255 - s.length) * 4294967297 + (((b.getD at_ 0).toNat - 192) * 256 + (b.getD (at_ + 1) 0).toNat) < (255 - s.length) * 4294967297 + before by omega))
            | (simp only [List.length_append, List.length_cons, List.length_nil] at *; exact ⟨hM.ext, by rw [hg, getP_long (p := p) (by omega) (by omega) (by omega) (by rw [hq]; exact hp) (by omega)]; rfl⟩)
            | skip
          simp only [List.length_append, List.length_cons, List.length_nil] at c13
          refine round (vs := [.int .i64 (at_ + (1 + b[at_].toNat) : Nat), .string (sOf (s ++ (p ++ [46]))), .int .i64 e, .int .i64 at_]) rfl rfl (List.Sublist.refl _) ⟨s ++ (p ++ [46]), e, at_, at_ + (1 + b[at_].toNat), rfl, rfl, he, hat, by omega, by simp; omega, ?_⟩ ?_
          · rw [hg, getP_lab (p := p) (by omega) (by omega) (by omega) (by rw [hq]; exact hp) (by omega), hq, List.append_assoc, Nat.add_assoc]
          · refine mu_lab ?_ ?_ hat
            · show s.length + 1 ≤ (s ++ (p ++ [46])).length
              simp
            · show (s ++ (p ++ [46])).length ≤ 255
              simp; omega
      · rcases hp : partP (b.drop (at_ + 1)) b[at_].toNat [] with x | p
        · have hx := partP_err _ _ _ _ hp
          focus
            refine rs_ ?_
            refine rsr ?_
            refine oy rfl (ymv rfl) ?_
            refine oy rfl (ymv rfl) ?_
            refine oy rfl (yls rfl (sl_arg hv rfl)) ?_
            refine oy rfl (ybI rfl rfl rfl) ?_
            refine on ?_
            refine pn ?_
            refine rcd rfl (fun c1 => ?_) (fun c1 => by exfalso; omega)
            refine rk ?_
            refine pn ?_
            refine rb ?_
            refine rsr ?_
            refine oy rfl (ymv rfl) ?_
            refine oy rfl (ymv rfl) ?_
            refine oy rfl (yix rfl rfl rfl (sl_arg hv rfl) (by omega)) ?_
            refine oy rfl (yleN rfl rfl (sl_arg hv rfl) (by omega)) ?_
            refine oy rfl (ycb _ rfl) ?_
            refine oy rfl (yas rfl) ?_
            refine on ?_
            refine pn ?_
            refine rb ?_
            refine rsr ?_
            refine oy rfl (ymv rfl) ?_
            refine oy rfl (ybI rfl rfl rfl) ?_
            refine oy rfl (yas rfl) ?_
            refine on ?_
            refine pn ?_
            refine rcd rfl (fun c2 => ?_) (fun c2 => ?_)
            refine rs_ ?_
            refine rsr ?_
            refine oy rfl (ymv rfl) ?_
            refine oy rfl (ybI rfl rfl rfl) ?_
            refine on ?_
            refine pn ?_
            refine rcd rfl (fun c3 => ?_) (fun c3 => ?_)
            refine rr ?_
            refine oy rfl (ymv rfl) ?_
            refine oy rfl (ybW rfl rfl rfl (by omega)) ?_
            refine oy rfl (yas rfl) ?_
            refine on ?_
            refine pn ?_
            refine rs_ ?_
            refine rsr ?_
            refine oy rfl (ymv rfl) ?_
            refine oy rfl (ybE rfl rfl) ?_
            refine on ?_
            refine pn ?_
            refine rcd rfl (fun c4 => ?_) (fun c4 => ?_)
            refine rr ?_
            refine oy rfl (yas rfl) ?_
            refine on ?_
            refine pn ?_
            refine rsr ?_
            refine oy rfl (ymv rfl) ?_
            refine oy rfl (ymv rfl) ?_
            refine oy rfl (yas rfl) ?_
            refine oy rfl (yas rfl) ?_
            refine oy rfl (yas rfl) ?_
            refine on ?_
            refine pn ?_
            refine rt ?_
            refine pbr ?_
            refine pbr ?_
            refine pr ?_
            refine pbr ?_
            refine pr ?_
            refine ret_ rfl (fun hM => ?_)
            rotate_left
            refine rk ?_
            refine pn ?_
            refine rsr ?_
            refine oy rfl (ymv rfl) ?_
            refine oy rfl (ymv rfl) ?_
            refine oy rfl (yas rfl) ?_
            refine oy rfl (yas rfl) ?_
            refine oy rfl (yas rfl) ?_
            refine on ?_
            refine pn ?_
            refine rt ?_
            refine pbr ?_
            refine pbr ?_
            refine pr ?_
            refine pbr ?_
            refine pr ?_
            refine ret_ rfl (fun hM => ?_)
            rotate_left
            refine rk ?_
            refine pn ?_
            refine rs_ ?_
            refine rsr ?_
            refine oy rfl (ymv rfl) ?_
            refine oy rfl (ybE rfl rfl) ?_
            refine on ?_
            refine pn ?_
            refine rcd rfl (fun c5 => ?_) (fun c5 => ?_)
            refine rr ?_
            refine oy rfl (yas rfl) ?_
            refine on ?_
            refine pn ?_
            refine rsr ?_
            refine oy rfl (ymv rfl) ?_
            refine oy rfl (ymv rfl) ?_
            refine oy rfl (yas rfl) ?_
            refine oy rfl (yas rfl) ?_
            refine oy rfl (yas rfl) ?_
            refine on ?_
            refine pn ?_
            refine rt ?_
            refine pbr ?_
            refine pbr ?_
            refine pr ?_
            refine pbr ?_
            refine pr ?_
            refine ret_ rfl (fun hM => ?_)
            rotate_left
            refine rk ?_
            refine pn ?_
            refine rsr ?_
            refine oy rfl (ymv rfl) ?_
            refine oy rfl (ymv rfl) ?_
            refine oy rfl (yas rfl) ?_
            refine oy rfl (yas rfl) ?_
            refine oy rfl (yas rfl) ?_
            refine on ?_
            refine pn ?_
            refine rt ?_
            refine pbr ?_
            refine pbr ?_
            refine pr ?_
            refine pbr ?_
            refine pr ?_
            refine ret_ rfl (fun hM => ?_)
            rotate_left
            refine rsr ?_
            refine oy rfl (ymv rfl) ?_
            refine oy rfl (ybI rfl rfl rfl) ?_
            refine oy rfl (yas rfl) ?_
            refine on ?_
            refine pn ?_
            refine rcd rfl (fun c6 => ?_) (fun c6 => ?_)
            refine rs_ ?_
            refine rsr ?_
            refine oy rfl (ymv rfl) ?_
            refine oy rfl (ybW rfl rfl rfl (by omega)) ?_
            refine oy rfl (ymv rfl) ?_
            refine oy rfl (yls rfl (sl_arg hv rfl)) ?_
            refine oy rfl (ybI rfl rfl rfl) ?_
            refine on ?_
            refine pn ?_
            refine rcd rfl (fun c7 => ?_) (fun c7 => by exfalso; omega)
            refine rsr ?_
            refine oy rfl (yas rfl) ?_
            refine oy rfl (yas rfl) ?_
            refine oy rfl (yas rfl) ?_
            refine on ?_
            refine pn ?_
            refine rt ?_
            refine pr ?_
            refine pbr ?_
            refine pbr ?_
            refine pr ?_
            refine pbr ?_
            refine pr ?_
            refine ret_ rfl (fun hM => ?_)
            rotate_left
            refine rsr ?_
            refine oy rfl (ymv rfl) ?_
            refine oy rfl (ybI rfl rfl rfl) ?_
            refine oy rfl (yas rfl) ?_
            refine on ?_
            refine pn ?_
            refine rcd rfl (fun c8 => ?_) (fun c8 => ?_)
            refine rsr ?_
            refine oy rfl (yas rfl) ?_
            refine oy rfl (yas rfl) ?_
            refine oy rfl (yas rfl) ?_
            refine on ?_
            refine pn ?_
            refine rt ?_
            refine pbr ?_
            refine pbr ?_
            refine pr ?_
            refine pbr ?_
            refine pr ?_
            refine ret_ rfl (fun hM => ?_)
            rotate_left
            refine rsr ?_
            refine oy rfl (ymv rfl) ?_
            refine oy rfl (ymv rfl) ?_
            refine oy rfl (ybW rfl rfl rfl (by omega)) ?_
            refine oy rfl (yp1 rfl rfl rfl (sl_arg hv rfl) (by omega)) ?_
            refine oy rfl (ymv rfl) ?_
            refine l0 ?_
            refine ocd rfl rfl (fun hM => part_is hp _ (sub_tail (sl_arg hv rfl) (by omega) _ hM) (by simp only [List.length_drop]; omega) (by omega)) (fun w9 => ?_)
            refine oy rfl (ymv rfl) ?_
            refine oy rfl (yex rfl rfl) ?_
            refine oy rfl (yex rfl rfl) ?_
            refine oy rfl (yas rfl) ?_
            refine oy rfl (yas rfl) ?_
            refine on ?_
            refine pn ?_
            refine rs_ ?_
            refine rsr ?_
            refine oy rfl (ymv rfl) ?_
            refine oy rfl (ybI rfl rfl rfl) ?_
            refine on ?_
            refine pn ?_
            refine rcd rfl (fun c10 => ?_) (fun c10 => by exfalso; omega)
            refine rsr ?_
            refine oy rfl (ymv rfl) ?_
            refine oy rfl (yas rfl) ?_
            refine oy rfl (yas rfl) ?_
            refine oy rfl (yas rfl) ?_
            refine on ?_
            refine pn ?_
            refine rt ?_
            refine pr ?_
            refine pbr ?_
            refine pbr ?_
            refine pr ?_
            refine pbr ?_
            refine pr ?_
            refine ret_ rfl (fun hM => ?_)
            rotate_left
          all_goals first
            | exact ⟨hM.ext, by rw [hg, getP_zero (by omega) (by omega), if_pos (by assumption), if_pos (by omega)]; rfl⟩
            | exact ⟨hM.ext, by rw [hg, getP_zero (by omega) (by omega), if_pos (by assumption), if_neg (by omega)]; rfl⟩
            | exact ⟨hM.ext, by rw [hg, getP_zero (by omega) (by omega), if_neg (by assumption), if_pos (by omega)]; rfl⟩
            | exact ⟨hM.ext, by rw [hg, getP_zero (by omega) (by omega), if_neg (by assumption), if_neg (by omega)]; rfl⟩
            | exact ⟨hM.ext, by rw [hg, getP_tail2 (by omega) (by omega) (by omega)]; rfl⟩
            | exact ⟨hM.ext, by rw [hg, getP_form (by omega) (by omega) (by omega)]; rfl⟩
            | exact ⟨hM.ext, by rw [hg, getP_part (x := x) (by omega) (by omega) (by omega) (by rw [hq]; exact hp)]; rfl⟩
        · have hpl := partP_len _ _ _ _ hp
          simp only [List.length_nil, List.length_drop, Nat.zero_add] at hpl
          focus
            refine rs_ ?_
            refine rsr ?_
            refine oy rfl (ymv rfl) ?_
            refine oy rfl (ymv rfl) ?_
            refine oy rfl (yls rfl (sl_arg hv rfl)) ?_
            refine oy rfl (ybI rfl rfl rfl) ?_
            refine on ?_
            refine pn ?_
            refine rcd rfl (fun c1 => ?_) (fun c1 => by exfalso; omega)
            refine rk ?_
            refine pn ?_
            refine rb ?_
            refine rsr ?_
            refine oy rfl (ymv rfl) ?_
            refine oy rfl (ymv rfl) ?_
            refine oy rfl (yix rfl rfl rfl (sl_arg hv rfl) (by omega)) ?_
            refine oy rfl (yleN rfl rfl (sl_arg hv rfl) (by omega)) ?_
            refine oy rfl (ycb _ rfl) ?_
            refine oy rfl (yas rfl) ?_
            refine on ?_
            refine pn ?_
            refine rb ?_
            refine rsr ?_
            refine oy rfl (ymv rfl) ?_
            refine oy rfl (ybI rfl rfl rfl) ?_
            refine oy rfl (yas rfl) ?_
            refine on ?_
            refine pn ?_
            refine rcd rfl (fun c2 => ?_) (fun c2 => by exfalso; omega)
            refine rs_ ?_
            refine rsr ?_
            refine oy rfl (ymv rfl) ?_
            refine oy rfl (ybI rfl rfl rfl) ?_
            refine on ?_
            refine pn ?_
            refine rcd rfl (fun c3 => ?_) (fun c3 => ?_)
            refine rr ?_
            refine oy rfl (ymv rfl) ?_
            refine oy rfl (ybW rfl rfl rfl (by omega)) ?_
            refine oy rfl (yas rfl) ?_
            refine on ?_
            refine pn ?_
            refine rs_ ?_
            refine rsr ?_
            refine oy rfl (ymv rfl) ?_
            refine oy rfl (ybE rfl rfl) ?_
            refine on ?_
            refine pn ?_
            refine rcd rfl (fun c4 => ?_) (fun c4 => ?_)
            refine rr ?_
            refine oy rfl (yas rfl) ?_
            refine on ?_
            refine pn ?_
            refine rsr ?_
            refine oy rfl (ymv rfl) ?_
            refine oy rfl (ymv rfl) ?_
            refine oy rfl (yas rfl) ?_
            refine oy rfl (yas rfl) ?_
            refine oy rfl (yas rfl) ?_
            refine on ?_
            refine pn ?_
            refine rt ?_
            refine pbr ?_
            refine pbr ?_
            refine pr ?_
            refine pbr ?_
            refine pr ?_
            refine ret_ rfl (fun hM => ?_)
            rotate_left
            refine rk ?_
            refine pn ?_
            refine rsr ?_
            refine oy rfl (ymv rfl) ?_
            refine oy rfl (ymv rfl) ?_
            refine oy rfl (yas rfl) ?_
            refine oy rfl (yas rfl) ?_
            refine oy rfl (yas rfl) ?_
            refine on ?_
            refine pn ?_
            refine rt ?_
            refine pbr ?_
            refine pbr ?_
            refine pr ?_
            refine pbr ?_
            refine pr ?_
            refine ret_ rfl (fun hM => ?_)
            rotate_left
            refine rk ?_
            refine pn ?_
            refine rs_ ?_
            refine rsr ?_
            refine oy rfl (ymv rfl) ?_
            refine oy rfl (ybE rfl rfl) ?_
            refine on ?_
            refine pn ?_
            refine rcd rfl (fun c5 => ?_) (fun c5 => ?_)
            refine rr ?_
            refine oy rfl (yas rfl) ?_
            refine on ?_
            refine pn ?_
            refine rsr ?_
            refine oy rfl (ymv rfl) ?_
            refine oy rfl (ymv rfl) ?_
            refine oy rfl (yas rfl) ?_
            refine oy rfl (yas rfl) ?_
            refine oy rfl (yas rfl) ?_
            refine on ?_
            refine pn ?_
            refine rt ?_
            refine pbr ?_
            refine pbr ?_
            refine pr ?_
            refine pbr ?_
            refine pr ?_
            refine ret_ rfl (fun hM => ?_)
            rotate_left
            refine rk ?_
            refine pn ?_
            refine rsr ?_
            refine oy rfl (ymv rfl) ?_
            refine oy rfl (ymv rfl) ?_
            refine oy rfl (yas rfl) ?_
            refine oy rfl (yas rfl) ?_
            refine oy rfl (yas rfl) ?_
            refine on ?_
            refine pn ?_
            refine rt ?_
            refine pbr ?_
            refine pbr ?_
            refine pr ?_
            refine pbr ?_
            refine pr ?_
            refine ret_ rfl (fun hM => ?_)
            rotate_left
          all_goals first
            | exact ⟨hM.ext, by rw [hg, getP_zero (by omega) (by omega), if_pos (by assumption), if_pos (by omega)]; rfl⟩
            | exact ⟨hM.ext, by rw [hg, getP_zero (by omega) (by omega), if_pos (by assumption), if_neg (by omega)]; rfl⟩
            | exact ⟨hM.ext, by rw [hg, getP_zero (by omega) (by omega), if_neg (by assumption), if_pos (by omega)]; rfl⟩
            | exact ⟨hM.ext, by rw [hg, getP_zero (by omega) (by omega), if_neg (by assumption), if_neg (by omega)]; rfl⟩
            | exact ⟨hM.ext, by rw [hg, getP_tail2 (by omega) (by omega) (by omega)]; rfl⟩
            | exact ⟨hM.ext, by rw [hg, getP_form (by omega) (by omega) (by omega)]; rfl⟩
            | (simp only [List.length_append, List.length_cons, List.length_nil] at *; exact ⟨hM.ext, by rw [hg, getP_long (p := p) (by omega) (by omega) (by omega) (by rw [hq]; exact hp) (by omega)]; rfl⟩)
            | skip
    · focus
        refine rs_ ?_
        refine rsr ?_
        refine oy rfl (ymv rfl) ?_
        refine oy rfl (ymv rfl) ?_
        refine oy rfl (yls rfl (sl_arg hv rfl)) ?_
        refine oy rfl (ybI rfl rfl rfl) ?_
        refine on ?_
        refine pn ?_
        refine rcd rfl (fun c1 => by exfalso; omega) (fun c1 => ?_)
        refine re ?_
        refine pe ?_
        refine pe ?_
        refine pbe ?_
        refine pn ?_
        refine rsr ?_
        refine oy rfl (yas rfl) ?_
        refine oy rfl (yas rfl) ?_
        refine oy rfl (yas rfl) ?_
        refine on ?_
        refine pn ?_
        refine rt ?_
        refine ret_ rfl (fun hM => ?_)
        rotate_left
      exact ⟨hM.ext, by rw [hg, getP_tail (by omega)]; rfl⟩
end Go.Proofs.YtkhlmpkodjoioaaDoor
