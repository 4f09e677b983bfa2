/- Names, plainly: what is split at dots, and trimmed. -/
import Derived.Test.YtkhlmpkodjoioaaDoorNm
import Derived.Lib.Split
import Derived.Lib.SlTrimSet
set_option linter.unusedVariables false
set_option linter.unusedSimpArgs false
namespace Go.Proofs.YtkhlmpkodjoioaaDoor
theorem idx46 : ∀ s : List UInt8, (Lib.index s [46] = -1 ∧ 46 ∉ s) ∨ ∃ (p r : List UInt8), Lib.index s [46] = p.length ∧ s = p ++ 46 :: r ∧ 46 ∉ p
  | [] => .inl ⟨rfl, by simp⟩
  | b :: l => by
    by_cases hb : b = 46
    · subst hb; exact .inr ⟨[], l, by simp [Lib.index, List.isPrefixOf], rfl, by simp⟩
    · have hb' : ¬ 46 = b := fun h => hb h.symm
      have h1 : ([46] : List UInt8).isPrefixOf (b :: l) = false := by simp [List.isPrefixOf, hb']
      rcases idx46 l with ⟨h, hn⟩ | ⟨p, r, h, hs, hn⟩
      · left
        refine ⟨?_, by simp [hn, hb']⟩
        unfold Lib.index; rw [h1, h]; rfl
      · right
        refine ⟨b :: p, r, ?_, by simp [hs], by simp [hn, hb']⟩
        unfold Lib.index
        rw [h1, h, if_neg (by simp), if_neg (by rw [beq_iff_eq]; omega)]
        simp
theorem splitK_spec : ∀ (k : Nat) (s : List UInt8), Lib.count s [46] ≤ k → Lib.splitK [46] 0 k s ≠ [] ∧ dots (Lib.splitK [46] 0 k s) = s ++ [46] ∧ ∀ p ∈ Lib.splitK [46] 0 k s, 46 ∉ p
  | 0, s, h => by
    rcases idx46 s with ⟨h1, hn⟩ | ⟨p, r, h1, hs, hn⟩
    · simp [Lib.splitK, dots, hn]
    · rw [Lib.count_hit (by simp) h1] at h; omega
  | k + 1, s, h => by
    rcases idx46 s with ⟨h1, hn⟩ | ⟨p, r, h1, hs, hn⟩
    · unfold Lib.splitK
      rw [if_pos (by rw [h1]; rfl)]
      simp [dots, hn]
    · rw [Lib.count_hit (by simp) h1] at h
      have e1 : s.drop (p.length + 1) = r := by rw [hs]; simp [List.drop_append]
      have e2 : s.take p.length = p := by rw [hs]; simp
      simp only [List.length_cons, List.length_nil, Nat.zero_add] at h
      rw [e1] at h
      obtain ⟨i1, i2, i3⟩ := splitK_spec k r (by omega)
      unfold Lib.splitK
      rw [if_neg (by rw [h1, beq_iff_eq]; omega), h1]
      simp only [Int.toNat_natCast, Nat.add_zero, List.length_cons, List.length_nil, Nat.zero_add, e1, e2]
      refine ⟨by simp, ?_, fun q hq => ?_⟩
      · have : dots (p :: Lib.splitK [46] 0 k r) = p ++ [46] ++ dots (Lib.splitK [46] 0 k r) := by simp [dots]
        rw [this, i2, hs]; simp
      · rcases List.mem_cons.1 hq with rfl | hq
        · exact hn
        · exact i3 q hq
theorem dot_inj : ∀ {p q a b : List UInt8}, 46 ∉ p → 46 ∉ q → p ++ 46 :: a = q ++ 46 :: b → p = q ∧ a = b
  | [], [], a, b, _, _, h => by simp at h; exact ⟨rfl, h⟩
  | [], c :: q, a, b, _, hq, h => by simp at h; simp [← h.1] at hq
  | c :: p, [], a, b, hp, _, h => by simp at h; simp [h.1] at hp
  | c :: p, d :: q, a, b, hp, hq, h => by
    simp at h hp hq
    obtain ⟨rfl, h⟩ := h
    obtain ⟨rfl, rfl⟩ := dot_inj hp.2 hq.2 h
    exact ⟨rfl, rfl⟩
theorem dots_inj : ∀ {l l' : List (List UInt8)}, (∀ p ∈ l, 46 ∉ p) → (∀ p ∈ l', 46 ∉ p) → dots l = dots l' → l = l'
  | [], [], _, _, _ => rfl
  | [], p :: l', _, _, h => by simp [dots] at h
  | p :: l, [], _, _, h => by simp [dots] at h
  | p :: l, q :: l', h1, h2, h => by
    have e1 : dots (p :: l) = p ++ 46 :: dots l := by simp [dots]
    have e2 : dots (q :: l') = q ++ 46 :: dots l' := by simp [dots]
    rw [e1, e2] at h
    obtain ⟨h3, h4⟩ := dot_inj (h1 p (.head _)) (h2 q (.head _)) h
    rw [h3, dots_inj (fun x hx => h1 x (.tail _ hx)) (fun x hx => h2 x (.tail _ hx)) h4]
theorem okLab_46 {p : List UInt8} (h : okLab p) : 46 ∉ p := fun hm => by have := h.2.2 46 hm; rw [isLet_46] at this; cases this
/-- What the program splits. -/
def cutN (s : List UInt8) : List (List UInt8) := Lib.splitK [46] 0 (Lib.count s [46]) s
theorem cutN_dots (s : List UInt8) : dots (cutN s) = s ++ [46] := (splitK_spec _ s (Nat.le_refl _)).2.1
theorem cutN_46 (s : List UInt8) : ∀ p ∈ cutN s, 46 ∉ p := (splitK_spec _ s (Nat.le_refl _)).2.2
theorem dots_mem {p : List UInt8} : ∀ {l : List (List UInt8)}, p ∈ l → p.length + 1 ≤ (dots l).length
  | [], h => by cases h
  | q :: l, h => by
    have e1 : dots (q :: l) = q ++ 46 :: dots l := by simp [dots]
    rw [e1, List.length_append, List.length_cons]
    rcases List.mem_cons.1 h with rfl | h
    · omega
    · have := dots_mem h; omega
theorem cutN_mem {s p : List UInt8} (h : p ∈ cutN s) : p.length ≤ s.length := by
  have := dots_mem h
  rw [cutN_dots] at this; simp at this; exact this
theorem labels_cut {s : List UInt8} (h0 : s ≠ []) (h1 : s.length ≤ 253) : (∀ p ∈ cutN s, okLab p) → labels (s ++ [46]) = some (cutN s) := fun h => by
  refine labels_iff.2 ⟨?_, h, by rw [cutN_dots]; simp; omega⟩
  unfold text
  rw [if_neg (show cutN s ≠ [] from (splitK_spec _ s (Nat.le_refl _)).1), cutN_dots]
theorem labels_bad {s p : List UInt8} (hp : p ∈ cutN s) (h0 : s ≠ []) : ¬ okLab p → labels (s ++ [46]) = none := fun h => by
  cases hl : labels (s ++ [46]) with
  | none => rfl
  | some l =>
    exfalso
    obtain ⟨h1, h2, h3⟩ := labels_iff.1 hl
    unfold text at h1
    split at h1
    · cases s with
      | nil => exact h0 rfl
      | cons c s => simp at h1
    · have := dots_inj (cutN_46 s) (fun p hp => okLab_46 (h2 p hp)) ((cutN_dots s).trans h1)
      rw [this] at hp
      exact h (h2 p hp)
theorem labels_dot {s : List UInt8} {l : List (List UInt8)} (h : labels s = some l) : ∃ b, s = b ++ [46] := by
  obtain ⟨h1, h2, h3⟩ := labels_iff.1 h
  unfold text at h1
  split at h1
  · exact ⟨[], by simpa using h1⟩
  · rename_i hl
    refine ⟨s.dropLast, ?_⟩
    rw [h1]
    obtain ⟨l', p, rfl⟩ : ∃ l' p, l = l' ++ [p] := ⟨l.dropLast, l.getLast hl, (List.dropLast_concat_getLast hl).symm⟩
    have : dots (l' ++ [p]) = (dots l' ++ p) ++ [46] := by simp [dots]
    rw [this, List.dropLast_concat]
def lettersL : List UInt8 := [97, 98, 99, 100, 101, 102, 103, 104, 105, 106, 107, 108, 109, 110, 111, 112, 113, 114, 115, 116, 117, 118, 119, 120, 121, 122, 48, 49, 50, 51, 52, 53, 54, 55, 56, 57, 45, 95, 42]
theorem let_con : ∀ n : Fin 256, lettersL.contains (UInt8.ofNat n.val) = isLet (UInt8.ofNat n.val) := by decide +kernel
theorem let_contains (b : UInt8) : lettersL.contains b = isLet b := by
  have h := let_con ⟨b.toNat, b.toNat_lt⟩
  have h2 : UInt8.ofNat b.toNat = b := UInt8.toNat_inj.1 (by simp)
  simpa only [h2] using h
theorem dw_nil {f : UInt8 → Bool} : ∀ {l : List UInt8}, l.dropWhile f = [] ↔ ∀ b ∈ l, f b = true
  | [] => by simp
  | c :: l => by
    rw [List.dropWhile_cons]
    split
    · rename_i h; rw [dw_nil]; simp [h]
    · rename_i h; simp [h]
theorem trim_nil {l cs : List UInt8} : Lib.trimS l cs = [] ↔ ∀ b ∈ l, cs.contains b = true := by
  unfold Lib.trimS Lib.trimLeftS Lib.trimRightS
  rw [dw_nil]
  constructor
  · intro h
    have h1 : l.reverse.dropWhile (cs.contains ·) = [] := by
      cases hd : l.reverse.dropWhile (cs.contains ·) with
      | nil => rfl
      | cons c r =>
        have h2 := h c (by rw [hd]; simp)
        have h3 := List.head_dropWhile_not (cs.contains ·) (l := l.reverse) (by rw [hd]; simp)
        simp only [hd, List.head_cons] at h3
        rw [h2] at h3; cases h3
    rw [dw_nil] at h1
    exact fun b hb => h1 b (by simpa using hb)
  · intro h b hb
    have h1 := (List.dropWhile_sublist (cs.contains ·) (l := l.reverse)).subset (by simpa using hb)
    exact h b (by simpa using h1)
theorem trim_let {l : List UInt8} : Lib.trimS l lettersL = [] ↔ ∀ b ∈ l, isLet b = true := by
  rw [trim_nil]; simp only [let_contains]
/-! a name's bytes, read where they stand -/
theorem low_let {b : UInt8} (h : isLet b = true) : low b = b := by
  unfold isLet at h
  exact low_lo (by simp at h; omega)
theorem partP_ok : ∀ (p r acc : List UInt8), (∀ b ∈ p, isLet b = true) → partP (p ++ r) p.length acc = .ok (acc ++ p)
  | [], r, acc, h => by simp [partP]
  | c :: p, r, acc, h => by
    have h0 := h c (.head _)
    rw [List.cons_append, List.length_cons, partP, low_let h0, if_pos h0, partP_ok p r _ (fun b hb => h b (.tail _ hb))]
    simp
theorem getP_wire : ∀ (l : List (List UInt8)) (pre post s b : List UInt8) (before : Nat), (∀ p ∈ l, okLab p) → s.length + (dots l).length ≤ 254 → b = pre ++ (l.flatMap enc1 ++ 0 :: post) →
    getP b s 0 before pre.length = (if s ++ dots l = [] then [46] else s ++ dots l, pre.length + (dots l).length + 1, 0)
  | [], pre, post, s, b, before, hok, hlen, hb => by
    have h1 : pre.length < b.length := by rw [hb]; simp
    have h2 : (b.getD pre.length 0).toNat = 0 := by rw [hb]; simp
    rw [getP_zero h1 h2]
    simp [dots]
  | p :: l, pre, post, s, b, before, hok, hlen, hb => by
    obtain ⟨hp1, hp2, hp3⟩ := hok p (.head _)
    have e1 : dots (p :: l) = p ++ 46 :: dots l := by simp [dots]
    have e2 : (p :: l).flatMap enc1 = UInt8.ofNat p.length :: p ++ l.flatMap enc1 := by simp [enc1]
    have h1 : pre.length < b.length := by rw [hb, e2]; simp
    have h2 : (b.getD pre.length 0).toNat = p.length := by
      rw [hb, e2]; simp; omega
    have hl : 0 < p.length := List.length_pos_iff.2 hp1
    have h3 : b.drop (pre.length + 1) = p ++ (l.flatMap enc1 ++ 0 :: post) := by
      rw [hb, e2, List.drop_append]; simp
    have h4 : partP (b.drop (pre.length + 1)) (b.getD pre.length 0).toNat [] = .ok p := by rw [h2, h3, partP_ok p _ [] hp3]; rfl
    rw [e1] at hlen
    simp only [List.length_append, List.length_cons] at hlen
    rw [getP_lab h1 (by omega) (by omega) h4 (by omega), h2]
    have e3 : pre.length + 1 + p.length = (pre ++ enc1 p).length := by simp [enc1]; omega
    have h5 := getP_wire l (pre ++ enc1 p) post (s ++ p ++ [46]) b pre.length (fun q hq => hok q (.tail _ hq)) (by simp; omega) (by rw [hb, e2]; simp [enc1])
    rw [e3, h5, e1]
    simp [enc1]
    omega
theorem getN_wire {l : List (List UInt8)} (h : okName l) (pre post : List UInt8) : getN (pre ++ (wireOf l ++ post)) pre.length = (text l, pre.length + (wireOf l).length, 0) := by
  unfold getN
  rw [if_neg (by simp)]
  rw [getP_wire l pre post [] _ _ h.1 (by simpa using h.2) (by simp [wireOf])]
  unfold text wireOf
  rw [List.length_append, enc_len]
  simp [dots_nil, Nat.add_assoc]
theorem plain_wire {s : List UInt8} (h : 0 < plainN s) : ∃ l, okName l ∧ (getN s 0).1 = text l ∧ (getN s 0).2.2 = 0 ∧ plainN s = (wireOf l).length ∧ s = wireOf l ++ s.drop (plainN s) := by
  unfold plainN at h ⊢
  split at h
  · rename_i h1
    rw [if_pos h1]
    obtain ⟨h2, h3, h4, h5⟩ := h1
    unfold wireN at h3 h4 h5
    split at h3
    · rename_i l hl
      rw [hl] at h4 h5
      obtain ⟨h6, h7⟩ := labels_iff.1 hl
      refine ⟨l, h7, h6, h2, h4, ?_⟩
      have := List.take_append_drop (getN s 0).2.1 s
      rw [h5] at this
      exact this.symm
    · simp at h3
  · cases h
end Go.Proofs.YtkhlmpkodjoioaaDoor
