/- Names put behind each other, plainly: the document's list of places and the program's table tell the same. -/
import Derived.Test.YtkhlmpkodjoioaaDoorN16
set_option linter.unusedVariables false
set_option linter.unusedSimpArgs false
namespace Go.Proofs.YtkhlmpkodjoioaaDoor
abbrev Pls := List (List UInt8 × Nat)
def dhit (k : List UInt8) (p : List UInt8 × Nat) : Bool := decide (p.1 = k ∧ p.2 < 16384)
def dget (l : Pls) (k : List UInt8) : Option Nat := (l.find? (dhit k)).map (·.2)
def dputN (l : Pls) (b : List UInt8) : List (List UInt8) → Pls × List UInt8
  | [] => (l, b ++ [0])
  | p :: r => match dget l (dots (p :: r)) with
    | some a => (l, b ++ [UInt8.ofNat (192 + a / 256), UInt8.ofNat (a % 256)])
    | none => dputN (l ++ [(dots (p :: r), b.length)]) (b ++ enc1 p) r
theorem dput_none {l : Pls} {b p : List UInt8} {r : List (List UInt8)} (h : dget l (dots (p :: r)) = none) : dputN l b (p :: r) = dputN (l ++ [(dots (p :: r), b.length)]) (b ++ enc1 p) r := by rw [dputN, h]
theorem dput_hit {l : Pls} {b p : List UInt8} {r : List (List UInt8)} {a : Nat} (h : dget l (dots (p :: r)) = some a) : dputN l b (p :: r) = (l, b ++ [UInt8.ofNat (192 + a / 256), UInt8.ofNat (a % 256)]) := by rw [dputN, h]
theorem dget_lt {l : Pls} {k : List UInt8} {a : Nat} (h : dget l k = some a) : a < 16384 := by
  unfold dget at h
  obtain ⟨p, hp, rfl⟩ := Option.map_eq_some_iff.1 h
  have := List.find?_some hp
  simp [dhit] at this
  exact this.2
def near : Option Nat → Option Nat
  | some a => if a < 16384 then some a else none
  | none => none
structure PInv (l : Pls) (tab : Tab) (b : List UInt8) : Prop where
  eq : ∀ s, dget l (s ++ [46]) = near (tget tab s)
  le : ∀ p ∈ tab, p.2 ≤ b.length
theorem PInv.start (b : List UInt8) : PInv [] [] b := ⟨fun s => rfl, fun p hp => by cases hp⟩
theorem tget_mem {tab : Tab} {s : List UInt8} {a : Nat} (h : tget tab s = some a) : ∃ p ∈ tab, p.2 = a := by
  unfold tget at h
  obtain ⟨p, hp, rfl⟩ := Option.map_eq_some_iff.1 h
  exact ⟨p, List.mem_of_find?_eq_some hp, rfl⟩
theorem dget_snoc (l : Pls) (k k' : List UInt8) (n : Nat) : dget (l ++ [(k', n)]) k = (dget l k).or (if k' = k ∧ n < 16384 then some n else none) := by
  unfold dget
  rw [List.find?_append]
  cases h : l.find? (dhit k) with
  | some p => simp
  | none =>
    simp only [Option.none_or, Option.map_none, List.find?_cons, List.find?_nil, dhit]
    by_cases hk : k' = k ∧ n < 16384
    · simp [hk]
    · simp [hk]
theorem tget_snoc (t : Tab) (k k' : List UInt8) (n : Nat) : tget (t ++ [(k', n)]) k = (tget t k).or (if k' = k then some n else none) := by
  unfold tget
  rw [List.find?_append]
  cases h : t.find? (fun p => decide (p.1 = k)) with
  | some p => simp
  | none =>
    simp only [Option.none_or, Option.map_none, List.find?_cons, List.find?_nil]
    by_cases hk : k' = k
    · simp [hk]
    · simp [hk]
theorem ptr_all : ∀ n : Fin 64, UInt8.ofNat (192 + n.val) = 192 ||| UInt8.ofNat n.val := by decide +kernel
theorem ptr_eq {a : Nat} (h : a < 16384) : [UInt8.ofNat (192 + a / 256), UInt8.ofNat (a % 256)] = [192 ||| UInt8.ofNat (a / 256), UInt8.ofNat a] := by
  rw [ptr_all ⟨a / 256, by omega⟩]
  congr 2
  apply UInt8.toNat_inj.1
  simp
theorem dput_eq : ∀ (parts : List (List UInt8)) (l : Pls) (tab : Tab) (b : List UInt8), PInv l tab b → (dputN l b parts).2 = (tputN tab b parts).2 ∧ PInv (dputN l b parts).1 (tputN tab b parts).1 (tputN tab b parts).2
  | [], l, tab, b, h => by
    refine ⟨rfl, h.eq, fun p hp => ?_⟩
    have := h.le p hp
    show p.2 ≤ (b ++ [0]).length
    simp; omega
  | p :: r, l, tab, b, h => by
    have hk : joinL (p :: r) ++ [46] = dots (p :: r) := joinL_dots (by simp)
    have h1 := h.eq (joinL (p :: r))
    rw [hk] at h1
    have hle : ∀ (q : List UInt8 × Nat), q ∈ tab → q.2 ≤ (b ++ enc1 p).length := fun q hq => by have := h.le q hq; simp; omega
    cases ht : tget tab (joinL (p :: r)) with
    | none =>
      rw [ht] at h1
      rw [dput_none h1, tput_none ht]
      refine dput_eq r _ _ _ ⟨fun s => ?_, fun q hq => ?_⟩
      · rw [dget_snoc, tget_snoc, h.eq s]
        by_cases hs : joinL (p :: r) = s
        · subst hs
          rw [ht, hk]
          simp [near]
        · have : ¬ dots (p :: r) = s ++ [46] := fun hh => hs (by rw [← hk] at hh; exact List.append_cancel_right hh)
          simp [hs, this]
      · rcases List.mem_append.1 hq with hq | hq
        · exact hle q hq
        · simp at hq; subst hq; simp
    | some a =>
      rw [ht] at h1
      by_cases ha : a < 16384
      · rw [show near (some a) = some a from if_pos ha] at h1
        rw [dput_hit h1, tput_hit ht ha, ptr_eq ha]
        refine ⟨rfl, h.eq, fun q hq => ?_⟩
        have := h.le q hq
        simp; omega
      · rw [show near (some a) = none from if_neg ha] at h1
        obtain ⟨q, hq, hqa⟩ := tget_mem ht
        have hbl := h.le q hq
        rw [dput_none h1, tput_far ht ha]
        refine dput_eq r _ _ _ ⟨fun s => ?_, hle⟩
        rw [dget_snoc, h.eq s]
        have : ¬ b.length < 16384 := by omega
        simp [this]
end Go.Proofs.YtkhlmpkodjoioaaDoor
