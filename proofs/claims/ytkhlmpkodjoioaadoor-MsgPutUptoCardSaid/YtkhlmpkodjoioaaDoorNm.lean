/- Names, plainly: what a name's parts are. -/
set_option linter.unusedVariables false
namespace Go.Proofs.YtkhlmpkodjoioaaDoor
def isLet (b : UInt8) : Bool := decide ((97 ≤ b.toNat ∧ b.toNat ≤ 122) ∨ (48 ≤ b.toNat ∧ b.toNat ≤ 57) ∨ b.toNat = 45 ∨ b.toNat = 95 ∨ b.toNat = 42)
/-- The parts of a text that ends with a dot; 'cur': what has come of the part. -/
def scan : List UInt8 → List (List UInt8) → List UInt8 → Option (List (List UInt8))
  | cur, out, [] => if cur = [] then some out else none
  | cur, out, c :: r => if c = 46 then (if cur = [] ∨ 63 < cur.length then none else scan [] (out ++ [cur]) r) else if isLet c then scan (cur ++ [c]) out r else none
def labels (s : List UInt8) : Option (List (List UInt8)) := if s = [46] then some [] else if s = [] ∨ 254 < s.length then none else scan [] [] s
theorem drop_get {s : List UInt8} {i : Nat} (h : i < s.length) : s.drop i = s[i] :: s.drop (i + 1) := by rw [List.drop_eq_getElem_cons h]
theorem take_drop_snoc {s : List UInt8} {f i : Nat} (hf : f ≤ i) (h : i < s.length) : (s.take (i + 1)).drop f = (s.take i).drop f ++ [s[i]] := by
  rw [List.take_succ_eq_append_getElem h, List.drop_append_of_le_length (by rw [List.length_take]; omega)]
theorem getD_get {s : List UInt8} {i : Nat} (h : i < s.length) : s.getD i 0 = s[i] := by rw [List.getD_eq_getElem?_getD, List.getElem?_eq_getElem h]; rfl
theorem u8_eq {c d : UInt8} (h : c.toNat = d.toNat) : c = d := UInt8.toNat_inj.1 h
theorem cut_nil {s : List UInt8} {f i : Nat} (hi : i ≤ s.length) : (s.take i).drop f = [] ↔ i ≤ f := by
  rw [List.drop_eq_nil_iff, List.length_take]; omega
theorem cut_len {s : List UInt8} {f i : Nat} (hi : i ≤ s.length) : ((s.take i).drop f).length = i - f := by
  rw [List.length_drop, List.length_take]; omega
theorem scan_dot {s : List UInt8} {out : List (List UInt8)} {f i : Nat} (hi : i < s.length) (hc : (s.getD i 0).toNat = 46) :
    scan ((s.take i).drop f) out (s.drop i) = if i ≤ f ∨ 63 < i - f then none else scan [] (out ++ [(s.take i).drop f]) (s.drop (i + 1)) := by
  rw [drop_get hi, scan, if_pos (by rw [← getD_get hi]; exact u8_eq hc)]
  simp only [cut_nil (Nat.le_of_lt hi), cut_len (Nat.le_of_lt hi)]
theorem scan_let {s : List UInt8} {out : List (List UInt8)} {f i : Nat} (hf : f ≤ i) (hi : i < s.length) (hc : (s.getD i 0).toNat ≠ 46) :
    scan ((s.take i).drop f) out (s.drop i) = if isLet (s.getD i 0) then scan ((s.take (i + 1)).drop f) out (s.drop (i + 1)) else none := by
  rw [drop_get hi, scan, if_neg (by rw [← getD_get hi]; intro h; rw [h] at hc; exact hc rfl), take_drop_snoc hf hi, getD_get hi]
theorem scan_end {s : List UInt8} {out : List (List UInt8)} {f i : Nat} (hi : i = s.length) : scan ((s.take i).drop f) out (s.drop i) = if i ≤ f then some out else none := by
  subst hi
  rw [List.drop_length, scan]
  simp only [cut_nil (Nat.le_refl _)]
/-! what a name is -/
def okLab (p : List UInt8) : Prop := p ≠ [] ∧ p.length ≤ 63 ∧ ∀ b ∈ p, isLet b = true
def dots (l : List (List UInt8)) : List UInt8 := l.flatMap (· ++ [46])
theorem isLet_46 : isLet 46 = false := by decide
theorem scan_spec : ∀ (r cur : List UInt8) (out l : List (List UInt8)), (∀ b ∈ cur, isLet b = true) → scan cur out r = some l → ∃ l', l = out ++ l' ∧ cur ++ r = dots l' ∧ ∀ p ∈ l', okLab p
  | [], cur, out, l, hc, h => by
    simp only [scan] at h
    split at h
    · rename_i h0; cases h; exact ⟨[], by simp, by simp [h0, dots], fun p hp => by cases hp⟩
    · cases h
  | c :: r, cur, out, l, hc, h => by
    simp only [scan] at h
    split at h
    · rename_i h0
      split at h
      · cases h
      · rename_i h1
        obtain ⟨l', h2, h3, h4⟩ := scan_spec r [] _ _ (fun b hb => by cases hb) h
        refine ⟨cur :: l', by simp [h2], by simp only [dots, List.flatMap_cons] at h3 ⊢; rw [← h3, h0]; simp, fun p hp => ?_⟩
        rcases List.mem_cons.1 hp with rfl | hp
        · exact ⟨fun h => h1 (.inl h), Nat.not_lt.1 fun h => h1 (.inr h), hc⟩
        · exact h4 p hp
    · split at h
      · rename_i h1
        obtain ⟨l', h2, h3, h4⟩ := scan_spec r (cur ++ [c]) out l (fun b hb => by
          rcases List.mem_append.1 hb with hb | hb
          · exact hc b hb
          · simp at hb; subst hb; exact h1) h
        exact ⟨l', h2, by rw [← h3]; simp, h4⟩
      · cases h
theorem scan_lab : ∀ (p cur r : List UInt8) (out : List (List UInt8)), (∀ b ∈ p, isLet b = true) → scan cur out (p ++ r) = scan (cur ++ p) out r
  | [], cur, r, out, h => by simp
  | c :: p, cur, r, out, h => by
    have h0 : isLet c = true := h c (.head _)
    have h1 : c ≠ 46 := fun hh => by rw [hh, isLet_46] at h0; cases h0
    rw [List.cons_append, scan, if_neg h1, if_pos h0, scan_lab p _ r out (fun b hb => h b (.tail _ hb))]
    simp
theorem scan_dots : ∀ (l out : List (List UInt8)), (∀ p ∈ l, okLab p) → scan [] out (dots l) = some (out ++ l)
  | [], out, h => by simp [dots, scan]
  | p :: l, out, h => by
    obtain ⟨h1, h2, h3⟩ := h p (.head _)
    have : dots (p :: l) = p ++ (46 :: dots l) := by simp [dots]
    rw [this, scan_lab p [] _ out h3, scan, if_pos rfl, List.nil_append, if_neg (by intro h; rcases h with h | h; exact h1 h; omega), scan_dots l _ (fun q hq => h q (.tail _ hq))]
    simp
theorem dots_nil {l : List (List UInt8)} : dots l = [] ↔ l = [] := by
  cases l with
  | nil => simp [dots]
  | cons p l => simp [dots]
/-- A name's text, of its labels. -/
def text (l : List (List UInt8)) : List UInt8 := if l = [] then [46] else dots l
def okName (l : List (List UInt8)) : Prop := (∀ p ∈ l, okLab p) ∧ (dots l).length ≤ 254
theorem dots_46 {l : List (List UInt8)} (h : ∀ p ∈ l, okLab p) : dots l ≠ [46] := fun h0 => by
  cases l with
  | nil => simp [dots] at h0
  | cons p l =>
    obtain ⟨h1, -, -⟩ := h p (.head _)
    cases p with
    | nil => exact h1 rfl
    | cons b p => simp [dots] at h0
theorem labels_iff {s : List UInt8} {l : List (List UInt8)} : labels s = some l ↔ s = text l ∧ okName l := by
  constructor
  · intro h
    unfold labels at h
    split at h
    · rename_i h0; cases h; exact ⟨h0, (fun p hp => by cases hp), by simp [dots]⟩
    · rename_i h0
      split at h
      · cases h
      · rename_i h1
        obtain ⟨l', h2, h3, h4⟩ := scan_spec s [] [] l (fun b hb => by cases hb) h
        simp only [List.nil_append] at h2 h3
        subst h2
        have hs : s ≠ [] := fun h => h1 (.inl h)
        refine ⟨?_, h4, ?_⟩
        · unfold text; rw [if_neg (fun h => hs (by rw [h3]; exact dots_nil.2 h))]; exact h3
        · rw [← h3]; exact Nat.not_lt.1 fun h => h1 (.inr h)
  · rintro ⟨rfl, h1, h2⟩
    unfold text labels
    by_cases hl : l = []
    · subst hl; simp
    · rw [if_neg hl, if_neg (dots_46 h1), if_neg (by intro h; rcases h with h | h; exact hl (dots_nil.1 h); omega), scan_dots l [] h1]; rfl
theorem labels_text {l : List (List UInt8)} (h : okName l) : labels (text l) = some l := labels_iff.2 ⟨rfl, h⟩
theorem dots_len (l : List (List UInt8)) : (dots l).length = (l.map List.length).sum + l.length := by
  induction l with
  | nil => rfl
  | cons p l ih => simp [dots] at ih ⊢; rw [ih]; omega
def enc1 (p : List UInt8) : List UInt8 := UInt8.ofNat p.length :: p
def wireOf (l : List (List UInt8)) : List UInt8 := l.flatMap enc1 ++ [0]
theorem enc_len (l : List (List UInt8)) : (l.flatMap enc1).length = (dots l).length := by
  induction l with
  | nil => rfl
  | cons p l ih =>
    have h1 : dots (p :: l) = p ++ [46] ++ dots l := rfl
    have h2 : (p :: l).flatMap enc1 = enc1 p ++ l.flatMap enc1 := rfl
    rw [h1, h2, List.length_append, ih, List.length_append, List.length_append]
    simp [enc1]
theorem flat_take {l : List (List UInt8)} {i : Nat} (h : i < l.length) : (l.take (i + 1)).flatMap enc1 = (l.take i).flatMap enc1 ++ enc1 l[i] := by
  rw [List.take_succ_eq_append_getElem h, List.flatMap_append]; simp
theorem flat_take_le (l : List (List UInt8)) (i : Nat) : ((l.take i).flatMap enc1).length ≤ (dots l).length := by
  have h1 : l.flatMap enc1 = (l.take i).flatMap enc1 ++ (l.drop i).flatMap enc1 := by
    rw [← List.flatMap_append, List.take_append_drop]
  have h2 := enc_len l
  rw [h1, List.length_append] at h2
  omega
theorem lab_le {l : List (List UInt8)} {p : List UInt8} (h : okName l) (hp : p ∈ l) : p.length ≤ 63 := (h.1 p hp).2.1
/-! what bytes tell -/
def low (c : UInt8) : UInt8 := if 65 ≤ c.toNat ∧ c.toNat ≤ 90 then c + 32 else c
def partP : List UInt8 → Nat → List UInt8 → Except Nat (List UInt8)
  | _, 0, acc => .ok acc
  | [], _ + 1, _ => .error 3
  | c :: r, n + 1, acc => if isLet (low c) then partP r n (acc ++ [low c]) else .error 14
theorem partP_end {b : List UInt8} {k n : Nat} {acc : List UInt8} (h : b.length ≤ k) (hn : 0 < n) : partP (b.drop k) n acc = .error 3 := by
  rw [List.drop_eq_nil_of_le h]
  match n, hn with
  | n + 1, _ => rfl
theorem partP_step {b : List UInt8} {k n : Nat} {acc : List UInt8} (h : k < b.length) : partP (b.drop k) (n + 1) acc = if isLet (low (b.getD k 0)) then partP (b.drop (k + 1)) n (acc ++ [low (b.getD k 0)]) else .error 14 := by
  rw [drop_get h, partP, getD_get h]
def getP (b s : List UInt8) (e before a : Nat) : List UInt8 × Nat × Nat :=
  if b.length ≤ a then ([], 0, 3) else
  if (b.getD a 0).toNat = 0 then (if s = [] then [46] else s, if e = 0 then a + 1 else e, 0) else
  if 192 ≤ (b.getD a 0).toNat then
    (if b.length ≤ a + 1 then ([], 0, 3) else
      if h : ((b.getD a 0).toNat - 192) * 256 + (b.getD (a + 1) 0).toNat < before then
        getP b s (if e = 0 then a + 2 else e) (((b.getD a 0).toNat - 192) * 256 + (b.getD (a + 1) 0).toNat) (((b.getD a 0).toNat - 192) * 256 + (b.getD (a + 1) 0).toNat)
      else ([], 0, 13)) else
  if 63 < (b.getD a 0).toNat then ([], 0, 2) else
  match partP (b.drop (a + 1)) (b.getD a 0).toNat [] with
  | .error x => ([], 0, x)
  | .ok p => if h : 254 < s.length + p.length + 1 then ([], 0, 14) else getP b (s ++ p ++ [46]) e a (a + 1 + (b.getD a 0).toNat)
termination_by (255 - s.length, before)
decreasing_by
  · exact Prod.Lex.right _ h
  · refine Prod.Lex.left _ _ ?_
    simp only [List.length_append, List.length_cons, List.length_nil]
    omega
section
variable {b s : List UInt8} {e before a : Nat}
theorem getP_tail (h : b.length ≤ a) : getP b s e before a = ([], 0, 3) := by rw [getP, if_pos h]
theorem getP_zero (h : a < b.length) (h0 : (b.getD a 0).toNat = 0) : getP b s e before a = (if s = [] then [46] else s, if e = 0 then a + 1 else e, 0) := by rw [getP, if_neg (by omega), if_pos h0]
theorem getP_tail2 (h : a < b.length) (h1 : 192 ≤ (b.getD a 0).toNat) (h2 : b.length ≤ a + 1) : getP b s e before a = ([], 0, 3) := by rw [getP, if_neg (by omega), if_neg (by omega), if_pos h1, if_pos h2]
theorem getP_loop (h : a + 1 < b.length) (h1 : 192 ≤ (b.getD a 0).toNat) (h2 : before ≤ ((b.getD a 0).toNat - 192) * 256 + (b.getD (a + 1) 0).toNat) : getP b s e before a = ([], 0, 13) := by
  rw [getP, if_neg (by omega), if_neg (by omega), if_pos h1, if_neg (by omega), dif_neg (by omega)]
theorem getP_jump (h : a + 1 < b.length) (h1 : 192 ≤ (b.getD a 0).toNat) (h2 : ((b.getD a 0).toNat - 192) * 256 + (b.getD (a + 1) 0).toNat < before) :
    getP b s e before a = getP b s (if e = 0 then a + 2 else e) (((b.getD a 0).toNat - 192) * 256 + (b.getD (a + 1) 0).toNat) (((b.getD a 0).toNat - 192) * 256 + (b.getD (a + 1) 0).toNat) := by
  rw [getP, if_neg (by omega), if_neg (by omega), if_pos h1, if_neg (by omega), dif_pos h2]
theorem getP_form (h : a < b.length) (h1 : (b.getD a 0).toNat < 192) (h2 : 63 < (b.getD a 0).toNat) : getP b s e before a = ([], 0, 2) := by
  rw [getP, if_neg (by omega), if_neg (by omega), if_neg (by omega), if_pos h2]
theorem getP_part {x : Nat} (h : a < b.length) (h0 : 0 < (b.getD a 0).toNat) (h1 : (b.getD a 0).toNat ≤ 63) (h2 : partP (b.drop (a + 1)) (b.getD a 0).toNat [] = .error x) : getP b s e before a = ([], 0, x) := by
  rw [getP, if_neg (by omega), if_neg (by omega), if_neg (by omega), if_neg (by omega), h2]
theorem getP_long {p : List UInt8} (h : a < b.length) (h0 : 0 < (b.getD a 0).toNat) (h1 : (b.getD a 0).toNat ≤ 63) (h2 : partP (b.drop (a + 1)) (b.getD a 0).toNat [] = .ok p) (h3 : 254 < s.length + p.length + 1) : getP b s e before a = ([], 0, 14) := by
  rw [getP, if_neg (by omega), if_neg (by omega), if_neg (by omega), if_neg (by omega), h2]
  exact dif_pos h3
theorem getP_lab {p : List UInt8} (h : a < b.length) (h0 : 0 < (b.getD a 0).toNat) (h1 : (b.getD a 0).toNat ≤ 63) (h2 : partP (b.drop (a + 1)) (b.getD a 0).toNat [] = .ok p) (h3 : s.length + p.length + 1 ≤ 254) :
    getP b s e before a = getP b (s ++ p ++ [46]) e a (a + 1 + (b.getD a 0).toNat) := by
  rw [getP, if_neg (by omega), if_neg (by omega), if_neg (by omega), if_neg (by omega), h2]
  exact dif_neg (by omega)
end
theorem getP_end (b s : List UInt8) (e before a : Nat) : e ≤ b.length → (getP b s e before a).2.1 ≤ b.length := by
  induction s, e, before, a using getP.induct b with
  | case1 s e before a h => intro he; rw [getP_tail h]; exact Nat.zero_le _
  | case2 s e before a h h0 => intro he; rw [getP_zero (by omega) h0]; dsimp only; split <;> omega
  | case3 s e before a h h0 h1 h2 => intro he; rw [getP_tail2 (by omega) h1 h2]; exact Nat.zero_le _
  | case4 s e before a h h0 h1 h2 h3 ih => intro he; rw [getP_jump (by omega) h1 h3]; exact ih (by split <;> omega)
  | case5 s e before a h h0 h1 h2 h3 => intro he; rw [getP_loop (by omega) h1 (by omega)]; exact Nat.zero_le _
  | case6 s e before a h h0 h1 h2 => intro he; rw [getP_form (by omega) (by omega) h2]; exact Nat.zero_le _
  | case7 s e before a h h0 h1 h2 x h3 => intro he; rw [getP_part (by omega) (by omega) (by omega) h3]; exact Nat.zero_le _
  | case8 s e before a h h0 h1 h2 p h3 h4 => intro he; rw [getP_long (by omega) (by omega) (by omega) h3 h4]; exact Nat.zero_le _
  | case9 s e before a h h0 h1 h2 p h3 h4 ih => intro he; rw [getP_lab (by omega) (by omega) (by omega) h3 (by omega)]; exact ih he
theorem ite_len {s : List UInt8} (h : s.length ≤ 254) : (if s = [] then [46] else s : List UInt8).length ≤ 254 := by
  split
  · decide
  · exact h
theorem getP_short (b s : List UInt8) (e before a : Nat) : s.length ≤ 254 → (getP b s e before a).1.length ≤ 254 := by
  induction s, e, before, a using getP.induct b with
  | case1 s e before a h => intro he; rw [getP_tail h]; exact Nat.zero_le _
  | case2 s e before a h h0 => intro he; rw [getP_zero (by omega) h0]; exact ite_len he
  | case3 s e before a h h0 h1 h2 => intro he; rw [getP_tail2 (by omega) h1 h2]; exact Nat.zero_le _
  | case4 s e before a h h0 h1 h2 h3 ih => intro he; rw [getP_jump (by omega) h1 h3]; exact ih he
  | case5 s e before a h h0 h1 h2 h3 => intro he; rw [getP_loop (by omega) h1 (by omega)]; exact Nat.zero_le _
  | case6 s e before a h h0 h1 h2 => intro he; rw [getP_form (by omega) (by omega) h2]; exact Nat.zero_le _
  | case7 s e before a h h0 h1 h2 x h3 => intro he; rw [getP_part (by omega) (by omega) (by omega) h3]; exact Nat.zero_le _
  | case8 s e before a h h0 h1 h2 p h3 h4 => intro he; rw [getP_long (by omega) (by omega) (by omega) h3 h4]; exact Nat.zero_le _
  | case9 s e before a h h0 h1 h2 p h3 h4 ih => intro he; rw [getP_lab (by omega) (by omega) (by omega) h3 (by omega)]; exact ih (by simp; omega)
theorem low_hi {c : UInt8} (h : 65 ≤ c.toNat) (h1 : c.toNat ≤ 90) : low c = c + 32 := if_pos ⟨h, h1⟩
theorem low_lo {c : UInt8} (h : ¬ (65 ≤ c.toNat ∧ c.toNat ≤ 90)) : low c = c := if_neg h
def getN (b : List UInt8) (a : Nat) : List UInt8 × Nat × Nat := if b.length < a then ([], 0, 1) else getP b [] 0 a a
theorem getN_end (b : List UInt8) (a : Nat) : (getN b a).2.1 ≤ b.length := by
  unfold getN
  split
  · exact Nat.zero_le _
  · exact getP_end b [] 0 a a (Nat.zero_le _)
theorem getN_short (b : List UInt8) (a : Nat) : (getN b a).1.length ≤ 254 := by
  unfold getN
  split
  · exact Nat.zero_le _
  · exact getP_short b [] 0 a a (Nat.zero_le _)
def wireN (s : List UInt8) : List UInt8 × Nat := match labels s with
  | some l => (wireOf l, 0)
  | none => ([], 14)
def plainN (s : List UInt8) : Nat :=
  if (getN s 0).2.2 = 0 ∧ (wireN (getN s 0).1).2 = 0 ∧ (getN s 0).2.1 = (wireN (getN s 0).1).1.length ∧ s.take (getN s 0).2.1 = (wireN (getN s 0).1).1 then (getN s 0).2.1 else 0
theorem plainN_le (s : List UInt8) : plainN s ≤ s.length := by
  unfold plainN
  split
  · exact getN_end s 0
  · exact Nat.zero_le _
/-- TXT's parts -/
def txtEnd (d : List UInt8) (i : Nat) : Nat := if h : i < d.length then txtEnd d (i + 1 + (d.getD i 0).toNat) else i
termination_by d.length - i
def rightName (s : List UInt8) : Bool := (labels s).isSome
def rightData (t : Int) (d : List UInt8) : Bool :=
  if t = 1 then decide (d.length = 4) else
  if t = 28 then decide (d.length = 16) else
  if t = 2 ∨ t = 5 then decide (0 < plainN d ∧ plainN d = d.length) else
  if t = 15 then decide (2 < d.length ∧ plainN (d.drop 2) + 2 = d.length) else
  if t = 6 then decide (0 < plainN d ∧ 0 < plainN (d.drop (plainN d)) ∧ d.length = plainN d + plainN (d.drop (plainN d)) + 20) else
  if t = 16 then decide (0 < d.length ∧ txtEnd d 0 = d.length) else true
/-! numbers of bytes -/
def beN : Nat → Nat → List UInt8
  | _, 0 => []
  | n, k + 1 => beN (n / 256) k ++ [UInt8.ofNat n]
theorem beN_len : ∀ (n k : Nat), (beN n k).length = k
  | _, 0 => rfl
  | n, k + 1 => by simp [beN, beN_len (n / 256) k]
def ofBytes (l : List UInt8) : Nat := l.foldl (fun n b => n * 256 + b.toNat) 0
def serialN (d : List UInt8) : Nat := ofBytes ((d.drop (d.length - 20)).take 4)
theorem ofBytes_snoc (l : List UInt8) (b : UInt8) : ofBytes (l ++ [b]) = ofBytes l * 256 + b.toNat := by simp [ofBytes]
theorem tail_step {d : List UInt8} {j : Nat} (h : 20 ≤ d.length) (h1 : 16 < j) (h2 : j ≤ 20) : (d.drop (d.length - 20)).take (20 - (j - 1)) = (d.drop (d.length - 20)).take (20 - j) ++ [d.getD (d.length - j) 0] := by
  have h3 : 20 - (j - 1) = 20 - j + 1 := by omega
  have h4 : 20 - j < (d.drop (d.length - 20)).length := by rw [List.length_drop]; omega
  rw [h3, List.take_succ_eq_append_getElem h4, List.getElem_drop, getD_get (by omega)]
  congr 3
  omega
end Go.Proofs.YtkhlmpkodjoioaaDoor
