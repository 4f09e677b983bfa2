/- Memory: what lies as it lay ('Ext'), slices that are read ('Sl') and slices of one's own ('Own'), and what the operations on them come to. -/
import Derived.Test.YtkhlmpkodjoioaaDoorVc
import Derived.Deep.AppendSrc
import Derived.Below
import Derived.Laws.NewBlocks
import Derived.Laws.OwnMore
set_option linter.unusedVariables false
set_option linter.unusedSimpArgs false
namespace Go.Proofs.YtkhlmpkodjoioaaDoor

variable {P : Program}

/-- All blocks that were there lie as they lay, but those of 'S'. -/
structure Ext (S : List Nat) (w w' : World) : Prop where
  os : w'.os = w.os
  tape : w'.tape = w.tape
  output : w'.output = w.output
  size : w.heap.size ≤ w'.heap.size
  block : ∀ k, k < w.heap.size → k ∉ S → w'.heap[k]? = w.heap[k]?
theorem Ext.refl (S : List Nat) (w : World) : Ext S w w := ⟨rfl, rfl, rfl, Nat.le_refl _, fun _ _ _ => rfl⟩
theorem Ext.trans' {S S' S'' : List Nat} {a b c : World} (h : Ext S a b) (k : Ext S' b c) (hs : ∀ i ∈ S, i < a.heap.size → i ∈ S'') (hs' : ∀ i ∈ S', i < a.heap.size → i ∈ S'') : Ext S'' a c :=
  ⟨k.os.trans h.os, k.tape.trans h.tape, k.output.trans h.output, Nat.le_trans h.size k.size, fun i hi hn =>
    (k.block i (Nat.lt_of_lt_of_le hi h.size) (fun hm => hn (hs' i hm hi))).trans (h.block i hi (fun hm => hn (hs i hm hi)))⟩
theorem Ext.trans {S : List Nat} {a b c : World} (h : Ext S a b) (k : Ext S b c) : Ext S a c := h.trans' k (fun _ h _ => h) (fun _ h _ => h)
theorem Ext.t0 {S : List Nat} {a b c : World} (h : Ext S a b) (k : Ext [] b c) : Ext S a c := h.trans' k (fun _ h _ => h) (fun _ h _ => by cases h)
theorem Ext.t1 {S : List Nat} {a b c : World} (h : Ext [] a b) (k : Ext S b c) : Ext S a c := h.trans' k (fun _ h _ => by cases h) (fun _ h _ => h)
/-- What is written is new, or one of S. -/
theorem Ext.tn {S S' : List Nat} {a b c : World} (h : Ext S a b) (k : Ext S' b c) (hn : ∀ i ∈ S', a.heap.size ≤ i ∨ i ∈ S) : Ext S a c :=
  h.trans' k (fun _ h _ => h) (fun i hi hl => (hn i hi).elim (fun h => absurd hl (by omega)) id)
theorem Ext.mono {S S' : List Nat} {a b : World} (h : Ext S a b) (hs : ∀ i ∈ S, i < a.heap.size → i ∈ S') : Ext S' a b :=
  ⟨h.os, h.tape, h.output, h.size, fun i hi hn => h.block i hi (fun hm => hn (hs i hm hi))⟩
theorem Ext.alloc {S : List Nat} (w : World) (o : Obj) : Ext S w (w.alloc o) :=
  ⟨rfl, rfl, rfl, by simp, fun k hk _ => by show (w.heap.push o)[k]? = _; rw [Array.getElem?_push, if_neg (by omega)]⟩
theorem Ext.drew {S : List Nat} (w : World) : Ext S w w.drew := ⟨rfl, rfl, rfl, Nat.le_refl _, fun _ _ _ => rfl⟩
theorem Ext.of_heap {S : List Nat} {w w' : World} (h1 : w'.os = w.os) (h2 : w'.tape = w.tape) (h3 : w'.output = w.output) (h : w'.heap = w.heap) : Ext S w w' :=
  ⟨h1, h2, h3, by rw [h]; exact Nat.le_refl _, fun k _ _ => by rw [h]⟩
theorem Ext.cell {S : List Nat} {w w' : World} (h : Ext S w w') {a : Addr} {v : Value} (hc : w.cell? a = some v) (hn : a.block ∉ S) : w'.cell? a = some v :=
  (World.cell?_of_block (h.block _ (World.block_lt_of_cell? w a hc) hn)).trans hc
theorem Ext.blk {S : List Nat} {w w' : World} (h : Ext S w w') {g : Nat} {o : Obj} (hc : w.heap[g]? = some o) (hn : g ∉ S) : w'.heap[g]? = some o :=
  (h.block g (Array.getElem?_eq_some_iff.1 hc).1 hn).trans hc
theorem lt_of_blk {w : World} {g : Nat} {o : Obj} (hc : w.heap[g]? = some o) : g < w.heap.size := (Array.getElem?_eq_some_iff.1 hc).1
theorem Ext.setCell (w : World) (a : Addr) (v : Value) : Ext [a.block] w (w.setCell a v) :=
  ⟨rfl, rfl, rfl, by simp, fun k hk hn => by
    show (w.heap.modify a.block _)[k]? = _
    rw [Array.getElem?_modify, if_neg (fun h => hn (by simp [h]))]⟩
theorem Ext.below {w w' : World} (h : Ext [] w w') : RowKit.Below w.heap.size w w' := ⟨h.os, h.tape, h.output, h.size, fun k hk => h.block k hk (by simp)⟩
theorem Ext.of_below {w w' : World} (h : RowKit.Below w.heap.size w w') : Ext [] w w' := ⟨h.os, h.tape, h.output, h.size, fun k hk _ => h.block k hk⟩

/-! ### Elements of a slice -/
structure En (α : Type) where
  k : Nat
  val : α → Value
  len : ∀ x, (val x).cells.size = k
  one : ∀ x, ∀ u ∈ (val x).cells.toList, u.oneCell' = true
  pos : 0 < k
variable {α : Type} {E : En α}
def cl (E : En α) (xs : List α) : List Value := xs.flatMap fun x => (E.val x).cells.toList
theorem cl_nil : cl E [] = [] := rfl
theorem cl_cons (x : α) (xs : List α) : cl E (x :: xs) = (E.val x).cells.toList ++ cl E xs := by simp [cl]
theorem cl_append (xs ys : List α) : cl E (xs ++ ys) = cl E xs ++ cl E ys := by simp [cl]
theorem cl_length : ∀ xs : List α, (cl E xs).length = xs.length * E.k
  | [] => by simp [cl]
  | x :: xs => by rw [cl_cons, List.length_append, cl_length xs, Array.length_toList, E.len, List.length_cons, Nat.add_mul]; omega
theorem cl_one : ∀ (xs : List α), ∀ u ∈ cl E xs, u.oneCell' = true := fun xs u hu => by
  obtain ⟨x, _, hx⟩ := List.mem_flatMap.1 hu
  exact E.one x u hx
theorem cl_get : ∀ (xs : List α) (i : Nat) (h : i < xs.length) (j : Nat), j < E.k → (cl E xs)[i * E.k + j]? = (E.val xs[i]).cells[j]?
  | x :: xs, 0, _, j, hj => by
    rw [cl_cons, List.getElem?_append_left (by rw [Array.length_toList, E.len]; omega)]
    simp
  | x :: xs, i + 1, h, j, hj => by
    rw [cl_cons, List.getElem?_append_right (by rw [Array.length_toList, E.len, Nat.add_mul]; omega), Array.length_toList, E.len]
    have : (i + 1) * E.k + j - E.k = i * E.k + j := by rw [Nat.add_mul]; omega
    rw [this, cl_get xs i (by simpa using h) j hj]
    simp

/-- These cells lie there. -/
def At (w : World) (g off : Nat) (cs : List Value) : Prop := ∀ j u, cs[j]? = some u → w.cell? ⟨g, off + j, none⟩ = some u
theorem At.ext {S : List Nat} {w w' : World} {g off : Nat} {cs : List Value} (h : At w g off cs) (he : Ext S w w') (hn : g ∉ S) : At w' g off cs :=
  fun j u hj => he.cell (h j u hj) hn
theorem At.lt {w : World} {g off : Nat} {cs : List Value} (h : At w g off cs) (hne : cs ≠ []) : g < w.heap.size := by
  match cs, hne with
  | c :: cs, _ => exact World.block_lt_of_cell? w _ (h 0 c rfl)
theorem At.sub {w : World} {g off : Nat} {cs : List Value} (h : At w g off cs) (d m : Nat) : At w g (off + d) ((cs.drop d).take m) := fun j u hj => by
  rw [List.getElem?_take] at hj
  split at hj
  · rw [List.getElem?_drop] at hj
    have := h (d + j) u hj
    rwa [← Nat.add_assoc] at this
  · cases hj
theorem At.elem {w : World} {g off : Nat} {xs : List α} (h : At w g off (cl E xs)) (i : Nat) (hi : i < xs.length) : At w g (off + i * E.k) (E.val xs[i]).cells.toList := fun j u hj => by
  have hj' : j < E.k := by
    have := (List.getElem?_eq_some_iff.1 hj).1
    rwa [Array.length_toList, E.len] at this
  have := h (i * E.k + j) u (by rw [cl_get xs i hi j hj']; simpa using hj)
  rwa [← Nat.add_assoc] at this
theorem At.of_cells {w : World} {g off : Nat} {cur : Array Value} {T : TypeId} {fr : Nat × Nat} {cs : List Value} (hg : w.heap[g]? = some (.cells cur T fr)) (h : ∀ j u, cs[j]? = some u → cur[off + j]? = some u) : At w g off cs :=
  fun j u hj => by simp [World.cell?, hg, h j u hj]
theorem At.append {w : World} {g off : Nat} {cs ds : List Value} (h : At w g off cs) (h' : At w g (off + cs.length) ds) : At w g off (cs ++ ds) := fun j u hj => by
  rcases Nat.lt_or_ge j cs.length with hl | hl
  · exact h j u (by rwa [List.getElem?_append_left hl] at hj)
  · have := h' (j - cs.length) u (by rwa [List.getElem?_append_right hl] at hj)
    rwa [Nat.add_assoc, Nat.add_sub_cancel' hl] at this

/-- A slice that reads as a list. -/
def Sl (E : En α) (w : World) (v : Value) (xs : List α) : Prop :=
  ∃ p c, v = .slice p xs.length c ∧ xs.length ≤ c ∧ c ≤ maxLen ∧ (xs = [] ∨ ∃ g off, p = some ⟨g, off, none⟩ ∧ At w g off (cl E xs))
theorem Sl.form {w : World} {v : Value} {xs : List α} (h : Sl E w v xs) : ∃ p c, v = .slice p xs.length c := let ⟨p, c, h, _⟩ := h; ⟨p, c, h⟩
theorem Sl.le {w : World} {v : Value} {xs : List α} (h : Sl E w v xs) : xs.length ≤ 9223372036854775807 := by
  obtain ⟨p, c, _, h1, h2, _⟩ := h
  unfold maxLen at h2
  omega
theorem Sl.nil (w : World) : Sl E w (.slice none 0 0) [] := ⟨none, 0, rfl, Nat.le_refl _, Nat.zero_le _, .inl rfl⟩
theorem Sl.ext {S : List Nat} {w w' : World} {v : Value} {xs : List α} (h : Sl E w v xs) (he : Ext S w w') (hn : ∀ g ∈ S, v.ownBlock ≠ some g) : Sl E w' v xs := by
  obtain ⟨p, c, rfl, h1, h2, h3⟩ := h
  refine ⟨p, c, rfl, h1, h2, h3.imp id ?_⟩
  rintro ⟨g, off, rfl, h4⟩
  exact ⟨g, off, rfl, h4.ext he (fun hm => hn g hm rfl)⟩
theorem Sl.e0 {w w' : World} {v : Value} {xs : List α} (h : Sl E w v xs) (he : Ext [] w w') : Sl E w' v xs := h.ext he (fun _ hg => by cases hg)
theorem Sl.lt {w : World} {v : Value} {xs : List α} (h : Sl E w v xs) {g : Nat} (hg : v.ownBlock = some g) (hne : xs ≠ []) : g < w.heap.size := by
  obtain ⟨p, c, rfl, h1, h2, h3⟩ := h
  rcases h3 with h3 | ⟨g', off, rfl, h4⟩
  · exact absurd h3 hne
  · simp only [Value.ownBlock, Option.some.injEq] at hg
    subst hg
    refine h4.lt ?_
    intro h0
    have := cl_length (E := E) xs
    rw [h0] at this
    have h5 := E.pos
    match xs, hne with
    | x :: xs, _ =>
      simp only [List.length_nil, List.length_cons] at this
      have : 0 < (xs.length + 1) * E.k := Nat.mul_pos (by omega) h5
      omega

/-- A slice of one's own: its array is written by nobody else. -/
def Own (E : En α) (w : World) (base : Nat) (T : TypeId) (v : Value) (xs : List α) : Prop :=
  (v = .slice none 0 0 ∧ xs = []) ∨
  ∃ g off c cur, v = .slice (some ⟨g, off, none⟩) xs.length c ∧ base ≤ g ∧ w.heap[g]? = some (.cells cur T (0, 0)) ∧ xs.length ≤ c ∧ c ≤ maxLen ∧ off + c * E.k ≤ cur.size ∧ At w g off (cl E xs)
theorem Own.nil (w : World) (base : Nat) (T : TypeId) : Own E w base T (.slice none 0 0) [] := .inl ⟨rfl, rfl⟩
theorem Own.sl {w : World} {base : Nat} {T : TypeId} {v : Value} {xs : List α} (h : Own E w base T v xs) : Sl E w v xs := by
  rcases h with ⟨rfl, rfl⟩ | ⟨g, off, c, cur, rfl, _, _, h1, h2, _, h3⟩
  · exact Sl.nil w
  · exact ⟨_, c, rfl, h1, h2, .inr ⟨g, off, rfl, h3⟩⟩
theorem Own.base {w : World} {base : Nat} {T : TypeId} {v : Value} {xs : List α} (h : Own E w base T v xs) {g : Nat} (hg : v.ownBlock = some g) : base ≤ g ∧ g < w.heap.size := by
  rcases h with ⟨rfl, rfl⟩ | ⟨g', off, c, cur, rfl, hb, hh, _⟩
  · cases hg
  · simp only [Value.ownBlock, Option.some.injEq] at hg
    subst hg
    exact ⟨hb, lt_of_blk hh⟩
theorem Own.ext {S : List Nat} {w w' : World} {base : Nat} {T : TypeId} {v : Value} {xs : List α} (h : Own E w base T v xs) (he : Ext S w w') (hn : ∀ g ∈ S, v.ownBlock ≠ some g) : Own E w' base T v xs := by
  rcases h with ⟨rfl, rfl⟩ | ⟨g, off, c, cur, rfl, hb, hh, h1, h2, h3, h4⟩
  · exact Own.nil ..
  · have : g ∉ S := fun hm => hn g hm rfl
    exact .inr ⟨g, off, c, cur, rfl, hb, he.blk hh this, h1, h2, h3, h4.ext he this⟩
theorem Own.e0 {w w' : World} {base : Nat} {T : TypeId} {v : Value} {xs : List α} (h : Own E w base T v xs) (he : Ext [] w w') : Own E w' base T v xs := h.ext he (fun _ hg => by cases hg)
theorem Own.rebase {w : World} {base base' : Nat} {T : TypeId} {v : Value} {xs : List α} (h : Own E w base T v xs) (hb : base' ≤ base) : Own E w base' T v xs := by
  rcases h with ⟨rfl, rfl⟩ | ⟨g, off, c, cur, rfl, h0, hh, h1, h2, h3, h4⟩
  · exact Own.nil ..
  · exact .inr ⟨g, off, c, cur, rfl, Nat.le_trans hb h0, hh, h1, h2, h3, h4⟩
/-- A new array. -/
theorem Own.fresh (w : World) (base : Nat) (T : TypeId) (xs : List α) (cs : Array Value) (c : Nat) (hb : base ≤ w.heap.size) (hc : c ≤ maxLen) (hl : xs.length ≤ c) (hs : c * E.k ≤ cs.size) (hcs : ∀ (j : Nat) (u : Value), (cl E xs)[j]? = some u → cs[j]? = some u) :
    Own E (w.alloc (.cells cs T)) base T (.slice (some ⟨w.heap.size, 0, none⟩) xs.length c) xs :=
  .inr ⟨w.heap.size, 0, c, cs, rfl, hb, heap_alloc_new w _, hl, hc, by omega, At.of_cells (heap_alloc_new w _) (fun j u hj => by simpa using hcs j u hj)⟩

/-! ### append -/
theorem Src.ofSl {w : World} {v : Value} {ys : List α} {tx e' : TypeId} (hk : P.underlying tx = some (.slice e')) (h : Sl E w v ys) : Src P E.k tx v ys.length (cl E ys) w := by
  obtain ⟨p, c, rfl, h1, h2, h3⟩ := h
  rcases h3 with rfl | ⟨g, off, rfl, h4⟩
  · cases p with
    | none => exact Src.ofNil w hk c
    | some a => exact Src.ofSlice w hk a 0 c [] (by simp) (fun j u h => by simp at h) (fun _ h => by cases h)
  · refine Src.ofSlice w hk ⟨g, off, none⟩ ys.length c _ (cl_length ys) (fun j u hj => ?_) (cl_one ys)
    have := h4 j u hj
    unfold Addr.add
    split
    · rename_i h0; subst h0; simpa using this
    · exact this
theorem heap_setCells (b : Nat) (T : TypeId) : ∀ (vs : List Value) (w : World) (o : Nat) (cur : Array Value), w.heap[b]? = some (.cells cur T (0, 0)) →
    ∃ cur', (w.setCells b o vs).heap[b]? = some (.cells cur' T (0, 0)) ∧ cur'.size = cur.size ∧ Ext [b] w (w.setCells b o vs) ∧
      (∀ j, (j < o ∨ o + vs.length ≤ j) → cur'[j]? = cur[j]?) ∧ (∀ j u, vs[j]? = some u → o + j < cur.size → cur'[o + j]? = some u) := by
  intro vs
  induction vs with
  | nil => intro w o cur h; exact ⟨cur, by simpa [World.setCells] using h, rfl, Ext.refl _ _, fun _ _ => rfl, fun j u hj => by simp at hj⟩
  | cons v vs ih =>
    intro w o cur h
    have h1 : (w.setCell ⟨b, o, none⟩ v).heap[b]? = some (.cells (cur.setIfInBounds o v) T (0, 0)) := by
      show (w.heap.modify b _)[b]? = _
      rw [Array.getElem?_modify, if_pos rfl, h]
      rfl
    obtain ⟨cur', h2, h3, h4, h5, h6⟩ := ih (w.setCell ⟨b, o, none⟩ v) (o + 1) _ h1
    refine ⟨cur', h2, by simpa using h3, (Ext.setCell w ⟨b, o, none⟩ v).trans h4, fun j hj => ?_, fun j u hj hlt => ?_⟩
    · rw [h5 j (by simp only [List.length_cons] at hj; omega), Array.getElem?_setIfInBounds_ne (by simp only [List.length_cons] at hj; omega)]
    · cases j with
      | zero =>
        simp at hj
        subst hj
        rw [Nat.add_zero, h5 o (.inl (by omega)), Array.getElem?_setIfInBounds_self_of_lt (by omega)]
      | succ j =>
        have := h6 j u (by simpa using hj) (by rw [Array.size_setIfInBounds]; omega)
        rwa [Nat.add_assoc, Nat.add_comm 1 j] at this
/-- What append asks of an element's type. -/
structure TI (P : Program) (T k bytes : Nat) : Prop where
  ex : ∃ i z, P.info? T = some i ∧ i.zero = some z ∧ i.size = k ∧ i.bytes = bytes ∧ z.cells.size = k
theorem TI.of {T k bytes : Nat} {z : Value} (h : (P.info? T).map (fun i => (i.zero, i.size, i.bytes)) = some (some z, k, bytes)) (hz : z.cells.size = k) : TI P T k bytes := by
  obtain ⟨i, hi, h1⟩ := Option.map_eq_some_iff.1 h
  simp only [Prod.mk.injEq] at h1
  exact ⟨i, z, hi, h1.1, h1.2.1, h1.2.2, hz⟩
def newBlk (w : World) (v v' : Value) : Prop := v'.ownBlock = v.ownBlock ∨ ∃ g, v'.ownBlock = some g ∧ w.heap.size ≤ g
theorem append_src {w : World} {base T bytes t tx ty m : Nat} {v x : Value} {xs ys : List α} {news : List Value} (ht : P.underlying t = some (.slice T)) (hti : TI P T E.k bytes)
    (ho : Own E w base T v xs) (hs : Src P E.k tx x m news w) (hm : m = ys.length) (hn : news = cl E ys) (hby : (xs.length + ys.length) * bytes ≤ 140737488355328) (hpos : 0 < bytes) (hb : base ≤ w.heap.size) :
    ∃ v' w', (Builtin.append_ #[t, tx] ty #[v, x]).run P w = .ok v' w' ∧ Own E w' base T v' (xs ++ ys) ∧ Ext v.ownBlock.toList w w' ∧ newBlk w v v' := by
  subst hm hn
  obtain ⟨i, z, hi, hz, hsz, hbt, hzc⟩ := hti.ex
  have hlen : xs.length + ys.length ≤ 140737488355328 := Nat.le_trans (Nat.le_mul_of_pos_right _ hpos) hby
  have hmx : ∀ q, q ≤ 140737488355328 → q ≤ maxLen := fun q hq => by unfold maxLen; omega
  subst hbt
  have hs' : Src P i.size tx x ys.length (cl E ys) w := by rw [hsz]; exact hs
  have grown : ∀ (old : Nat), old < xs.length + ys.length → ∀ S : List Nat,
      Own E (w.drew.alloc (.cells ((cl E xs ++ cl E ys).toArray ++ Builtin.zeroCells z.cells (grownCap w (xs.length + ys.length) old T - (xs.length + ys.length))) T)) base T
        (.slice (some ⟨w.heap.size, 0, none⟩) (xs.length + ys.length) (grownCap w (xs.length + ys.length) old T)) (xs ++ ys) ∧
      Ext S w (w.drew.alloc (.cells ((cl E xs ++ cl E ys).toArray ++ Builtin.zeroCells z.cells (grownCap w (xs.length + ys.length) old T - (xs.length + ys.length))) T)) := by
    intro old hold S
    have hge := grownCap_ge w (xs.length + ys.length) old T
    have hcm : grownCap w (xs.length + ys.length) old T ≤ maxLen := grownCap_le_maxLen w _ old T (hmx _ hlen)
    refine ⟨?_, (Ext.drew w).trans (Ext.alloc _ _)⟩
    rw [← List.length_append] at hge ⊢
    refine Own.fresh w.drew base T (xs ++ ys) _ _ hb (by simpa using hcm) (by simpa using hge) ?_ ?_
    · rw [Array.size_append, size_zeroCells, hzc, List.size_toArray, ← cl_append, cl_length, ← Nat.add_mul]
      simp only [List.length_append] at hge ⊢
      exact Nat.mul_le_mul_right _ (by omega)
    · intro j u hj
      have hjl := (List.getElem?_eq_some_iff.1 hj).1
      rw [Array.getElem?_append_left (by rw [List.size_toArray, ← cl_append]; exact hjl), ← cl_append]
      simpa using hj
  rcases ho with ⟨rfl, rfl⟩ | ⟨g, off, c, cur, rfl, hbg, hg, hnc, hcm, hcs, hat⟩
  · rcases Nat.eq_zero_or_pos ys.length with h0 | h0
    · have hy : ys = [] := List.eq_nil_of_length_eq_zero h0
      subst hy
      have hr := run_append_room_src (P := P) w t tx ty T i ht hi 0 0 0 0 x 0 [] hs' (by omega) (fun j hj => by simp at hj) (fun j hj => by simp at hj)
      refine ⟨.slice none 0 0, w, ?_, Own.nil .., Ext.refl _ _, .inl rfl⟩
      rcases hs'.kind with ⟨e', hk⟩ | hk <;> simp [Builtin.append_, run_underlying ht, run_underlying hk, sizeOf, typeInfo, hi, hs'.len, hs'.cells]
      all_goals (have hc := hs'.cells; simp at hc; simp [hc, cl])
    · have hr := run_append_grow_src (P := P) w t tx ty T i z ht hi hz none 0 0 [] (by simp [Builtin.firstCells]) x ys.length (cl E ys) hs' (by simp at *; omega) (by simp at *; omega)
        (by have := growslice_fits (need := 0 + ys.length) (bytes := i.bytes) (old := 0) (by omega) (by simpa using hby); simpa using this)
      have hgr := grown 0 (by simp; omega) (Value.ownBlock (.slice none 0 0)).toList
      simp only [List.length_nil, Nat.zero_add, List.nil_append, cl_nil] at hgr hr ⊢
      exact ⟨_, _, hr, hgr.1, hgr.2, .inr ⟨_, rfl, Nat.le_refl _⟩⟩
  · by_cases hroom : xs.length + ys.length ≤ c
    · have hk1 : off + xs.length * E.k + (cl E ys).length ≤ cur.size := by
        rw [cl_length, Nat.add_assoc, ← Nat.add_mul]
        exact Nat.le_trans (Nat.add_le_add_left (Nat.mul_le_mul_right _ hroom) _) hcs
      have hcell : ∀ j, j < (cl E ys).length → (w.cell? ⟨g, off + xs.length * i.size + j, none⟩).isSome = true := fun j hj => by
        simp [World.cell?, hg, hsz]
        omega
      have hfz : ∀ j, j < (cl E ys).length → w.frozen? ⟨g, off + xs.length * i.size + j, none⟩ = false := fun j hj => by simp [World.frozen?, hg]
      have hr := run_append_room_src (P := P) w t tx ty T i ht hi g off xs.length c x ys.length (cl E ys) hs' hroom hcell hfz
      obtain ⟨cur', h2, h3, h4, h5, h6⟩ := heap_setCells g T (cl E ys) w (off + xs.length * i.size) cur hg
      refine ⟨_, _, hr, .inr ⟨g, off, c, cur', by rw [List.length_append], hbg, h2, by rw [List.length_append]; exact hroom, hcm, by rw [h3]; exact hcs, ?_⟩, by simpa [Value.ownBlock] using h4, .inl rfl⟩
      rw [cl_append]
      rw [hsz] at h5 h6
      refine At.append (At.of_cells h2 fun j u hj => ?_) (At.of_cells h2 fun j u hj => ?_)
      · have hjl := (List.getElem?_eq_some_iff.1 hj).1
        rw [cl_length] at hjl
        rw [h5 _ (.inl (by omega))]
        have := hat j u hj
        simpa [World.cell?, hg] using this
      · have hjl := (List.getElem?_eq_some_iff.1 hj).1
        rw [cl_length]
        exact h6 j u hj (by omega)
    · have hold : (Builtin.firstCells i.size xs.length (.slice (some ⟨g, off, none⟩) xs.length c)).run P w.drew = .ok (cl E xs).toArray w.drew := by
        refine run_firstCells_some w.drew i.size xs.length ⟨g, off, none⟩ xs.length c (cl E xs) (by rw [hsz, cl_length]) (fun j u hj => ?_)
        have := hat j u hj
        unfold Addr.add
        split
        · rename_i h0; subst h0; simpa using this
        · simpa using this
      have hr := run_append_grow_src (P := P) w t tx ty T i z ht hi hz (some ⟨g, off, none⟩) xs.length c (cl E xs) hold x ys.length (cl E ys) hs' (by omega) (by omega) (growslice_fits (by omega) hby)
      have hgr := grown c (by omega) (Value.ownBlock (.slice (some ⟨g, off, none⟩) xs.length c)).toList
      exact ⟨_, _, hr, hgr.1, hgr.2, .inr ⟨_, rfl, Nat.le_refl _⟩⟩
end Go.Proofs.YtkhlmpkodjoioaaDoor
