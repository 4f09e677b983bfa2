/- What the operations on memory come to, as rules of the walk. -/
import Derived.Test.YtkhlmpkodjoioaaDoorHp
set_option linter.unusedVariables false
set_option linter.unusedSimpArgs false
namespace Go.Proofs.YtkhlmpkodjoioaaDoor
variable {P : Program} {α : Type} {E : En α} {w : World} {k : Value → World → Prop}

def ValW (P : Program) (s : Sem Value) (w : World) (k : Value → World → Prop) : Prop := ∃ v w', s.run P w = .ok v w' ∧ k v w'
def UnitW (P : Program) (s : Sem Unit) (w : World) (k : World → Prop) : Prop := ∃ w', s.run P w = .ok () w' ∧ k w'
/-- A call returns, and what it hands back meets 'k'. -/
def Spec (P : Program) (f : FuncId) (args : Array Value) (w : World) (k : Value → World → Prop) : Prop :=
  callable P f ∧ Calls P f args w (fun e w' => ∃ v, e = .returned v ∧ k v w')
theorem Spec.mono {f : FuncId} {args : Array Value} {w : World} {k k' : Value → World → Prop} (h : Spec P f args w k) (hk : ∀ v w', k v w' → k' v w') : Spec P f args w k' :=
  ⟨h.1, h.2.mono fun _ _ ⟨v, he, hv⟩ => ⟨v, he, hk _ _ hv⟩⟩
attribute [irreducible] ValW UnitW Spec
theorem ValW.of {s : Sem Value} {v : Value} {w' : World} (h : s.run P w = .ok v w') (hk : k v w') : ValW P s w k := by
  unfold ValW; exact ⟨v, w', h, hk⟩
theorem UnitW.of {s : Sem Unit} {w' : World} {k : World → Prop} (h : s.run P w = .ok () w') (hk : k w') : UnitW P s w k := by
  unfold UnitW; exact ⟨w', h, hk⟩
theorem Spec.use {f : FuncId} {args : Array Value} {k' : Value → World → Prop} (h : Spec P f args w k') (hk : ∀ v w', k' v w' → k v w') : Spec P f args w k := h.mono hk

theorem ValW.app {base T bytes t ty : Nat} {v x : Value} {xs ys : List α} (ht : P.underlying t = some (.slice T)) (hti : TI P T E.k bytes)
    (ho : Own E w base T v xs) (hx : Sl E w x ys) (hby : (xs.length + ys.length) * bytes ≤ 140737488355328) (hpos : 0 < bytes) (hb : base ≤ w.heap.size)
    (hk : ∀ v' w', Own E w' base T v' (xs ++ ys) → Ext v.ownBlock.toList w w' → newBlk w v v' → k v' w') : ValW P (Builtin.append_ #[t, t] ty #[v, x]) w k := by
  obtain ⟨v', w', hr, h1, h2, h3⟩ := append_src (P := P) (ty := ty) ht hti ho (Src.ofSl ht hx) rfl rfl hby hpos hb
  exact ValW.of hr (hk v' w' h1 h2 h3)

/-! ### literals -/
theorem fold_set (off : Nat) : ∀ (l : List Value) (s : Nat) (cs : Array Value), off + s + l.length ≤ cs.size →
    ((l.zipIdx s).foldl (fun (cs : Array Value) (p : Value × Nat) => cs.setIfInBounds (off + p.2) p.1) cs).size = cs.size ∧
    ∀ j : Nat, ((l.zipIdx s).foldl (fun (cs : Array Value) (p : Value × Nat) => cs.setIfInBounds (off + p.2) p.1) cs)[j]? = if off + s ≤ j ∧ j < off + s + l.length then l[j - (off + s)]? else cs[j]?
  | [], s, cs, h => by
    refine ⟨rfl, fun j => ?_⟩
    rw [if_neg (by simp)]
    rfl
  | v :: l, s, cs, h => by
    simp only [List.length_cons] at h
    obtain ⟨h1, h2⟩ := fold_set off l (s + 1) (cs.setIfInBounds (off + s) v) (by simp; omega)
    simp only [List.zipIdx_cons, List.foldl_cons]
    refine ⟨by rw [h1]; simp, fun j => ?_⟩
    rw [h2 j]
    by_cases hj : j = off + s
    · subst hj
      rw [if_neg (by omega), if_pos (by simp), Array.getElem?_setIfInBounds_self_of_lt (by omega)]
      simp
    · rw [Array.getElem?_setIfInBounds_ne (by omega)]
      by_cases hc : off + (s + 1) ≤ j ∧ j < off + (s + 1) + l.length
      · rw [if_pos hc, if_pos (by simp only [List.length_cons]; omega)]
        have : j - (off + s) = (j - (off + (s + 1))) + 1 := by omega
        rw [this]; simp
      · rw [if_neg hc, if_neg (by simp only [List.length_cons]; omega)]
def litp (E : En α) : Nat → List α → List (Nat × Value)
  | _, [] => []
  | i, x :: xs => (i, E.val x) :: litp E (i + 1) xs
theorem fill_lit : ∀ (xs : List α) (i : Nat) (cs : Array Value), (i + xs.length) * E.k ≤ cs.size →
    ∃ cs', Instr.fill (fun i => some (i * E.k, E.k)) cs (litp E i xs) = some cs' ∧ cs'.size = cs.size ∧ (∀ j, j < i * E.k → cs'[j]? = cs[j]?) ∧ ∀ (j : Nat) (u : Value), (cl E xs)[j]? = some u → cs'[i * E.k + j]? = some u
  | [], i, cs, h => ⟨cs, rfl, rfl, fun _ _ => rfl, fun j u hj => by simp [cl] at hj⟩
  | x :: xs, i, cs, h => by
    simp only [List.length_cons] at h
    have hsz := E.len x
    have hm : (i + 1) * E.k ≤ cs.size := Nat.le_trans (Nat.mul_le_mul_right _ (by omega)) h
    have hm' : i * E.k + E.k ≤ cs.size := by rwa [Nat.add_mul, Nat.one_mul] at hm
    obtain ⟨h1, h2⟩ := fold_set (i * E.k) (E.val x).cells.toList 0 cs (by rw [Array.length_toList, hsz]; omega)
    have hzip : (E.val x).cells.zipIdx.foldl (fun (cs : Array Value) (p : Value × Nat) => cs.setIfInBounds (i * E.k + p.2) p.1) cs = ((E.val x).cells.toList.zipIdx 0).foldl (fun (cs : Array Value) (p : Value × Nat) => cs.setIfInBounds (i * E.k + p.2) p.1) cs := by
      rw [← Array.foldl_toList]; simp
    rw [← hzip] at h1 h2
    have hlast : (i + 1 + xs.length) * E.k ≤ ((E.val x).cells.zipIdx.foldl (fun (cs : Array Value) (p : Value × Nat) => cs.setIfInBounds (i * E.k + p.2) p.1) cs).size := by
      rw [h1]
      have : i + 1 + xs.length = i + (xs.length + 1) := by omega
      rw [this]; exact h
    obtain ⟨cs', h3, h4, h5, h6⟩ := fill_lit xs (i + 1) _ hlast
    refine ⟨cs', ?_, h4.trans h1, fun j hj => ?_, fun j u hj => ?_⟩
    · simp only [litp, Instr.fill]
      rw [if_neg (by rw [hsz]; simp; omega)]
      exact h3
    · rw [h5 j (by rw [Nat.add_mul]; omega), h2 j, if_neg (by omega)]
    · rw [cl_cons] at hj
      rcases Nat.lt_or_ge j E.k with hl | hl
      · rw [List.getElem?_append_left (by rw [Array.length_toList, hsz]; exact hl)] at hj
        rw [h5 _ (by rw [Nat.add_mul]; omega), h2, if_pos (by rw [Array.length_toList, hsz]; omega)]
        have : i * E.k + j - (i * E.k + 0) = j := by omega
        rw [this]; exact hj
      · rw [List.getElem?_append_right (by rw [Array.length_toList, hsz]; exact hl), Array.length_toList, hsz] at hj
        have := h6 _ u hj
        have he : (i + 1) * E.k + (j - E.k) = i * E.k + j := by rw [Nat.add_mul]; omega
        rwa [he] at this
theorem ValW.lit {t T bytes n : Nat} {ps : Array (Nat × Value)} (xs : List α) (base : Nat) (hp : ps = (litp E 0 xs).toArray) (hn : n = xs.length) (ht : P.underlying t = some (.slice T)) (hti : TI P T E.k bytes)
    (hs : n * E.k ≤ 16777216) (hb : base ≤ w.heap.size) (hk : ∀ w', Own E w' base T (.slice (some ⟨w.heap.size, 0, none⟩) n n) xs → Ext [] w w' → w'.heap.size = w.heap.size + 1 → k (.slice (some ⟨w.heap.size, 0, none⟩) n n) w') :
    ValW P (Instr.buildSlice t n ps) w k := by
  subst hp hn
  obtain ⟨i, z, hi, hz, hsz, hbt, hzc⟩ := hti.ex
  have key : ∀ cs0 : Array Value, cs0.size = xs.length * E.k → ∃ cs', Instr.fill (fun i => some (i * E.k, E.k)) cs0 (litp E 0 xs) = some cs' ∧ cs'.size = xs.length * E.k ∧ ∀ (j : Nat) (u : Value), (cl E xs)[j]? = some u → cs'[j]? = some u := by
    intro cs0 h0
    obtain ⟨cs', h1, h2, _, h4⟩ := fill_lit (E := E) xs 0 cs0 (by rw [h0]; simp)
    exact ⟨cs', h1, h2.trans h0, fun j u hj => by simpa using h4 j u hj⟩
  have hk2 := E.pos
  have hm : xs.length ≤ maxLen := by
    have : xs.length ≤ xs.length * E.k := Nat.le_mul_of_pos_right _ hk2
    unfold maxLen; omega
  have fin : ∀ cs' : Array Value, cs'.size = xs.length * E.k → (∀ (j : Nat) (u : Value), (cl E xs)[j]? = some u → cs'[j]? = some u) → k (.slice (some ⟨w.heap.size, 0, none⟩) xs.length xs.length) (w.alloc (.cells cs' T)) := fun cs' h1 h2 =>
    hk _ (Own.fresh w base T xs cs' xs.length hb hm (Nat.le_refl _) (by omega) h2) (Ext.alloc _ _) (by simp)
  by_cases h0 : xs.length * E.k = 0
  · have hx : xs = [] := by
      rcases Nat.mul_eq_zero.1 h0 with h | h
      · exact List.eq_nil_of_length_eq_zero h
      · omega
    subst hx
    refine ValW.of (w' := w.alloc (.cells #[] T)) ?_ (fin #[] (by simp) (fun j u h => by simp [cl] at h))
    simp [Instr.buildSlice, run_underlying ht, sizeOf, typeInfo, hi, newRow, litp, Instr.fill]
    have h9 : (Array.map (fun (_ : Nat) => (default : Value)) (Array.range 0)) = #[] := Array.eq_empty_of_size_eq_zero (by simp)
    rw [h9]
  · obtain ⟨cs', h1, h2, h3⟩ := key ((Array.range (xs.length * E.k)).map fun x => z.cells[x % z.cells.size]!) (by simp)
    refine ValW.of (w' := w.alloc (.cells cs' T)) ?_ (fin cs' h2 h3)
    have hs' : ¬ (16777216 < xs.length * E.k) := by omega
    have hx : xs ≠ [] := fun h => h0 (by simp [h])
    have hk0 : E.k ≠ 0 := by omega
    simp [Instr.buildSlice, run_underlying ht, sizeOf, typeInfo, zeroValue, hi, hz, hsz, hx, hk0, hs', newRow, h1]
    exact fun h => absurd h h0

/-! ### elements -/
theorem addr_add (g off d : Nat) : (⟨g, off, none⟩ : Addr).add d = ⟨g, off + d, none⟩ := by unfold Addr.add; split <;> simp_all
theorem ValW.idx {t T : Nat} {v : Value} {xs : List α} {i : Int} {ki : IntKind} {x : α} (h : Sl E w v xs) (ht : P.underlying t = some (.slice T)) (hsz : (P.info? T).map (·.size) = some E.k) (h0 : 0 ≤ i) (hx : xs[i.toNat]? = some x)
    (hk : ∀ g off, At w g off (E.val x).cells.toList → k (.pointer (some ⟨g, off, none⟩)) w) : ValW P (Instr.indexAt t v (.int ki i)) w k := by
  obtain ⟨p, c, rfl, h1, h2, h3⟩ := h
  obtain ⟨hlt, hxe⟩ := List.getElem?_eq_some_iff.1 hx
  have hi : i < (xs.length : Int) := by omega
  rcases h3 with rfl | ⟨g, off, rfl, h4⟩
  · simp at hlt
  · obtain ⟨inf, hinf, hs2⟩ := Option.map_eq_some_iff.1 hsz
    have hat := h4.elem i.toNat hlt
    rw [hxe] at hat
    refine ValW.of (v := .pointer (some ⟨g, off + i.toNat * E.k, none⟩)) (w' := w) ?_ (hk g _ hat)
    simp [Instr.indexAt, asIntOf, run_underlying ht, h0, hi, sizeOf, typeInfo, hinf, hs2, addr_add]
def nag (P : Program) (T : TypeId) : Prop := ∃ d, P.underlying T = some d ∧ (match d with | .struct _ | .array _ _ => False | _ => True)
theorem run_isAgg_nag {T : TypeId} (h : nag P T) (w : World) : (isAgg T).run P w = .ok false w := by
  obtain ⟨d, hd, hm⟩ := h
  cases d <;> simp_all [isAgg, run_underlying hd]
theorem ValW.ld1 {T g off : Nat} {v : Value} {cs : List Value} (h : At w g off (v :: cs)) (hn : nag P T) (hk : k v w) : ValW P (Instr.loadAt T (.pointer (some ⟨g, off, none⟩))) w k := by
  have h0 := h 0 v rfl
  simp only [Nat.add_zero] at h0
  refine ValW.of (w' := w) ?_ hk
  simp [Instr.loadAt, Instr.sureAddr, loadVar, run_isAgg_nag hn, h0]
theorem ValW.ldS {T g off n : Nat} {fs : Array Field} {cs : List Value} (h : At w g off cs) (hu : P.underlying T = some (.struct fs)) (hsz : (P.info? T).map (·.size) = some n) (hn : n ≤ cs.length) (hk : k (.agg (cs.take n).toArray) w) :
    ValW P (Instr.loadAt T (.pointer (some ⟨g, off, none⟩))) w k := by
  obtain ⟨inf, hinf, hs2⟩ := Option.map_eq_some_iff.1 hsz
  refine ValW.of (w' := w) ?_ hk
  have hl := run_loadCells (P := P) (w := w) ⟨g, off, none⟩ n (fun j => cs.getD j undef) (fun j hj => by
    have := h j (cs.getD j undef) (by rw [List.getD_eq_getElem?_getD, List.getElem?_eq_getElem (by omega)]; rfl)
    rw [addr_add]; exact this)
  simp [Instr.loadAt, Instr.sureAddr, loadVar, isAgg, run_underlying hu, sizeOf, typeInfo, hinf, hs2, hl]
  apply List.ext_getElem
  · simp; omega
  · intro i h1 h2
    simp at h1 h2 ⊢
    rw [List.getElem?_eq_getElem (by omega)]; rfl
end Go.Proofs.YtkhlmpkodjoioaaDoor
