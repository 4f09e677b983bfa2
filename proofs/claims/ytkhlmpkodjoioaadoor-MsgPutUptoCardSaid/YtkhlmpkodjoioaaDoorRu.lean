/- The judgements of the walk: what goes on ('K'), the slots, the memory that is known ('Mem'), and the rules for code. -/
import Derived.Test.YtkhlmpkodjoioaaDoorOp
import Derived.Deep.Quiet
set_option linter.unusedVariables false
set_option linter.unusedSimpArgs false
namespace Go.Proofs.YtkhlmpkodjoioaaDoor
variable {P : Program} {n : Nat} {e : Env} {a : Act}

/-! ### Facts on types, found by their numbers -/
class Und (P : Program) (t : TypeId) (d : outParam TypeDesc) : Prop where out : P.underlying t = some d
class Sz (P : Program) (t : TypeId) (s : outParam Nat) : Prop where out : (P.info? t).map (·.size) = some s
def faf (P : Program) (t f : Nat) : Option (Nat × Option Nat) := match P.underlying t with
  | some (.struct fs) => (fs[f]?).map fun fld => (fld.offset, (P.info? fld.type).map (·.size))
  | _ => none
class Fa (P : Program) (t : TypeId) (f : Nat) (off : outParam Nat) : Prop where out : ∃ k, faf P t f = some (off, some (k + 1))
theorem Fa.get {P : Program} {t f off : Nat} (h : Fa P t f off) : ∃ fs fld k, P.underlying t = some (.struct fs) ∧ fs[f]? = some fld ∧ fld.offset = off ∧ (P.info? fld.type).map (·.size) = some (k + 1) := by
  obtain ⟨k, h⟩ := h.out
  unfold faf at h
  split at h
  · rename_i fs hu
    obtain ⟨fld, hf, he⟩ := Option.map_eq_some_iff.1 h
    simp only [Prod.mk.injEq] at he
    exact ⟨fs, fld, k, hu, hf, he.1, he.2⟩
  · cases h
class Nag (P : Program) (t : TypeId) : Prop where out : nag P t
class Zr (P : Program) (t : TypeId) (z : outParam Value) : Prop where out : (P.info? t).map (·.zero) = some (some z)
class El (P : Program) (t : TypeId) (k bytes : outParam Nat) : Prop where out : TI P t k bytes

theorem wrap_eq {x : Int} (h0 : -9223372036854775808 ≤ x) (h1 : x ≤ 9223372036854775807) : IntKind.i64.wrap x = x := by
  have h2 : IntKind.i64.wrap x = if 9223372036854775808 ≤ x % 18446744073709551616 then x % 18446744073709551616 - 18446744073709551616 else x % 18446744073709551616 := by
    simp [IntKind.wrap, IntKind.bits, IntKind.signed]
  rw [h2]
  split <;> omega
/-! ### What is known of memory: blocks of one's own, each told once -/
structure Hc where
  blk : Option Nat
  p : World → Prop
  loc : ∀ w w' : World, (∀ g, blk = some g → w'.heap[g]? = w.heap[g]?) → p w → p w'
  lt : ∀ w g, p w → blk = some g → g < w.heap.size
  rd : Bool
def bx (g : Nat) (o : Obj) : Hc := ⟨some g, fun w => w.heap[g]? = some o, fun w w' h hp => (h g rfl).trans hp, fun w g' hp hg => by cases hg; exact lt_of_blk hp, false⟩
def ow {α : Type} (E : En α) (T : TypeId) (v : Value) (xs : List α) : Hc :=
  ⟨v.ownBlock, fun w => Own E w 0 T v xs, fun w w' h hp => by
    rcases hp with ⟨rfl, rfl⟩ | ⟨g, off, c, cur, rfl, hb, hh, h1, h2, h3, h4⟩
    · exact Own.nil ..
    · have hg := h g rfl
      exact .inr ⟨g, off, c, cur, rfl, hb, hg.trans hh, h1, h2, h3, fun j u hj => (World.cell?_of_block (w := w) (a := ⟨g, off + j, none⟩) hg).trans (h4 j u hj)⟩,
   fun w g hp hg => (hp.base hg).2, false⟩
structure Mem where
  S : List Nat
  w0 : World
  H : List Hc
structure Mok (M : Mem) (w : World) : Prop where
  ext : Ext M.S M.w0 w
  fact : ∀ (i : Nat) c, M.H[i]? = some c → c.p w
  own : ∀ (i : Nat) c, M.H[i]? = some c → c.rd = false → ∀ g, c.blk = some g → g ∈ M.S ∨ M.w0.heap.size ≤ g
  sep : ∀ (i j : Nat) c d, M.H[i]? = some c → M.H[j]? = some d → i ≠ j → ∀ g, c.blk = some g → d.blk ≠ some g
variable {S : List Nat} {w0 w w' : World} {H : List Hc} {M : Mem}
theorem Mok.start (w : World) : Mok ⟨[], w, []⟩ w := ⟨Ext.refl _ _, fun i c h => by simp at h, fun i c h => by simp at h, fun i j c d h => by simp at h⟩
theorem Mok.e0 (h : Mok M w) (he : Ext [] w w') : Mok M w' :=
  ⟨h.ext.t0 he, fun i c hc => c.loc w w' (fun g hg => he.block g (c.lt w g (h.fact i c hc) hg) (by simp)) (h.fact i c hc), h.own, h.sep⟩
theorem Mok.add {c : Hc} (h : Mok ⟨S, w0, H⟩ w) (he : Ext [] w w') (hp : c.p w') (hf : ∀ g, c.blk = some g → w.heap.size ≤ g) : Mok ⟨S, w0, c :: H⟩ w' := by
  have h' := h.e0 he
  refine ⟨h'.ext, fun i d hd => ?_, fun i d hd hr g hg => ?_, fun i j d d' hd hd' hne g hg hg' => ?_⟩
  · cases i with
    | zero => simp at hd; subst hd; exact hp
    | succ i => exact h'.fact i d (by simpa using hd)
  · cases i with
    | zero => simp at hd; subst hd; exact .inr (Nat.le_trans h.ext.size (hf g hg))
    | succ i => exact h'.own i d (by simpa using hd) hr g hg
  · cases i with
    | zero =>
      cases j with
      | zero => exact hne rfl
      | succ j =>
        simp at hd; subst hd
        have := d'.lt w g (h.fact j d' (by simpa using hd')) hg'
        have := hf g hg
        omega
    | succ i =>
      cases j with
      | zero =>
        simp at hd'; subst hd'
        have := d.lt w g (h.fact i d (by simpa using hd)) hg
        have := hf g hg'
        omega
      | succ j => exact h.sep i j d d' (by simpa using hd) (by simpa using hd') (by omega) g hg hg'
theorem Mok.new (h : Mok ⟨S, w0, H⟩ w) (o : Obj) : Mok ⟨S, w0, bx w.heap.size o :: H⟩ (w.alloc o) :=
  h.add (Ext.alloc w o) (heap_alloc_new w o) (fun g hg => by cases hg; exact Nat.le_refl _)
theorem Mok.upd {c c' : Hc} {i : Nat} {S' : List Nat} (h : Mok ⟨S, w0, H⟩ w) (hi : H[i]? = some c) (hr : c.rd = false) (he : Ext S' w w') (hS : ∀ g ∈ S', c.blk = some g) (hp : c'.p w')
    (hf : ∀ g, c'.blk = some g → c.blk = some g ∨ w.heap.size ≤ g) : Mok ⟨S, w0, H.set i c'⟩ w' := by
  have hil : i < H.length := (List.getElem?_eq_some_iff.1 hi).1
  have get : ∀ (j : Nat) d, (H.set i c')[j]? = some d → (j = i ∧ d = c') ∨ (j ≠ i ∧ H[j]? = some d) := fun j d hd => by
    by_cases hj : j = i
    · subst hj; rw [List.getElem?_set_self hil] at hd; cases hd; exact .inl ⟨rfl, rfl⟩
    · rw [List.getElem?_set_ne (Ne.symm hj)] at hd; exact .inr ⟨hj, hd⟩
  refine ⟨h.ext.tn he (fun g hg => (h.own i c hi hr g (hS g hg)).symm), fun j d hd => ?_, fun j d hd hrd g hg => ?_, fun j k d d' hd hd' hne g hg hg' => ?_⟩
  · rcases get j d hd with ⟨rfl, rfl⟩ | ⟨hj, hd⟩
    · exact hp
    · exact d.loc w w' (fun g hg => he.block g (d.lt w g (h.fact j d hd) hg) (fun hm => h.sep j i d c hd hi hj g hg (hS g hm))) (h.fact j d hd)
  · rcases get j d hd with ⟨rfl, rfl⟩ | ⟨hj, hd⟩
    · exact (hf g hg).elim (fun hc => h.own j c hi hr g hc) (fun hc => .inr (Nat.le_trans h.ext.size hc))
    · exact h.own j d hd hrd g hg
  · rcases get j d hd with ⟨hj, hjd⟩ | ⟨hj, hd2⟩
    · rcases get k d' hd' with ⟨hk, hkd⟩ | ⟨hk, hd2'⟩
      · exact hne (hj.trans hk.symm)
      · rcases hf g (hjd ▸ hg) with hc | hc
        · exact h.sep i k c d' hi hd2' (hj ▸ hne) g hc hg'
        · have := d'.lt w g (h.fact k d' hd2') hg'; omega
    · rcases get k d' hd' with ⟨hk, hkd⟩ | ⟨hk, hd2'⟩
      · rcases hf g (hkd ▸ hg') with hc | hc
        · exact h.sep j i d c hd2 hi hj g hg hc
        · have := d.lt w g (h.fact j d hd2) hg; omega
      · exact h.sep j k d d' hd2 hd2' hne g hg hg'
theorem Mok.sub {H' : List Hc} (h : Mok ⟨S, w0, H⟩ w) (hs : H'.Sublist H) : Mok ⟨S, w0, H'⟩ w := by
  obtain ⟨f, hf, hmono⟩ : ∃ f : Nat → Nat, (∀ (i : Nat) c, H'[i]? = some c → H[f i]? = some c) ∧ ∀ i j, i ≠ j → f i ≠ f j := by
    clear h
    induction hs with
    | slnil => exact ⟨id, fun i c h => h, fun i j h => h⟩
    | cons x _ ih =>
      obtain ⟨f, h1, h2⟩ := ih
      exact ⟨fun i => f i + 1, fun i c h => by simpa using h1 i c h, fun i j h h' => h2 i j h (by simpa using h')⟩
    | cons_cons x _ ih =>
      obtain ⟨f, h1, h2⟩ := ih
      refine ⟨fun i => if i = 0 then 0 else f (i - 1) + 1, fun i c h => ?_, fun i j h h' => ?_⟩
      · cases i with
        | zero => exact h
        | succ i => simpa using h1 i c (by simpa using h)
      · by_cases hi : i = 0 <;> by_cases hj : j = 0 <;> simp only [hi, hj, if_true, if_false] at h'
        · omega
        · omega
        · omega
        · exact h2 (i - 1) (j - 1) (by omega) (by omega)
  exact ⟨h.ext, fun i c hc => h.fact _ c (hf i c hc), fun i c hc => h.own _ c (hf i c hc), fun i j c d hc hd hne => h.sep _ _ c d (hf i c hc) (hf j d hd) (hmono i j hne)⟩

/-! ### Calls that are handed blocks of one's own: what they know, what stays -/
theorem Mok.iff : Mok ⟨S, w0, H⟩ w ↔ Ext S w0 w ∧ (∀ c ∈ H, c.p w) ∧ (∀ c ∈ H, c.rd = false → ∀ g, c.blk = some g → g ∈ S ∨ w0.heap.size ≤ g) ∧ H.Pairwise (fun c d => ∀ g, c.blk = some g → d.blk ≠ some g) := by
  constructor
  · intro h
    refine ⟨h.ext, fun c hc => ?_, fun c hc => ?_, List.pairwise_iff_getElem.2 fun i j hi hj hij => h.sep i j _ _ (List.getElem?_eq_getElem hi) (List.getElem?_eq_getElem hj) (by omega)⟩
    · obtain ⟨i, hi, rfl⟩ := List.mem_iff_getElem.1 hc; exact h.fact i _ (List.getElem?_eq_getElem hi)
    · obtain ⟨i, hi, rfl⟩ := List.mem_iff_getElem.1 hc; exact h.own i _ (List.getElem?_eq_getElem hi)
  · rintro ⟨h1, h2, h3, h4⟩
    rw [List.pairwise_iff_getElem] at h4
    refine ⟨h1, fun i c hc => h2 c (List.mem_of_getElem? hc), fun i c hc => h3 c (List.mem_of_getElem? hc), fun i j c d hc hd hne g hg hg' => ?_⟩
    obtain ⟨hi, rfl⟩ := List.getElem?_eq_some_iff.1 hc
    obtain ⟨hj, rfl⟩ := List.getElem?_eq_some_iff.1 hd
    rcases Nat.lt_or_ge i j with hij | hij
    · exact h4 i j hi hj hij g hg hg'
    · exact h4 j i hj hi (by omega) g hg' hg
theorem Mok.perm {H' : List Hc} (h : Mok ⟨S, w0, H⟩ w) (hp : H.Perm H') : Mok ⟨S, w0, H'⟩ w := by
  obtain ⟨h1, h2, h3, h4⟩ := Mok.iff.1 h
  exact Mok.iff.2 ⟨h1, fun c hc => h2 c (hp.mem_iff.2 hc), fun c hc => h3 c (hp.mem_iff.2 hc), (hp.pairwise_iff (fun {c d} hcd g hg hg' => hcd g hg' hg)).1 h4⟩
def blks : List Hc → List Nat
  | [] => []
  | c :: H => match c.rd, c.blk with
    | false, some g => g :: blks H
    | _, _ => blks H
theorem mem_blks {g : Nat} : ∀ {H : List Hc}, g ∈ blks H ↔ ∃ c ∈ H, c.rd = false ∧ c.blk = some g
  | [] => by simp [blks]
  | c :: H => by
    have ih := mem_blks (g := g) (H := H)
    simp only [List.mem_cons, exists_eq_or_imp]
    unfold blks
    split
    · rename_i g' h1 h2
      rw [List.mem_cons, ih]
      constructor
      · rintro (rfl | h)
        · exact .inl ⟨h1, h2⟩
        · exact .inr h
      · rintro (⟨_, h⟩ | h)
        · left; rw [h2] at h; cases h; rfl
        · exact .inr h
    · rename_i h1
      rw [ih]
      constructor
      · exact .inr
      · rintro (⟨h2, h3⟩ | h2)
        · exact absurd h3 (h1 g h2)
        · exact h2
theorem Mok.enter {Hc' Hd Hr : List Hc} (h : Mok ⟨S, w0, Hc' ++ Hr⟩ w) (hd : Hd.Sublist Hr) (hrd : ∀ c ∈ Hd, c.rd = true) : Mok ⟨blks Hc', w, Hc' ++ Hd⟩ w := by
  obtain ⟨h1, h2, h3, h4⟩ := Mok.iff.1 (h.sub (List.Sublist.append (List.Sublist.refl _) hd))
  refine Mok.iff.2 ⟨Ext.refl _ _, h2, fun c hc hr g hg => .inl ?_, h4⟩
  rcases List.mem_append.1 hc with hc | hc
  · exact mem_blks.2 ⟨c, hc, hr, hg⟩
  · rw [hrd c hc] at hr; cases hr
theorem Mok.leave {Hc' Hr H' : List Hc} (h : Mok ⟨S, w0, Hc' ++ Hr⟩ w) (k : Mok ⟨blks Hc', w, H'⟩ w') (hn : ∀ c ∈ H', c.rd = false) : Mok ⟨S, w0, H' ++ Hr⟩ w' := by
  obtain ⟨h1, h2, h3, h4⟩ := Mok.iff.1 h
  obtain ⟨k1, k2, k3, k4⟩ := Mok.iff.1 k
  rw [List.pairwise_append] at h4
  obtain ⟨-, h5, h6⟩ := h4
  have hr : ∀ d ∈ Hr, ∀ g, d.blk = some g → g < w.heap.size ∧ g ∉ blks Hc' := fun d hd g hg => by
    refine ⟨d.lt w g (h2 d (List.mem_append.2 (.inr hd))) hg, fun hm => ?_⟩
    obtain ⟨c, hc, -, hb⟩ := mem_blks.1 hm
    exact h6 c hc d hd g hb hg
  refine Mok.iff.2 ⟨h1.tn k1 (fun g hg => ?_), fun c hc => ?_, fun c hc hrd g hg => ?_, List.pairwise_append.2 ⟨k4, h5, fun c hc d hd g hg hg' => ?_⟩⟩
  · obtain ⟨c, hc, hr, hb⟩ := mem_blks.1 hg
    exact (h3 c (List.mem_append.2 (.inl hc)) hr g hb).symm
  · rcases List.mem_append.1 hc with hc | hc
    · exact k2 c hc
    · exact c.loc w w' (fun g hg => k1.block g (hr c hc g hg).1 (hr c hc g hg).2) (h2 c (List.mem_append.2 (.inr hc)))
  · rcases List.mem_append.1 hc with hc | hc
    · rcases k3 c hc hrd g hg with hm | hm
      · obtain ⟨c', hc', hr', hb⟩ := mem_blks.1 hm
        exact h3 c' (List.mem_append.2 (.inl hc')) hr' g hb
      · exact .inr (Nat.le_trans h1.size hm)
    · exact h3 c (List.mem_append.2 (.inr hc)) hrd g hg
  · rcases k3 c hc (hn c hc) g hg with hm | hm
    · exact (hr d hd g hg').2 hm
    · have := (hr d hd g hg').1; omega
/-- The library's one variable that is read: it holds a number. -/
def Zw (w : World) : Prop := ∃ m, w.cell? ⟨0, 0, none⟩ = some (.int .i64 m)
theorem Zw.lt (h : Zw w) : 0 < w.heap.size := by
  obtain ⟨m, h⟩ := h
  simp only [World.cell?] at h
  cases hb : w.heap[0]? with
  | none => rw [hb] at h; simp at h
  | some o => exact lt_of_blk hb
theorem Mok.zw (h : Mok M w) (hz : Zw M.w0) (h0 : 0 ∉ M.S) : Zw w := let ⟨m, hm⟩ := hz; ⟨m, h.ext.cell hm h0⟩
theorem Mok.no0 {Hc' Hr : List Hc} (h : Mok ⟨S, w0, Hc' ++ Hr⟩ w) (hz : Zw w0) (h0 : 0 ∉ S) : 0 ∉ blks Hc' := fun hm => by
  obtain ⟨c, hc, hr, hb⟩ := mem_blks.1 hm
  rcases (Mok.iff.1 h).2.2.1 c (List.mem_append.2 (.inl hc)) hr 0 hb with h1 | h1
  · exact h0 h1
  · have := hz.lt; omega
/-- What a function is handed. -/
structure Ent (Hc' Hd : List Hc) (w : World) : Prop where
  mok : Mok ⟨blks Hc', w, Hc' ++ Hd⟩ w
  zw : Zw w
  no0 : 0 ∉ blks Hc'

/-! ### What code asks -/
abbrev Post := Exit → Act → World → Prop
def WK (n : Nat) (K : Act → World → Prop) (e : Env) (M : Mem) (w : World) : Prop := Mok M w → ∀ a, Sat n e a → K a w
def cw (P : Program) (c : Code) (Q : Post) (a : Act) (w : World) : Prop := c.wp P Q a w
/-- one operation, its guard met; one operation; the rest of a region. -/
def wo (P : Program) (Q : Post) (o : Oper) (K : Act → World → Prop) (a : Act) (w : World) : Prop := o.wp P a w K Q
def w1 (P : Program) (ops : Array Oper) (Q : Post) (o : Oper) (K : Act → World → Prop) (a : Act) (w : World) : Prop :=
  if Region.wanted o (yielded ops a.tmps) then o.wp P a w K Q ∨ (o.asks P a w ∧ LetsOut Q) else K (a.put o.dst undef) w
def wl (P : Program) (ops : Array Oper) (Q : Post) (l : List Oper) : Act → World → Prop := wpList P ops Q l
/-- A region that draws its order: what is still to come up. -/
def wd (P : Program) (ops : Array Oper) (Q : Post) (M : Mem) (fuel : Nat) (ls : Array Bool) : Act → World → Prop := wpAnyH P .any ops Q (Mok M) fuel ls
def ds (P : Program) (ops : Array Oper) (Q : Post) (M : Mem) (fuel : Nat) (ls : Array Bool) : Act → World → Prop := fun a w => Mok M w ∧ wd P ops Q M fuel ls a w
/-- A region that draws its order, whose operations leave what is known as it is: walked once. -/
def QK (n : Nat) (K : Act → Prop) (e : Env) : Prop := ∀ a, Sat n e a → K a
def ql (P : Program) (ops : Array Oper) (M : Mem) (Q : Act → Prop) (l : List Oper) : Act → Prop := wpQuiet P ops (Mok M) Q l
def qe (Q : Post) (M : Mem) (a : Act) : Prop := ∀ w, Mok M w → Q .normal a w
/-- An operation yields, wherever that is known. -/
def Yd (P : Program) (n : Nat) (e : Env) (M : Mem) (o : Oper) (v : Value) : Prop := ∀ w, Mok M w → ∀ a, Sat n e a → (execOp a.eval o).run P w = .ok (.value v) w
def gs (ops : Array Oper) (j : Nat) : Option Tmp := (ops.toList[j]?).bind (·.dst)
abbrev WP (P : Program) (n : Nat) (c : Code) (Q : Post) (e : Env) (M : Mem) (w : World) : Prop := WK n (cw P c Q) e M w
abbrev PO (n : Nat) (Q : Post) (x : Exit) (e : Env) (M : Mem) (w : World) : Prop := WK n (Q x) e M w
theorem Sat.again (h : Sat n e a) {d : Nat} {v : Value} (hd : gt e d = some v) : Sat n ((d, v) :: e) a :=
  ⟨h.defers, h.size, fun i u hu => by
    simp only [gt_cons] at hu
    by_cases hi : i = d
    · subst hi; rw [if_pos rfl] at hu; cases hu; exact h.get _ _ hd
    · rw [if_neg hi] at hu; exact h.get i u hu⟩

variable {Q : Post} {K : Act → World → Prop}

theorem yielded_of {ops : Array Oper} (h : Sat n e a) {j d : Nat} (hj : gs ops j = some d) {v : Value} (hd : gt e d = some v) :
    yielded ops a.tmps j = match v with | .bool b => some b | _ => none := by
  unfold gs at hj
  have h1 : (ops[j]?).bind (·.dst) = some d := by rw [← hj]; simp
  unfold yielded
  rw [h1]
  simp only [Option.bind_some, h.get d v hd]
  cases v <;> rfl

/-! the walk's rules: r.. for code, p.. for what lies behind it -/
theorem rsr {id : Nat} {ops : Array Oper} {b : Code} (h : WK n (wl P ops (Exit.then (cw P b Q) Q) ops.toList) e M w) : WK n (cw P (.seq (.region id ops false) b) Q) e M w :=
  fun hM a ha => wp_seq (wp_region_list (h hM a ha))
theorem rsk {b : Code} (h : WK n (cw P b Q) e M w) : WK n (cw P (.seq .skip b) Q) e M w := fun hM a ha => wp_seq (wp_skip (h hM a ha))
theorem rsl {b : Code} {l : Nat} (h : WK n (cw P b Q) e M w) : WK n (cw P (.seq (.label l) b) Q) e M w := fun hM a ha => wp_seq (wp_label (h hM a ha))
theorem rs_ {x b : Code} (h : WK n (cw P x (Exit.then (cw P b Q) Q)) e M w) : WK n (cw P (.seq x b) Q) e M w := fun hM a ha => wp_seq (h hM a ha)
theorem rr {id : Nat} {ops : Array Oper} (h : WK n (wl P ops Q ops.toList) e M w) : WK n (cw P (.region id ops false) Q) e M w := fun hM a ha => wp_region_list (h hM a ha)
theorem rk (h : WK n (Q .normal) e M w) : WK n (cw P .skip Q) e M w := fun hM a ha => wp_skip (h hM a ha)
theorem rl {l : Nat} (h : WK n (Q .normal) e M w) : WK n (cw P (.label l) Q) e M w := fun hM a ha => wp_label (h hM a ha)
theorem re {i : Nat} (h : WK n (Q (.exit i)) e M w) : WK n (cw P (.exit i) Q) e M w := fun hM a ha => wp_exit (h hM a ha)
theorem rt (h : WK n (Q .ret) e M w) : WK n (cw P .ret Q) e M w := fun hM a ha => wp_ret (h hM a ha)
theorem rb {i : Nat} {c : Code} (h : WK n (cw P c (Exit.inBlock i Q)) e M w) : WK n (cw P (.block i c) Q) e M w := fun hM a ha => wp_block (h hM a ha)
theorem rcT {c : Operand} {x y : Code} (hc : ev e c = some (.bool true)) (h : WK n (cw P x Q) e M w) : WK n (cw P (.cond c x y) Q) e M w := fun hM a ha => wp_cond_true (ha.ev hc) (h hM a ha)
theorem rcF {c : Operand} {x y : Code} (hc : ev e c = some (.bool false)) (h : WK n (cw P y Q) e M w) : WK n (cw P (.cond c x y) Q) e M w := fun hM a ha => wp_cond_false (ha.ev hc) (h hM a ha)
theorem rc {c : Operand} {x y : Code} {t : Bool} (hc : ev e c = some (.bool t)) (hT : t = true → WK n (cw P x Q) e M w) (hF : t = false → WK n (cw P y Q) e M w) : WK n (cw P (.cond c x y) Q) e M w :=
  fun hM a ha => wp_cond_split (ha.ev hc) (fun h1 => hT h1 hM a ha) (fun h1 => hF h1 hM a ha)
theorem rcd {c : Operand} {x y : Code} {p : Prop} [Decidable p] (hc : ev e c = some (.bool (decide p))) (hT : p → WK n (cw P x Q) e M w) (hF : ¬ p → WK n (cw P y Q) e M w) : WK n (cw P (.cond c x y) Q) e M w :=
  rc hc (fun h => hT (of_decide_eq_true h)) (fun h => hF (of_decide_eq_false h))
theorem rcn {c : Operand} {x y : Code} {p : Prop} [Decidable p] (hc : ev e c = some (.bool (!decide p))) (hT : ¬ p → WK n (cw P x Q) e M w) (hF : p → WK n (cw P y Q) e M w) : WK n (cw P (.cond c x y) Q) e M w :=
  rc hc (fun h => hT (by simpa using h)) (fun h => hF (by simpa using h))
theorem pn {Q' : Post} (h : WK n K e M w) : WK n (Exit.then K Q' .normal) e M w := h
theorem pr (h : WK n (Q .ret) e M w) : WK n (Exit.then K Q .ret) e M w := h
theorem pe {i : Nat} (h : WK n (Q (.exit i)) e M w) : WK n (Exit.then K Q (.exit i)) e M w := h
theorem pbn {i : Nat} (h : WK n (Q .normal) e M w) : WK n (Exit.inBlock i Q .normal) e M w := h
theorem pbr {i : Nat} (h : WK n (Q .ret) e M w) : WK n (Exit.inBlock i Q .ret) e M w := h
theorem pbe {i : Nat} (h : WK n (Q .normal) e M w) : WK n (Exit.inBlock i Q (.exit i)) e M w := fun hM a ha => by
  show if i = i then Q .normal a w else Q (.exit i) a w
  rw [if_pos rfl]; exact h hM a ha
theorem pbx {i j : Nat} (hne : Nat.beq j i = false) (h : WK n (Q (.exit j)) e M w) : WK n (Exit.inBlock i Q (.exit j)) e M w := fun hM a ha => by
  show if j = i then Q .normal a w else Q (.exit j) a w
  rw [if_neg (fun hh => by subst hh; simp at hne)]; exact h hM a ha
/-! a slot that hangs on a condition -/
theorem xb {g : Nat} {b : Bool} (hg : gt e g = some (.bool b)) (hT : b = true → WK n K ((g, .bool true) :: e) M w) (hF : b = false → WK n K ((g, .bool false) :: e) M w) : WK n K e M w := fun hM a ha => by
  cases b with
  | true => exact hT rfl hM a (ha.again hg)
  | false => exact hF rfl hM a (ha.again hg)
theorem xd {g : Nat} {p : Prop} [Decidable p] (hg : gt e g = some (.bool (decide p))) (hT : p → WK n K ((g, .bool true) :: e) M w) (hF : ¬ p → WK n K ((g, .bool false) :: e) M w) : WK n K e M w :=
  xb hg (fun h => hT (of_decide_eq_true h)) (fun h => hF (of_decide_eq_false h))
theorem xn {g : Nat} {p : Prop} [Decidable p] (hg : gt e g = some (.bool (!decide p))) (hT : ¬ p → WK n K ((g, .bool true) :: e) M w) (hF : p → WK n K ((g, .bool false) :: e) M w) : WK n K e M w :=
  xb hg (fun h => hT (by simpa using h)) (fun h => hF (by simpa using h))
section
variable {ops : Array Oper} {l : List Oper} {d j g : Nat} {op : Op} {ty : TypeId} {ps : String} {af : Array Edge} {ds' : Option Tmp} {want : Bool} {v : Value}
theorem dk_of (hd : Nat.ble (d + 1) n = true) : dk n (some d) := Nat.le_of_ble_eq_true hd
theorem on (h : WK n (Q .normal) e M w) : WK n (wl P ops Q []) e M w := h
theorem lw {o : Oper} (h : WK n (w1 P ops Q o (wl P ops Q l)) e M w) : WK n (wl P ops Q (o :: l)) e M w := h
theorem wz (h : WK n (wo P Q ⟨ds', op, ty, ps, af, none⟩ K) e M w) : WK n (w1 P ops Q ⟨ds', op, ty, ps, af, none⟩ K) e M w := fun hM a ha => by
  unfold w1; rw [if_pos (by rfl)]; exact .inl (h hM a ha)
/-- A guard that is met; that isn't. -/
theorem wg (hj : gs ops j = some g) (hg : gt e g = some (.bool want)) (h : WK n (wo P Q ⟨ds', op, ty, ps, af, some (j, want)⟩ K) e M w) : WK n (w1 P ops Q ⟨ds', op, ty, ps, af, some (j, want)⟩ K) e M w := fun hM a ha => by
  unfold w1; rw [if_pos (by simp [Region.wanted, yielded_of ha hj hg])]; exact .inl (h hM a ha)
theorem wn {b : Bool} (hj : gs ops j = some g) (hg : gt e g = some (.bool b)) (hb : (b == want) = false) (hd : Nat.ble (d + 1) n = true) (h : WK n K ((d, undef) :: e) M w) : WK n (w1 P ops Q ⟨some d, op, ty, ps, af, some (j, want)⟩ K) e M w := fun hM a ha => by
  unfold w1; rw [if_neg (by simp [Region.wanted, yielded_of ha hj hg]; simpa using hb)]
  exact h hM _ (ha.put (o := some d) (dk_of hd) undef)
theorem wnn {b : Bool} (hj : gs ops j = some g) (hg : gt e g = some (.bool b)) (hb : (b == want) = false) (h : WK n K e M w) : WK n (w1 P ops Q ⟨none, op, ty, ps, af, some (j, want)⟩ K) e M w := fun hM a ha => by
  unfold w1; rw [if_neg (by simp [Region.wanted, yielded_of ha hj hg]; simpa using hb)]
  exact h hM _ ha
theorem wu {vs : Array Value} (hj : gs ops j = some g) (hg : gt e g = some (.tuple vs)) (hd : Nat.ble (d + 1) n = true) (h : WK n K ((d, undef) :: e) M w) : WK n (w1 P ops Q ⟨some d, op, ty, ps, af, some (j, want)⟩ K) e M w := fun hM a ha => by
  unfold w1; rw [if_neg (by simp [Region.wanted, yielded_of ha hj hg])]
  exact h hM _ (ha.put (o := some d) (dk_of hd) undef)
theorem l0 (h : WK n (wo P Q ⟨ds', op, ty, ps, af, none⟩ (wl P ops Q l)) e M w) : WK n (wl P ops Q (⟨ds', op, ty, ps, af, none⟩ :: l)) e M w := lw (wz h)
theorem lg (hj : gs ops j = some g) (hg : gt e g = some (.bool want)) (h : WK n (wo P Q ⟨ds', op, ty, ps, af, some (j, want)⟩ (wl P ops Q l)) e M w) : WK n (wl P ops Q (⟨ds', op, ty, ps, af, some (j, want)⟩ :: l)) e M w := lw (wg hj hg h)
theorem ln {b : Bool} (hj : gs ops j = some g) (hg : gt e g = some (.bool b)) (hb : (b == want) = false) (hd : Nat.ble (d + 1) n = true) (h : WK n (wl P ops Q l) ((d, undef) :: e) M w) : WK n (wl P ops Q (⟨some d, op, ty, ps, af, some (j, want)⟩ :: l)) e M w := lw (wn hj hg hb hd h)
theorem lnn {b : Bool} (hj : gs ops j = some g) (hg : gt e g = some (.bool b)) (hb : (b == want) = false) (h : WK n (wl P ops Q l) e M w) : WK n (wl P ops Q (⟨none, op, ty, ps, af, some (j, want)⟩ :: l)) e M w := lw (wnn hj hg hb h)
theorem lu {vs : Array Value} (hj : gs ops j = some g) (hg : gt e g = some (.tuple vs)) (hd : Nat.ble (d + 1) n = true) (h : WK n (wl P ops Q l) ((d, undef) :: e) M w) : WK n (wl P ops Q (⟨some d, op, ty, ps, af, some (j, want)⟩ :: l)) e M w := lw (wu hj hg hd h)
/-! a value that is yielded -/
theorem wy {gd : Option (Nat × Bool)} (hd : Nat.ble (d + 1) n = true) (hy : Yd P n e M ⟨some d, op, ty, ps, af, gd⟩ v) (h : WK n K ((d, v) :: e) M w) : WK n (wo P Q ⟨some d, op, ty, ps, af, gd⟩ K) e M w := fun hM a ha => by
  unfold wo Oper.wp; rw [hy w hM a ha]; exact h hM _ (ha.put (o := some d) (dk_of hd) v)
theorem wy_ {gd : Option (Nat × Bool)} (hy : Yd P n e M ⟨none, op, ty, ps, af, gd⟩ v) (h : WK n K e M w) : WK n (wo P Q ⟨none, op, ty, ps, af, gd⟩ K) e M w := fun hM a ha => by
  unfold wo Oper.wp; rw [hy w hM a ha]; exact h hM _ ha
theorem oy (hd : Nat.ble (d + 1) n = true) (hy : Yd P n e M ⟨some d, op, ty, ps, af, none⟩ v) (h : WK n (wl P ops Q l) ((d, v) :: e) M w) : WK n (wl P ops Q (⟨some d, op, ty, ps, af, none⟩ :: l)) e M w := l0 (wy hd hy h)
theorem oy_ (hy : Yd P n e M ⟨none, op, ty, ps, af, none⟩ v) (h : WK n (wl P ops Q l) e M w) : WK n (wl P ops Q (⟨none, op, ty, ps, af, none⟩ :: l)) e M w := l0 (wy_ hy h)
theorem oyg (hj : gs ops j = some g) (hg : gt e g = some (.bool want)) (hd : Nat.ble (d + 1) n = true) (hy : Yd P n e M ⟨some d, op, ty, ps, af, some (j, want)⟩ v) (h : WK n (wl P ops Q l) ((d, v) :: e) M w) : WK n (wl P ops Q (⟨some d, op, ty, ps, af, some (j, want)⟩ :: l)) e M w := lg hj hg (wy hd hy h)

/-! ### Regions that draw their order, walked once -/
theorem rq {id : Nat} (hm : P.follows .mixedOrders = true) (hB : Region.lexB .any ops = true) (h : QK n (ql P ops M (qe Q M) ops.toList) e) : WK n (cw P (.region id ops true) Q) e M w :=
  fun hM a ha => wp_region_quiet (C := Mok M) hm hB (hM.e0 (Ext.drew w)) (h a ha)
theorem rsq {id : Nat} {b : Code} (hm : P.follows .mixedOrders = true) (hB : Region.lexB .any ops = true) (h : QK n (ql P ops M (qe (Exit.then (cw P b Q) Q) M) ops.toList) e) : WK n (cw P (.seq (.region id ops true) b) Q) e M w :=
  rs_ (rq hm hB h)
variable {Q0 : Act → Prop} {J : Act → Prop}
theorem qend (h : ∀ w, WK n (Q .normal) e M w) : QK n (ql P ops M (qe Q M) []) e := fun a ha => wpQuiet_nil (fun w hM => h w hM a ha)
theorem qnext {o : Oper} (h : ∀ a, Sat n e a → if Region.wanted o (yielded ops a.tmps) then o.quiet P a (Mok M) (ql P ops M Q0 l) else ql P ops M Q0 l (a.put o.dst undef)) : QK n (ql P ops M Q0 (o :: l)) e := fun a ha => h a ha
theorem quiet_of (hd : Nat.ble (d + 1) n = true) {gd : Option (Nat × Bool)} (hy : Yd P n e M ⟨some d, op, ty, ps, af, gd⟩ v) (h : QK n J ((d, v) :: e)) (ha : Sat n e a) : (⟨some d, op, ty, ps, af, gd⟩ : Oper).quiet P a (Mok M) J :=
  ⟨v, fun w hM => by unfold Oper.quietAt; rw [hy w hM a ha]; exact ⟨rfl, rfl⟩, h _ (ha.put (o := some d) (dk_of hd) v)⟩
theorem qy (hd : Nat.ble (d + 1) n = true) (hy : Yd P n e M ⟨some d, op, ty, ps, af, none⟩ v) (h : QK n (ql P ops M Q0 l) ((d, v) :: e)) : QK n (ql P ops M Q0 (⟨some d, op, ty, ps, af, none⟩ :: l)) e := qnext fun a ha => by
  rw [if_pos (by rfl)]; exact quiet_of hd hy h ha
theorem qyg (hj : gs ops j = some g) (hg : gt e g = some (.bool want)) (hd : Nat.ble (d + 1) n = true) (hy : Yd P n e M ⟨some d, op, ty, ps, af, some (j, want)⟩ v) (h : QK n (ql P ops M Q0 l) ((d, v) :: e)) : QK n (ql P ops M Q0 (⟨some d, op, ty, ps, af, some (j, want)⟩ :: l)) e := qnext fun a ha => by
  rw [if_pos (by simp [Region.wanted, yielded_of ha hj hg])]; exact quiet_of hd hy h ha
theorem qn {b : Bool} (hj : gs ops j = some g) (hg : gt e g = some (.bool b)) (hb : (b == want) = false) (hd : Nat.ble (d + 1) n = true) (h : QK n (ql P ops M Q0 l) ((d, undef) :: e)) : QK n (ql P ops M Q0 (⟨some d, op, ty, ps, af, some (j, want)⟩ :: l)) e := qnext fun a ha => by
  rw [if_neg (by simp [Region.wanted, yielded_of ha hj hg]; simpa using hb)]; exact h _ (ha.put (o := some d) (dk_of hd) undef)
theorem qu {vs : Array Value} (hj : gs ops j = some g) (hg : gt e g = some (.tuple vs)) (hd : Nat.ble (d + 1) n = true) (h : QK n (ql P ops M Q0 l) ((d, undef) :: e)) : QK n (ql P ops M Q0 (⟨some d, op, ty, ps, af, some (j, want)⟩ :: l)) e := qnext fun a ha => by
  rw [if_neg (by simp [Region.wanted, yielded_of ha hj hg])]; exact h _ (ha.put (o := some d) (dk_of hd) undef)
/-- A call, its value known ahead. -/
theorem quiet_call {f : FuncId} {args : List Value} {as : Array Operand} {ts : Array TypeId} {gd : Option (Nat × Bool)} (hd : Nat.ble (d + 1) n = true) (hx : evs e as.toList = some args)
    (hs : ∀ w, Mok M w → Spec P f args.toArray w (fun v' w' => Ext [] w w' ∧ v' = v)) (h : QK n J ((d, v) :: e)) (ha : Sat n e a) : (⟨some d, .call { callee := .value (.func f), args := as, argTypes := ts }, ty, ps, af, gd⟩ : Oper).quiet P a (Mok M) J :=
  ⟨v, fun w hM => by
    have h0 := opSt_ok (P := P) ha ⟨some d, .call { callee := .value (.func f), args := as, argTypes := ts }, ty, ps, af, gd⟩
    simp only [opSt, ev, hx, callSt] at h0
    have h1 := hs w hM
    unfold Spec at h1
    unfold Oper.quietAt
    simp only [List.append_nil, List.nil_append] at h0
    rw [h0 h1.1 w]
    exact ⟨rfl, h1.2.mono fun x w' ⟨v', hx, he, hv⟩ => ⟨by rw [hx, hv], hM.e0 he⟩⟩, h _ (ha.put (o := some d) (dk_of hd) v)⟩
theorem qc {f : FuncId} {args : List Value} {as : Array Operand} {ts : Array TypeId} (hd : Nat.ble (d + 1) n = true) (hx : evs e as.toList = some args)
    (hs : ∀ w, Mok M w → Spec P f args.toArray w (fun v' w' => Ext [] w w' ∧ v' = v)) (h : QK n (ql P ops M Q0 l) ((d, v) :: e)) : QK n (ql P ops M Q0 (⟨some d, .call { callee := .value (.func f), args := as, argTypes := ts }, ty, ps, af, none⟩ :: l)) e := qnext fun a ha => by
  rw [if_pos (by rfl)]; exact quiet_call hd hx hs h ha
theorem qcg {f : FuncId} {args : List Value} {as : Array Operand} {ts : Array TypeId} (hj : gs ops j = some g) (hg : gt e g = some (.bool want)) (hd : Nat.ble (d + 1) n = true) (hx : evs e as.toList = some args)
    (hs : ∀ w, Mok M w → Spec P f args.toArray w (fun v' w' => Ext [] w w' ∧ v' = v)) (h : QK n (ql P ops M Q0 l) ((d, v) :: e)) : QK n (ql P ops M Q0 (⟨some d, .call { callee := .value (.func f), args := as, argTypes := ts }, ty, ps, af, some (j, want)⟩ :: l)) e := qnext fun a ha => by
  rw [if_pos (by simp [Region.wanted, yielded_of ha hj hg])]; exact quiet_call hd hx hs h ha
theorem qxb {b : Bool} (hg : gt e g = some (.bool b)) (hT : b = true → QK n J ((g, .bool true) :: e)) (hF : b = false → QK n J ((g, .bool false) :: e)) : QK n J e := fun a ha => by
  cases b with
  | true => exact hT rfl a (ha.again hg)
  | false => exact hF rfl a (ha.again hg)
theorem qxd {p : Prop} [Decidable p] (hg : gt e g = some (.bool (decide p))) (hT : p → QK n J ((g, .bool true) :: e)) (hF : ¬ p → QK n J ((g, .bool false) :: e)) : QK n J e :=
  qxb hg (fun h => hT (of_decide_eq_true h)) (fun h => hF (of_decide_eq_false h))
theorem qxn {p : Prop} [Decidable p] (hg : gt e g = some (.bool (!decide p))) (hT : ¬ p → QK n J ((g, .bool true) :: e)) (hF : p → QK n J ((g, .bool false) :: e)) : QK n J e :=
  qxb hg (fun h => hT (by simpa using h)) (fun h => hF (by simpa using h))

/-! ### Regions that draw their order, in any order -/
class PQ (Q : Post) : Prop where out : ∀ c a o v w, Q (.panic c) (a.put o v) w → Q (.panic c) a w
instance [h : PQ Q] : PQ (Exit.then K Q) := ⟨fun c a o v w hq => h.out c a o v w hq⟩
instance [h : PQ Q] {i : Nat} : PQ (Exit.inBlock i Q) := ⟨fun c a o v w hq => h.out c a o v w hq⟩
theorem rd {id : Nat} (H' : List Hc) (hm : P.follows .mixedOrders = true) (h : WK n (wd P ops Q ⟨S, w0, H'⟩ ops.size (Array.replicate ops.size false)) e ⟨S, w0, H⟩ w.drew) : WK n (cw P (.region id ops true) Q) e ⟨S, w0, H⟩ w :=
  fun hM a ha => wp_region_held (S := Mok ⟨S, w0, H'⟩) hm (h (hM.e0 (Ext.drew w)) a ha)
theorem rd0 {id : Nat} (hm : P.follows .mixedOrders = true) (h : WK n (wd P ops Q ⟨S, w0, H⟩ ops.size (Array.replicate ops.size false)) e ⟨S, w0, H⟩ w.drew) : WK n (cw P (.region id ops true) Q) e ⟨S, w0, H⟩ w := rd H hm h
variable {fuel : Nat} {ls : Array Bool} {H' : List Hc}
theorem dt {i : Nat} {gd : Option (Nat × Bool)} [hq : PQ Q] (hi : ops[i]? = some ⟨some d, op, ty, ps, af, gd⟩) (hc : (Region.noSelect ops && Region.free .any ops ls i && (Region.ready .any ops ls).contains i) = true) (hH : H'.Sublist H)
    (hd : Nat.ble (d + 1) n = true) (hg : ∀ a, Sat n e a → Region.wanted ⟨some d, op, ty, ps, af, gd⟩ (yielded ops a.tmps) = true) (hy : Yd P n e ⟨S, w0, H'⟩ ⟨some d, op, ty, ps, af, gd⟩ v)
    (h : WK n (wd P ops Q ⟨S, w0, H'⟩ fuel (ls.setIfInBounds i true)) ((d, v) :: e) ⟨S, w0, H⟩ w) : WK n (wd P ops Q ⟨S, w0, H'⟩ (fuel + 1) ls) e ⟨S, w0, H⟩ w := fun hM a ha => by
  simp only [Bool.and_eq_true] at hc
  exact wpAnyH_take hi hc.1.1 hc.1.2 hc.2 (fun c a w => hq.out c a _ v w) (.inl ⟨hg a ha, fun w hw => hy w hw a ha⟩) (hM.sub hH) (h hM _ (ha.put (o := some d) (dk_of hd) v))
theorem dtn {i : Nat} {gd : Option (Nat × Bool)} [hq : PQ Q] (hi : ops[i]? = some ⟨some d, op, ty, ps, af, gd⟩) (hc : (Region.noSelect ops && Region.free .any ops ls i && (Region.ready .any ops ls).contains i) = true) (hH : H'.Sublist H)
    (hd : Nat.ble (d + 1) n = true) (hg : ∀ a, Sat n e a → Region.wanted ⟨some d, op, ty, ps, af, gd⟩ (yielded ops a.tmps) = false)
    (h : WK n (wd P ops Q ⟨S, w0, H'⟩ fuel (ls.setIfInBounds i true)) ((d, undef) :: e) ⟨S, w0, H⟩ w) : WK n (wd P ops Q ⟨S, w0, H'⟩ (fuel + 1) ls) e ⟨S, w0, H⟩ w := fun hM a ha => by
  simp only [Bool.and_eq_true] at hc
  exact wpAnyH_take hi hc.1.1 hc.1.2 hc.2 (fun c a w => hq.out c a _ undef w) (.inr ⟨hg a ha, rfl⟩) (hM.sub hH) (h hM _ (ha.put (o := some d) (dk_of hd) undef))
theorem g0 {a : Act} : Sat n e a → Region.wanted ⟨ds', op, ty, ps, af, none⟩ (yielded ops a.tmps) = true := fun _ => rfl
theorem gy {a : Act} (hj : gs ops j = some g) (hg : gt e g = some (.bool want)) (ha : Sat n e a) : Region.wanted ⟨ds', op, ty, ps, af, some (j, want)⟩ (yielded ops a.tmps) = true := by
  simp [Region.wanted, yielded_of ha hj hg]
theorem gn {a : Act} {b : Bool} (hj : gs ops j = some g) (hg : gt e g = some (.bool b)) (hb : (b == want) = false) (ha : Sat n e a) : Region.wanted ⟨ds', op, ty, ps, af, some (j, want)⟩ (yielded ops a.tmps) = false := by
  simp [Region.wanted, yielded_of ha hj hg]; simpa using hb
theorem gu {a : Act} {vs : Array Value} (hj : gs ops j = some g) (hg : gt e g = some (.tuple vs)) (ha : Sat n e a) : Region.wanted ⟨ds', op, ty, ps, af, some (j, want)⟩ (yielded ops a.tmps) = false := by
  simp [Region.wanted, yielded_of ha hj hg]
/-- One alone may come up; whichever comes up. -/
theorem da {rs : List Nat} (hr : Region.ready .any ops ls = rs) (hne : rs.isEmpty = false) (h : ∀ i ∈ rs, ∃ o, ops[i]? = some o ∧ WK n (w1 P ops Q o (ds P ops Q M fuel (ls.setIfInBounds i true))) e ⟨S, w0, H⟩ w) :
    WK n (wd P ops Q M (fuel + 1) ls) e ⟨S, w0, H⟩ w := fun hM a ha => by
  refine wpAnyH_all hr (by intro h0; rw [h0] at hne; cases hne) fun i hi => ?_
  obtain ⟨o, ho, hk⟩ := h i hi
  unfold wpOp
  simp only [ho]
  exact hk hM a ha
theorem d1 {i : Nat} {o : Oper} (hr : Region.ready .any ops ls = [i]) (ho : ops[i]? = some o) (h : WK n (w1 P ops Q o (ds P ops Q M fuel (ls.setIfInBounds i true))) e ⟨S, w0, H⟩ w) :
    WK n (wd P ops Q M (fuel + 1) ls) e ⟨S, w0, H⟩ w := da hr rfl fun j hj => by simp at hj; subst hj; exact ⟨o, ho, h⟩
theorem d2 {i i' : Nat} {o o' : Oper} (hr : Region.ready .any ops ls = [i, i']) (ho : ops[i]? = some o) (ho' : ops[i']? = some o') (h : WK n (w1 P ops Q o (ds P ops Q M fuel (ls.setIfInBounds i true))) e ⟨S, w0, H⟩ w)
    (h' : WK n (w1 P ops Q o' (ds P ops Q M fuel (ls.setIfInBounds i' true))) e ⟨S, w0, H⟩ w) : WK n (wd P ops Q M (fuel + 1) ls) e ⟨S, w0, H⟩ w := da hr rfl fun j hj => by
  simp at hj
  rcases hj with rfl | rfl
  · exact ⟨_, ho, h⟩
  · exact ⟨_, ho', h'⟩
theorem dg (hH : H'.Sublist H) (h : WK n (wd P ops Q ⟨S, w0, H'⟩ fuel ls) e ⟨S, w0, H⟩ w) : WK n (ds P ops Q ⟨S, w0, H'⟩ fuel ls) e ⟨S, w0, H⟩ w := fun hM a ha => ⟨hM.sub hH, h hM a ha⟩
theorem de (hr : Region.ready .any ops ls = []) (h : WK n (Q .normal) e M w) : ∀ {M0 : Mem}, WK n (wd P ops Q M0 fuel ls) e M w := fun hM a ha => wpAnyH_done hr (h hM a ha) _
end

/-! ### Entering a function, and leaving it -/
def RetQ (P : Program) (fn : Func) (k : Value → World → Prop) : Post := bodyPost P fn (fun x w' => ∃ v, x = .returned v ∧ k v w')
def ae : Nat → List Value → Env
  | _, [] => []
  | i, v :: l => (i, v) :: ae (i + 1) l
theorem gt_ae : ∀ (l : List Value) (i j : Nat) (v : Value), gt (ae i l) j = some v → i ≤ j ∧ l[j - i]? = some v
  | [], _, _, _, h => by cases h
  | x :: l, i, j, v, h => by
    simp only [ae, gt_cons] at h
    by_cases hi : j = i
    · subst hi; rw [if_pos rfl] at h; cases h; simp
    · rw [if_neg hi] at h
      obtain ⟨h1, h2⟩ := gt_ae l (i + 1) j v h
      refine ⟨by omega, ?_⟩
      have : j - i = (j - (i + 1)) + 1 := by omega
      rw [this]; simpa using h2
instance {fn : Func} {k : Value → World → Prop} : PQ (RetQ P fn k) := ⟨fun c a o v w ⟨h1, h2⟩ => ⟨by cases o <;> exact h1, h2⟩⟩
theorem Spec.intro {f : FuncId} {fn : Func} {c : Code} {args : List Value} {k : Value → World → Prop} (hf : P.funcs[f]? = some fn) (hb : fn.body = some c)
    (hn : (fn.name == "runtime.NumGoroutine") = false) (hargs : args.length ≤ fn.ntmps) (hM : Mok M w) (h : WP P fn.ntmps c (RetQ P fn k) (ae 0 args) M w) : Spec P f args.toArray w k := by
  unfold Spec
  refine ⟨⟨fn, hf, hn, by rw [hb]; rfl⟩, calls_of_wp hf hb (h hM _ ⟨rfl, by simp; omega, fun i v hv => ?_⟩)⟩
  obtain ⟨_, h2⟩ := gt_ae _ _ _ _ hv
  simp only [Nat.sub_zero] at h2
  have hi : i < args.length := (List.getElem?_eq_some_iff.1 h2).1
  rw [Array.getElem?_append_left (by simpa using hi)]
  simpa using h2
def rs (e : Env) : List ResultVar → Option (List Value)
  | [] => some []
  | .tmp t :: l => match gt e t, rs e l with
    | some v, some vs => some (v :: vs)
    | _, _ => none
  | .cell _ _ :: _ => none
def ret1 : List Value → Value
  | [v] => v
  | vs => .tuple vs.toArray
theorem rs_run (w : World) (h : Sat n e a) (g : ResultVar → Sem Value) (hg : ∀ t, g (.tmp t) = pure (a.tmps.getD t undef)) : ∀ {l : List ResultVar} {vs : List Value}, rs e l = some vs →
    (l.mapM g).run P w = .ok vs w
  | [], vs, hx => by simp [rs] at hx; subst hx; simp
  | .tmp t :: l, vs, hx => by
    simp only [rs] at hx
    split at hx
    · rename_i v us h1 h2
      cases hx
      have h3 := h.get t v h1
      have h4 := rs_run w h g hg h2
      have h5 : a.tmps.getD t undef = v := by simp [Array.getD_eq_getD_getElem?, h3]
      simp only [List.mapM_cons, Sem.run_bind, hg, h5, Sem.run_pure, Result.andThen_ok, h4]
    · cases hx
  | .cell _ _ :: _, vs, hx => by simp [rs] at hx
theorem results_of {fn : Func} {vs : List Value} (h : Sat n e a) (hx : rs e fn.results.toList = some vs) : (results fn a.tmps).run P w = .ok (ret1 vs) w := by
  have h1 : ∀ (s : Sem (List Value)), s.run P w = .ok vs w → Sem.run P (List.toArray <$> s) w = .ok vs.toArray w := fun s hs => by simp [hs]
  unfold results
  rw [← Array.toArray_toList (xs := fn.results), List.mapM_toArray, Sem.run_bind, h1 _ (rs_run w h _ (fun _ => rfl) hx)]
  simp only [Result.andThen_ok, Sem.run_pure]
  match vs with
  | [] => simp [ret1]
  | [v] => simp [ret1]
  | u :: v :: l => simp [ret1]
theorem ret_ {fn : Func} {k : Value → World → Prop} {vs : List Value} (hx : rs e fn.results.toList = some vs) (hk : Mok M w → k (ret1 vs) w) : PO n (RetQ P fn k) .ret e M w :=
  fun hM a ha => ⟨ha.defers, ret1 vs, results_of ha hx, _, rfl, hk hM⟩
theorem fall_ {fn : Func} {k : Value → World → Prop} {vs : List Value} (hx : rs e fn.results.toList = some vs) (hk : Mok M w → k (ret1 vs) w) : PO n (RetQ P fn k) .normal e M w :=
  fun hM a ha => ⟨ha.defers, ret1 vs, results_of ha hx, _, rfl, hk hM⟩

/-! ### Loops -/
def gts (e : Env) : List Nat → Option (List Value)
  | [] => some []
  | i :: l => match gt e i, gts e l with
    | some v, some vs => some (v :: vs)
    | _, _ => none
def Sub (e0 e : Env) : Prop := ∀ p ∈ e0, gt e p.1 = some p.2
theorem gt_mem : ∀ {e : Env} {i : Nat} {v : Value}, gt e i = some v → (i, v) ∈ e
  | [], _, _, h => by cases h
  | (j, u) :: e, i, v, h => by
    simp only [gt_cons] at h
    by_cases hi : i = j
    · subst hi; rw [if_pos rfl] at h; cases h; exact .head _
    · rw [if_neg hi] at h; exact .tail _ (gt_mem h)
theorem Sat.sub {e0 : Env} (h : Sat n e a) (hs : Sub e0 e) : Sat n e0 a := ⟨h.defers, h.size, fun i v hv => h.get i v (hs _ (gt_mem hv))⟩
theorem weaken {e0 : Env} {c : Code} {H' : List Hc} (hs : Sub e0 e) (hH : H'.Sublist H) (h : WP P n c Q e0 ⟨S, w0, H'⟩ w) : WP P n c Q e ⟨S, w0, H⟩ w := fun hM a ha => h (hM.sub hH) a (ha.sub hs)
theorem gts_sub : ∀ {live : List Nat} {vs : List Value}, gts e live = some vs → live.length = vs.length ∧ Sub (live.zip vs) e
  | [], vs, h => by simp [gts] at h; subst h; exact ⟨rfl, fun p hp => by cases hp⟩
  | i :: l, vs, h => by
    simp only [gts] at h
    split at h
    · rename_i v us h1 h2
      cases h
      obtain ⟨h3, h4⟩ := gts_sub h2
      refine ⟨by simp [h3], fun p hp => ?_⟩
      simp only [List.zip_cons_cons, List.mem_cons] at hp
      rcases hp with rfl | hp
      · exact h1
      · exact h4 p hp
    · cases h
theorem Sub.append {e1 e2 : Env} (h1 : Sub e1 e) (h2 : Sub e2 e) : Sub (e1 ++ e2) e := fun p hp => (List.mem_append.1 hp).elim (h1 p) (h2 p)
theorem sub_nil : Sub [] e := fun _ h => by cases h
theorem sub_cons {i : Nat} {v : Value} {e0 : Env} : Sub ((i, v) :: e0) e ↔ gt e i = some v ∧ Sub e0 e := by
  unfold Sub; simp
theorem gts_map (h : Sat n e a) : ∀ {live : List Nat} {vs : List Value}, gts e live = some vs → live.map (a.tmps.getD · undef) = vs
  | [], vs, hx => by simp [gts] at hx; subst hx; rfl
  | i :: l, vs, hx => by
    simp only [gts] at hx
    split at hx
    · rename_i v us h1 h2
      cases hx
      have h5 : a.tmps.getD i undef = v := by simp [Array.getD_eq_getD_getElem?, h.get _ _ h1]
      rw [List.map_cons, gts_map h h2, h5]
    · cases hx
/-- The end of a round: 'live' the slots that change, 'ks' those that stay. -/
def LE (n : Nat) (S : List Nat) (w0 : World) (live ks : List Nat) (kvs : List Value) (I : List Value → List Hc → Prop) (μ : List Value → Nat) (m : Nat) : Act → World → Prop :=
  fun a w => ∃ H, Mok ⟨S, w0, H⟩ w ∧ Sat n (live.zip (live.map (a.tmps.getD · undef)) ++ ks.zip kvs) a ∧ I (live.map (a.tmps.getD · undef)) H ∧ μ (live.map (a.tmps.getD · undef)) < m
theorem round {live ks : List Nat} {kvs : List Value} {I : List Value → List Hc → Prop} {μ : List Value → Nat} {m : Nat} {vs : List Value} {H' : List Hc}
    (h : gts e live = some vs) (hk : gts e ks = some kvs) (hs : H'.Sublist H) (hI : I vs H') (hm : μ vs < m) : WK n (LE n S w0 live ks kvs I μ m) e ⟨S, w0, H⟩ w := fun hM a ha => by
  have h1 := gts_map ha h
  unfold LE
  rw [h1]
  exact ⟨H', hM.sub hs, ha.sub ((gts_sub h).2.append (gts_sub hk).2), hI, hm⟩
theorem loop {c : Code} (live ks : List Nat) (I : List Value → List Hc → Prop) (μ : List Value → Nat) {vs kvs : List Value} {H' : List Hc}
    (h : gts e live = some vs) (hk : gts e ks = some kvs) (hs : H'.Sublist H) (hI : I vs H')
    (hr : ∀ vs H w, I vs H → WK n (cw P c (Exit.then (LE n S w0 live ks kvs I μ (μ vs)) Q)) (live.zip vs ++ ks.zip kvs) ⟨S, w0, H⟩ w) : WK n (cw P (.loop c) Q) e ⟨S, w0, H⟩ w := by
  intro hM a ha
  have h0 : LE n S w0 live ks kvs I μ (μ vs + 1) a w := by
    unfold LE
    rw [gts_map ha h]
    exact ⟨H', hM.sub hs, ha.sub ((gts_sub h).2.append (gts_sub hk).2), hI, by omega⟩
  refine wp_loop (fun a w => ∃ m, LE n S w0 live ks kvs I μ m a w) (fun a w => μ (live.map (a.tmps.getD · undef))) ⟨_, h0⟩ ?_
  rintro a w ⟨m, H, hM, hs, hI, hm⟩
  refine wp_mono (hr _ H w hI hM a hs) ?_
  intro x a' w' hx
  cases x with
  | normal => exact ⟨⟨_, hx⟩, let ⟨_, _, _, _, h⟩ := hx; h⟩
  | _ => exact hx
attribute [irreducible] WK cw wo w1 wl wd ds QK ql qe Yd
end Go.Proofs.YtkhlmpkodjoioaaDoor
