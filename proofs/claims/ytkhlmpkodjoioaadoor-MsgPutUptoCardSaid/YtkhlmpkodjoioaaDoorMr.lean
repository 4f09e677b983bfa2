/- The rules for operations that change memory, and for calls. -/
import Derived.Test.YtkhlmpkodjoioaaDoorYr
set_option linter.unusedVariables false
set_option linter.unusedSimpArgs false
namespace Go.Proofs.YtkhlmpkodjoioaaDoor
variable {P : Program} {n : Nat} {e : Env} {Q : Post} {K : Act → World → Prop} {S : List Nat} {w0 w : World} {H : List Hc} {M : Mem}
variable {d : Nat} {op : Op} {ty : TypeId} {ps : String} {af : Array Edge} {gd : Option (Nat × Bool)}
/-- An operation that hands back a value, memory changed perhaps. -/
theorem og {s : Sem Value} (hd : Nat.ble (d + 1) n = true) (hst : opSt P e ⟨some d, op, ty, ps, af, gd⟩ = .v s) (h : Mok M w → ValW P s w (fun v w' => ∃ M', Mok M' w' ∧ WK n K ((d, v) :: e) M' w')) :
    WK n (wo P Q ⟨some d, op, ty, ps, af, gd⟩ K) e M w := by
  unfold WK wo
  intro hM a ha
  have h0 := opSt_ok (P := P) ha ⟨some d, op, ty, ps, af, gd⟩
  rw [hst] at h0
  have h1 := h hM
  unfold ValW WK at h1
  obtain ⟨v, w', hr, M', hM', hk⟩ := h1
  unfold Oper.wp
  rw [h0 w v w' hr]
  exact hk hM' _ (ha.put (o := some d) (dk_of hd) v)
theorem og_ {s : Sem Value} (hst : opSt P e ⟨none, op, ty, ps, af, gd⟩ = .v s) (h : Mok M w → ValW P s w (fun v w' => ∃ M', Mok M' w' ∧ WK n K e M' w')) :
    WK n (wo P Q ⟨none, op, ty, ps, af, gd⟩ K) e M w := by
  unfold WK wo
  intro hM a ha
  have h0 := opSt_ok (P := P) ha ⟨none, op, ty, ps, af, gd⟩
  rw [hst] at h0
  have h1 := h hM
  unfold ValW WK at h1
  obtain ⟨v, w', hr, M', hM', hk⟩ := h1
  unfold Oper.wp
  rw [h0 w v w' hr]
  exact hk hM' _ ha
theorem ou {s : Sem Unit} (hst : opSt P e ⟨none, op, ty, ps, af, gd⟩ = .u s) (h : Mok M w → UnitW P s w (fun w' => ∃ M', Mok M' w' ∧ WK n K e M' w')) :
    WK n (wo P Q ⟨none, op, ty, ps, af, gd⟩ K) e M w := by
  unfold WK wo
  intro hM a ha
  have h0 := opSt_ok (P := P) ha ⟨none, op, ty, ps, af, gd⟩
  rw [hst] at h0
  have h1 := h hM
  unfold UnitW WK at h1
  obtain ⟨w', hr, M', hM', hk⟩ := h1
  unfold Oper.wp
  rw [h0 w w' hr]
  exact hk hM' _ ha
/-- A call: 'oc' with whatever it does to memory. -/
theorem oc {f : FuncId} {args : Array Value} (hd : Nat.ble (d + 1) n = true) (hst : opSt P e ⟨some d, op, ty, ps, af, gd⟩ = .c f args) (h : Mok M w → Spec P f args w (fun v w' => ∃ M', Mok M' w' ∧ WK n K ((d, v) :: e) M' w')) :
    WK n (wo P Q ⟨some d, op, ty, ps, af, gd⟩ K) e M w := by
  unfold WK wo
  intro hM a ha
  have h0 := opSt_ok (P := P) ha ⟨some d, op, ty, ps, af, gd⟩
  rw [hst] at h0
  have h1 := h hM
  unfold Spec WK at h1
  unfold Oper.wp
  rw [h0 h1.1 w]
  refine h1.2.mono fun x w' hx => ?_
  obtain ⟨v, hx, M', hM', hk⟩ := hx
  subst hx
  exact hk hM' _ (ha.put (o := some d) (dk_of hd) v)
theorem oc_ {f : FuncId} {args : Array Value} (hst : opSt P e ⟨none, op, ty, ps, af, gd⟩ = .c f args) (h : Mok M w → Spec P f args w (fun v w' => ∃ M', Mok M' w' ∧ WK n K e M' w')) :
    WK n (wo P Q ⟨none, op, ty, ps, af, gd⟩ K) e M w := by
  unfold WK wo
  intro hM a ha
  have h0 := opSt_ok (P := P) ha ⟨none, op, ty, ps, af, gd⟩
  rw [hst] at h0
  have h1 := h hM
  unfold Spec WK at h1
  unfold Oper.wp
  rw [h0 h1.1 w]
  refine h1.2.mono fun x w' hx => ?_
  obtain ⟨v, hx, M', hM', hk⟩ := hx
  subst hx
  exact hk hM' _ ha
variable {f : FuncId} {args : List Value} {as : Array Operand} {ts : Array TypeId} {R : Value → World → Prop}
theorem call_st {x : Option Tmp} {c : Operand} {g : FuncId} {us vs : List Value} (hf : ev e c = some (.func (.func g) us.toArray vs.toArray)) (ha : evs e as.toList = some args) : opSt P e ⟨x, .call { callee := .value c, args := as, argTypes := ts }, ty, ps, af, gd⟩ = .c g (us ++ (args ++ vs)).toArray := by
  simp [opSt, hf, ha, callSt]
/-- .. that makes memory alone: 'oc0' its value told; 'oc0_' unwanted; 'ocm' with what becomes known of memory; 'ocf' of a function that is held as a value. -/
theorem oc0 (hd : Nat.ble (d + 1) n = true) (ha : evs e as.toList = some args) (hs : Mok M w → Spec P f args.toArray w (fun v w' => Ext [] w w' ∧ R v w'))
    (h : ∀ v w', R v w' → WK n K ((d, v) :: e) M w') : WK n (wo P Q ⟨some d, .call { callee := .value (.func f), args := as, argTypes := ts }, ty, ps, af, gd⟩ K) e M w :=
  oc (f := f) (args := args.toArray) hd (by simpa using call_st (us := []) (vs := []) rfl ha) fun hM => (hs hM).mono fun v w' ⟨he, hr⟩ => ⟨M, hM.e0 he, h v w' hr⟩
theorem ocd {v : Value} (hd : Nat.ble (d + 1) n = true) (ha : evs e as.toList = some args) (hs : Mok M w → Spec P f args.toArray w (fun v' w' => Ext [] w w' ∧ v' = v))
    (h : ∀ w', WK n K ((d, v) :: e) M w') : WK n (wo P Q ⟨some d, .call { callee := .value (.func f), args := as, argTypes := ts }, ty, ps, af, gd⟩ K) e M w := oc0 hd ha hs fun v' w' hr => by subst hr; exact h w'
theorem oc0_ (ha : evs e as.toList = some args) (hs : Mok M w → Spec P f args.toArray w (fun v w' => Ext [] w w' ∧ R v w'))
    (h : ∀ v w', R v w' → WK n K e M w') : WK n (wo P Q ⟨none, .call { callee := .value (.func f), args := as, argTypes := ts }, ty, ps, af, gd⟩ K) e M w :=
  oc_ (f := f) (args := args.toArray) (by simpa using call_st (us := []) (vs := []) rfl ha) fun hM => (hs hM).mono fun v w' ⟨he, hr⟩ => ⟨M, hM.e0 he, h v w' hr⟩
theorem ocm (hd : Nat.ble (d + 1) n = true) (ha : evs e as.toList = some args) (hs : Mok ⟨S, w0, H⟩ w → Spec P f args.toArray w (fun v w' => ∃ H', Mok ⟨S, w0, H'⟩ w' ∧ WK n K ((d, v) :: e) ⟨S, w0, H'⟩ w')) :
    WK n (wo P Q ⟨some d, .call { callee := .value (.func f), args := as, argTypes := ts }, ty, ps, af, gd⟩ K) e ⟨S, w0, H⟩ w :=
  oc (f := f) (args := args.toArray) hd (by simpa using call_st (us := []) (vs := []) rfl ha) fun hM => (hs hM).mono fun v w' ⟨H', hM', hk⟩ => ⟨_, hM', hk⟩
theorem oc1 (hd : Nat.ble (d + 1) n = true) (ha : evs e as.toList = some args) (hs : Mok ⟨S, w0, H⟩ w → Spec P f args.toArray w (fun v w' => Ext [] w w' ∧ R v w'))
    (h : ∀ v w', R v w' → ∃ c : Hc, c.p w' ∧ (∀ g, c.blk = some g → w.heap.size ≤ g) ∧ WK n K ((d, v) :: e) ⟨S, w0, c :: H⟩ w') : WK n (wo P Q ⟨some d, .call { callee := .value (.func f), args := as, argTypes := ts }, ty, ps, af, gd⟩ K) e ⟨S, w0, H⟩ w :=
  ocm hd ha fun hM => (hs hM).mono fun v w' ⟨he, hr⟩ => let ⟨c, h1, h2, h3⟩ := h v w' hr; ⟨_, hM.add he h1 h2, h3⟩
/-! ### Boxes -/
theorem obx {T : TypeId} {x : Operand} {u : Value} (hd : Nat.ble (d + 1) n = true) (hx : ev e x = some u)
    (h : ∀ g w', w.heap.size ≤ g → WK n K ((d, .pointer (some ⟨g, 0, none⟩)) :: e) ⟨S, w0, bx g (.cells u.cells T (0, 0)) :: H⟩ w') : WK n (wo P Q ⟨some d, .box T x, ty, ps, af, gd⟩ K) e ⟨S, w0, H⟩ w :=
  og (s := Instr.box T u) hd (by simp only [opSt, hx]) fun hM => ValW.of (w' := w.alloc (.cells u.cells T)) (by simp [Instr.box, newVar, newRow]) ⟨_, hM.new _, h _ _ (Nat.le_refl _)⟩
theorem oal {T : TypeId} {z : Value} [hZ : Zr P T z] (hd : Nat.ble (d + 1) n = true)
    (h : ∀ g w', w.heap.size ≤ g → WK n K ((d, .pointer (some ⟨g, 0, none⟩)) :: e) ⟨S, w0, bx g (.cells z.cells T (0, 0)) :: H⟩ w') : WK n (wo P Q ⟨some d, .alloc T, ty, ps, af, gd⟩ K) e ⟨S, w0, H⟩ w :=
  og (s := Instr.alloc T true (.tuple #[])) hd (by simp only [opSt]) fun hM => by
    obtain ⟨inf, hinf, hz⟩ := Option.map_eq_some_iff.1 hZ.out
    exact ValW.of (w' := w.alloc (.cells z.cells T)) (by simp [Instr.alloc, zeroValue, typeInfo, hinf, hz, newVar, newRow]) ⟨_, hM.new _, h _ _ (Nat.le_refl _)⟩
theorem ost {T T' g off : Nat} {cs : Array Value} {v : Value} {x y : Operand} [hZ : Sz P T 1] (i : Nat) (hx : ev e x = some (.pointer (some ⟨g, off, none⟩))) (hy : ev e y = some v)
    (hi : H[i]? = some (bx g (.cells cs T' (0, 0)))) (hv : v.oneCell' = true) (ho : Nat.ble (off + 1) cs.size = true) (h : ∀ w', WK n K e ⟨S, w0, H.set i (bx g (.cells (cs.setIfInBounds off v) T' (0, 0)))⟩ w') : WK n (wo P Q ⟨none, .store T x y, ty, ps, af, gd⟩ K) e ⟨S, w0, H⟩ w :=
  ou (s := Instr.storeAt T (.pointer (some ⟨g, off, none⟩)) v) (by simp only [opSt, hx, hy]) fun hM => by
    have ho : off < cs.size := Nat.le_of_ble_eq_true ho
    have hb : w.heap[g]? = some (.cells cs T' (0, 0)) := hM.fact i _ hi
    obtain ⟨inf, hinf, hz⟩ := Option.map_eq_some_iff.1 hZ.out
    have hcell : w.cell? ⟨g, off, none⟩ = some cs[off] := by simp [World.cell?, hb, ho]
    have hfr : w.frozen? ⟨g, off, none⟩ = false := by simp [World.frozen?, hb]
    have hvc : v.cells = #[v] := by cases v <;> simp_all [Value.cells, Value.oneCell']
    refine UnitW.of (w' := w.setCell ⟨g, off, none⟩ v) ?_ ⟨_, hM.upd hi rfl (Ext.setCell w ⟨g, off, none⟩ v) (fun g' hg => by simp at hg; subst hg; rfl) (c' := bx g (.cells (cs.setIfInBounds off v) T' (0, 0))) ?_ (fun g' hg => .inl hg), h _⟩
    · have hst2 := run_storeCells_cells (P := P) g off [v] 0 w (fun j hj => by simp at hj; subst hj; simp [hcell]) (fun j hj => by simp at hj; subst hj; simpa using hfr) (by simpa using hv)
      simp [Instr.storeAt, Instr.sureAddr, storeVar, hvc, sizeOf, typeInfo, hinf, hz]
      simpa [World.setCells, addr_add] using hst2
    · show (w.heap.modify g _)[g]? = _
      rw [Array.getElem?_modify, if_pos rfl, hb]
      rfl
/-! ### Slices -/
variable {α : Type} {E : En α} {t T k bytes : Nat} {v x : Value} {xs ys : List α} {p q : Operand}
theorem El.ti [h : El P T k bytes] (hk : E.k = k) : TI P T E.k bytes := hk ▸ h.out
theorem blk_toList {v : Value} {g : Nat} (h : g ∈ v.ownBlock.toList) : v.ownBlock = some g := by
  cases hb : v.ownBlock with
  | none => rw [hb] at h; simp at h
  | some g' => rw [hb] at h; simp at h; rw [h]
theorem newBlk.hf {w : World} {v v' : Value} (h : newBlk w v v') : ∀ g, v'.ownBlock = some g → v.ownBlock = some g ∨ w.heap.size ≤ g := fun g hg => by
  rcases h with h | ⟨g', h, hl⟩
  · rw [h] at hg; exact .inl hg
  · rw [h] at hg; cases hg; exact .inr hl
/-- A literal. -/
theorem oli {m : Nat} {pp : Array (Nat × Operand)} (E : En α) (xs : List α) [Und P t (.slice T)] [El P T k bytes] (hd : Nat.ble (d + 1) n = true) (hp : evp e pp.toList = some (litp E 0 xs))
    (hn : m = xs.length) (hs : Nat.ble (m * k) 16777216 = true) (hk : E.k = k)
    (h : ∀ g w', w.heap.size ≤ g → WK n K ((d, .slice (some ⟨g, 0, none⟩) m m) :: e) ⟨S, w0, ow E T (.slice (some ⟨g, 0, none⟩) m m) xs :: H⟩ w') : WK n (wo P Q ⟨some d, .buildSlice t m pp, ty, ps, af, gd⟩ K) e ⟨S, w0, H⟩ w :=
  og (s := Instr.buildSlice t m (litp E 0 xs).toArray) hd (by simp only [opSt, hp]) fun hM => ValW.lit xs 0 rfl hn Und.out (El.ti hk) (by rw [hk]; exact Nat.le_of_ble_eq_true hs) (Nat.zero_le _) fun w' h1 h2 h3 =>
    ⟨_, hM.add (c := ow E T (.slice (some ⟨w.heap.size, 0, none⟩) m m) xs) h2 h1 (fun g hg => by cases hg; exact Nat.le_refl _), h _ _ (Nat.le_refl _)⟩
abbrev app (t : TypeId) (p q : Operand) : Op := .call { callee := .builtin .append, args := #[p, q], argTypes := #[t, t] }
/-- append to a slice of one's own, number i of what is known. -/
theorem oap (i : Nat) [Und P t (.slice T)] [El P T k bytes] (hd : Nat.ble (d + 1) n = true) (hp : ev e p = some v) (hq : ev e q = some x)
    (hi : H[i]? = some (ow E T v xs)) (hk : E.k = k) (hx : ∀ w, Mok ⟨S, w0, H⟩ w → Sl E w x ys) (hby : (xs.length + ys.length) * bytes ≤ 140737488355328) (hpos : Nat.ble 1 bytes = true)
    (h : ∀ v' w', WK n K ((d, v') :: e) ⟨S, w0, H.set i (ow E T v' (xs ++ ys))⟩ w') : WK n (wo P Q ⟨some d, .call { callee := .builtin .append, args := #[p, q], argTypes := #[t, t] }, ty, ps, af, gd⟩ K) e ⟨S, w0, H⟩ w :=
  og (s := Builtin.append_ #[t, t] ty #[v, x]) hd (by simp only [opSt, evs, hp, hq]) fun hM => ValW.app Und.out (El.ti hk) (hM.fact i _ hi) (hx w hM) hby (Nat.le_of_ble_eq_true hpos) (Nat.zero_le _) fun v' w' h1 h2 h3 =>
    ⟨_, hM.upd (c' := ow E T v' (xs ++ ys)) hi rfl h2 (fun g hg => blk_toList hg) h1 h3.hf, h v' w'⟩
/-- append of the literal that stands first: it is dropped. -/
theorem oapl (i : Nat) {H' : List Hc} [Und P t (.slice T)] [El P T k bytes] (hd : Nat.ble (d + 1) n = true) (hp : ev e p = some v) (hq : ev e q = some x)
    (hH : H = ow E T x ys :: H') (hi : H'[i]? = some (ow E T v xs)) (hk : E.k = k) (hby : (xs.length + ys.length) * bytes ≤ 140737488355328) (hpos : Nat.ble 1 bytes = true)
    (h : ∀ v' w', WK n K ((d, v') :: e) ⟨S, w0, H'.set i (ow E T v' (xs ++ ys))⟩ w') : WK n (wo P Q ⟨some d, .call { callee := .builtin .append, args := #[p, q], argTypes := #[t, t] }, ty, ps, af, gd⟩ K) e ⟨S, w0, H⟩ w := by
  subst hH
  refine og (s := Builtin.append_ #[t, t] ty #[v, x]) hd (by simp only [opSt, evs, hp, hq]) fun hM => ValW.app Und.out (El.ti hk) (hM.fact (i + 1) (ow E T v xs) (by simpa using hi)) (Own.sl (T := T) (base := 0) (hM.fact 0 (ow E T x ys) rfl)) hby (Nat.le_of_ble_eq_true hpos) (Nat.zero_le _) fun v' w' h1 h2 h3 =>
    ⟨_, ((hM.sub (List.sublist_cons_self _ _)).upd (c' := ow E T v' (xs ++ ys)) hi rfl h2 (fun g hg => blk_toList hg) h1 h3.hf), h v' w'⟩
/-- append to nil. -/
theorem oapn (E : En α) (ys : List α) [Und P t (.slice T)] [El P T k bytes] (hd : Nat.ble (d + 1) n = true) (hp : ev e p = some (.slice none 0 0)) (hq : ev e q = some x)
    (hk : E.k = k) (hx : ∀ w, Mok ⟨S, w0, H⟩ w → Sl E w x ys) (hby : ys.length * bytes ≤ 140737488355328) (hpos : Nat.ble 1 bytes = true)
    (h : ∀ v' w', WK n K ((d, v') :: e) ⟨S, w0, ow E T v' ys :: H⟩ w') : WK n (wo P Q ⟨some d, .call { callee := .builtin .append, args := #[p, q], argTypes := #[t, t] }, ty, ps, af, gd⟩ K) e ⟨S, w0, H⟩ w :=
  og (s := Builtin.append_ #[t, t] ty #[.slice none 0 0, x]) hd (by simp only [opSt, evs, hp, hq]) fun hM => ValW.app (xs := []) (base := 0) (T := T) Und.out (El.ti hk) (Own.nil ..) (hx w hM) (by simpa using hby) (Nat.le_of_ble_eq_true hpos) (Nat.zero_le _) fun v' w' h1 h2 h3 =>
    ⟨_, hM.add (c := ow E T v' ys) h2 (show Own E w' 0 T v' ys by simpa using h1) (fun g hg => (h3.hf g hg).elim (fun h => by cases h) id), h v' w'⟩
/-- Of 'nil' nothing need be known: it is one's own. -/
theorem onil (E : En α) (T : Nat) (h : WK n K e ⟨S, w0, ow E T (.slice none 0 0) [] :: H⟩ w) : WK n K e ⟨S, w0, H⟩ w := by
  unfold WK at *
  exact fun hM => h (hM.add (c := ow E T (.slice none 0 0) []) (Ext.refl _ _) (Own.nil ..) (fun g hg => by cases hg))
theorem Mok.addo {T : TypeId} {w' : World} (h : Mok ⟨S, w0, H⟩ w) (he : Ext [] w w') (ho : Own E w' w.heap.size T v xs) : Mok ⟨S, w0, ow E T v xs :: H⟩ w' :=
  h.add he (c := ow E T v xs) (show Own E w' 0 T v xs from ho.rebase (Nat.zero_le _)) (fun g hg => (ho.base hg).1)
theorem Mok.owned {T : TypeId} (h : Mok ⟨[], w0, H⟩ w) (i : Nat) (hi : H[i]? = some (ow E T v xs)) : Own E w w0.heap.size T v xs := by
  have h1 : Own E w 0 T v xs := h.fact i _ hi
  have h2 := h.own i _ hi rfl
  rcases h1 with ⟨rfl, rfl⟩ | ⟨g, off, c, cur, rfl, _, hr⟩
  · exact Own.nil ..
  · refine .inr ⟨g, off, c, cur, rfl, ?_, hr⟩
    rcases h2 g rfl with h | h
    · cases h
    · exact h
/-- What is known as one's own, and where it is a slice. -/
theorem sl_own (i : Nat) (hi : M.H[i]? = some (ow E T v xs)) : ∀ w, Mok M w → Sl E w v xs := fun w hM => Own.sl (T := T) (base := 0) (hM.fact i (ow E T v xs) hi)
theorem sl_arg (h : Sl E M.w0 v xs) (hS : M.S = []) : ∀ w, Mok M w → Sl E w v xs := fun w hM => h.e0 (hS ▸ hM.ext)
/-! ### Functions that are handed blocks of one's own -/
theorem ocf {R : Value → List Hc → Prop} (Hc' Hd Hr : List Hc) (hd : Nat.ble (d + 1) n = true) (ha : evs e as.toList = some args) (hp : H.Perm (Hc' ++ Hr)) (hz : Zw w0) (h0 : 0 ∉ S) (hsub : Hd.Sublist Hr) (hrd : ∀ c ∈ Hd, c.rd = true)
    (hs : Ent Hc' Hd w → Spec P f args.toArray w (fun v w' => ∃ H', Mok ⟨blks Hc', w, H'⟩ w' ∧ R v H'))
    (h : ∀ v H' w', R v H' → (∀ c ∈ H', c.rd = false) ∧ WK n K ((d, v) :: e) ⟨S, w0, H' ++ Hr⟩ w') : WK n (wo P Q ⟨some d, .call { callee := .value (.func f), args := as, argTypes := ts }, ty, ps, af, gd⟩ K) e ⟨S, w0, H⟩ w :=
  ocm hd ha fun hM => (hs ⟨(hM.perm hp).enter hsub hrd, hM.zw hz h0, (hM.perm hp).no0 hz h0⟩).mono fun v w' ⟨H', hk, hr⟩ =>
    ⟨_, (hM.perm hp).leave hk (h v H' w' hr).1, (h v H' w' hr).2⟩
end Go.Proofs.YtkhlmpkodjoioaaDoor
