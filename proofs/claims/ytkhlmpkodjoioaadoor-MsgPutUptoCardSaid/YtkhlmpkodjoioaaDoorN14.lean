/- Messages: records together; what is looked for in them; the program's check. -/
import Derived.Test.YtkhlmpkodjoioaaDoorN13
import Derived.Test.YtkhlmpkodjoioaaDoorGr
set_option linter.unusedVariables false
set_option linter.unusedSimpArgs false
set_option maxRecDepth 100000
namespace Go.Proofs.YtkhlmpkodjoioaaDoor
abbrev Tri := Option Addr × Nat × Nat
def EW : En Tri := ⟨1, fun p => .slice p.1 p.2.1 p.2.2, fun _ => rfl, fun _ u h => by simp [Value.cells] at h; subst h; rfl, by decide⟩
instance : Ld Tryd.prog EW 44 := Ld.scalar fun _ => rfl
theorem Sl.tri {α : Type} {E : En α} {w : World} {v : Value} {xs : List α} (h : Sl E w v xs) : ∃ p, v = EW.val p := let ⟨p, c, hv, _⟩ := h; ⟨(p, xs.length, c), hv⟩
theorem Sl.len {α : Type} {E : En α} {w : World} {p : Tri} {xs : List α} (h : Sl E w (EW.val p) xs) : p.2.1 = xs.length := by
  obtain ⟨q, c, hv, _⟩ := h
  unfold EW at hv
  simp at hv
  exact hv.2.1
theorem flat_take_len (ls : List (List Rec)) (i : Nat) : (ls.take i).flatten.length ≤ ls.flatten.length := by
  have h := congrArg (fun l => l.flatten.length) (List.take_append_drop i ls)
  simp only [List.flatten_append, List.length_append] at h
  omega
theorem flat_take_s {ls : List (List Rec)} {i : Nat} (h : i < ls.length) : (ls.take (i + 1)).flatten = (ls.take i).flatten ++ ls[i] := by
  rw [List.take_succ_eq_append_getElem h, List.flatten_append]; simp
theorem Concat_spec (v : Value) (ws : List Tri) (ls : List (List Rec)) (w : World) (hv : Sl EW w v ws) (hlen : ws.length = ls.length) (hs : ∀ i (h : i < ws.length), Sl ER w (EW.val ws[i]) (ls[i]'(hlen ▸ h))) (hb : ls.flatten.length ≤ 1000000) (hl3 : ls.length ≤ 100) :
    Spec Tryd.prog 54 [v].toArray w (fun v' w' => Ext [] w w' ∧ Own ER w' w.heap.size 61 v' ls.flatten) := by
  refine Spec.intro Tryd.func54 rfl rfl (Nat.le_of_ble_eq_true rfl) (Mok.start w) ?_
  focus
    refine rsr ?_
    refine oy rfl (yas rfl) ?_
    refine on ?_
    refine pn ?_
    refine rsr ?_
    refine oy rfl (yas rfl) ?_
    refine on ?_
    refine pn ?_
    refine rs_ ?_
    refine rsr ?_
    refine oy rfl (ymv rfl) ?_
    refine oy rfl (yls rfl (sl_arg hv rfl)) ?_
    refine oy rfl (ymv rfl) ?_
    refine on ?_
    refine pn ?_
    refine rb ?_
    rotate_left
  refine loop [3, 11] [0, 9, 10] (fun vs H => ∃ i : Nat, vs = [.int .i64 ((ls.take i).flatten.length : Nat), .int .i64 i] ∧ H = [] ∧ i ≤ ls.length) (fun vs => ls.length - intAt vs 1) rfl rfl (List.Sublist.refl _) ⟨0, by simp, rfl, Nat.zero_le _⟩ ?_
  rintro _ _ w' ⟨i, rfl, rfl, hi⟩
  have hf1 := flat_take_len ls i
  by_cases hil : i < ls.length
  · have hiw : i < ws.length := by omega
    have hf2 := flat_take_s hil
    have hf3 := flat_take_len ls (i + 1)
    rw [hf2, List.length_append] at hf3
    have hl := (hs i hiw).len
    focus
      refine rsr ?_
      refine oy rfl (ybI rfl rfl rfl) ?_
      refine on ?_
      refine pn ?_
      refine rs_ ?_
      refine rcd rfl (fun c1 => ?_) (fun c1 => by exfalso; omega)
      refine rk ?_
      refine pn ?_
      refine rs_ ?_
      refine rb ?_
      refine rsr ?_
      refine oy rfl (yix rfl rfl rfl (sl_arg hv rfl) (by omega)) ?_
      refine oy rfl (yleN rfl rfl (sl_arg hv rfl) (by omega)) ?_
      refine oy rfl (yas rfl) ?_
      refine on ?_
      refine pn ?_
      refine rsr ?_
      refine oy rfl (ymv rfl) ?_
      refine oy rfl (ymv rfl) ?_
      refine oy rfl (yll rfl) ?_
      refine oy rfl (ybW rfl rfl rfl (by omega)) ?_
      refine oy rfl (yas rfl) ?_
      refine on ?_
      refine pn ?_
      refine rsr ?_
      refine oy rfl (ymv rfl) ?_
      refine oy rfl (ybI rfl rfl rfl) ?_
      refine on ?_
      refine pn ?_
      refine rcF rfl ?_
      refine rk ?_
      refine pbn ?_
      refine pn ?_
      refine rr ?_
      refine oy rfl (ybW rfl rfl rfl (by omega)) ?_
      refine oy rfl (ymv rfl) ?_
      refine on ?_
      refine pn ?_
      rotate_left
    refine round (vs := [.int .i64 (((ls.take i).flatten.length : Int) + ws[i].2.1), .int .i64 ((i + 1 : Nat) : Int)]) rfl rfl (List.Sublist.refl _) ⟨i + 1, ?_, rfl, by omega⟩ (by simp [intAt]; omega)
    rw [hf2, hl]; simp
  · focus
      refine rsr ?_
      refine oy rfl (ybI rfl rfl rfl) ?_
      refine on ?_
      refine pn ?_
      refine rs_ ?_
      refine rcd rfl (fun c1 => by exfalso; omega) (fun c1 => ?_)
      refine re ?_
      refine pe ?_
      refine pe ?_
      refine pbe ?_
      refine pn ?_
      refine rsr ?_
      refine oy rfl (ymv rfl) ?_
      refine l0 ?_
      refine oc1 (R := fun v w' => Own ER w' _ 61 v []) rfl rfl (fun hM => Grow_spec _ _ (by omega)) (fun v1 w1 o1 => ⟨ow ER 61 v1 [], o1.rebase (Nat.zero_le _), fun g hg => (o1.base hg).1, ?_⟩)
      refine oy rfl (yas rfl) ?_
      refine on ?_
      refine pn ?_
      refine rs_ ?_
      refine rsr ?_
      refine oy rfl (ymv rfl) ?_
      refine oy rfl (yls rfl (sl_arg hv rfl)) ?_
      refine oy rfl (ymv rfl) ?_
      refine on ?_
      refine pn ?_
      refine rb ?_
      rotate_left
    refine loop [6, 27] [25, 26] (fun vs H => ∃ (i : Nat) (rv : Value), vs = [rv, .int .i64 i] ∧ H = [ow ER 61 rv (ls.take i).flatten] ∧ i ≤ ls.length) (fun vs => ls.length - intAt vs 1) rfl rfl (List.Sublist.refl _) ⟨0, v1, rfl, by simp, Nat.zero_le _⟩ ?_
    rintro _ _ w' ⟨i, rv, rfl, rfl, hi⟩
    have hf1 := flat_take_len ls i
    by_cases hil : i < ls.length
    · have hiw : i < ws.length := by omega
      have hf2 := flat_take_s hil
      have hf3 := flat_take_len ls (i + 1)
      rw [hf2, List.length_append] at hf3
      focus
        refine rsr ?_
        refine oy rfl (ybI rfl rfl rfl) ?_
        refine on ?_
        refine pn ?_
        refine rs_ ?_
        refine rcd rfl (fun c1 => ?_) (fun c1 => by exfalso; omega)
        refine rk ?_
        refine pn ?_
        refine rs_ ?_
        refine rb ?_
        refine rsr ?_
        refine oy rfl (yix rfl rfl rfl (sl_arg hv rfl) (by omega)) ?_
        refine oy rfl (yleN rfl rfl (sl_arg hv rfl) (by omega)) ?_
        refine oy rfl (yas rfl) ?_
        refine on ?_
        refine pn ?_
        refine rr ?_
        refine oy rfl (ymv rfl) ?_
        refine oy rfl (ymv rfl) ?_
        refine l0 ?_
        refine oap 0 rfl rfl rfl rfl rfl (sl_arg (hs i hiw) rfl) (by (try simp only [List.length_append, List.length_take, List.length_drop, List.length_cons, List.length_nil]); omega) rfl (fun v2 w2 => ?_)
        refine oy rfl (yas rfl) ?_
        refine on ?_
        refine pbn ?_
        refine pn ?_
        refine rr ?_
        refine oy rfl (ybW rfl rfl rfl (by omega)) ?_
        refine oy rfl (ymv rfl) ?_
        refine on ?_
        refine pn ?_
        rotate_left
      refine round rfl rfl (List.Sublist.refl _) ⟨i + 1, _, rfl, ?_, by omega⟩ (show ls.length - (i + 1) < ls.length - i by omega)
      rw [hf2]; rfl
    · focus
        refine rsr ?_
        refine oy rfl (ybI rfl rfl rfl) ?_
        refine on ?_
        refine pn ?_
        refine rs_ ?_
        refine rcd rfl (fun c1 => by exfalso; omega) (fun c1 => ?_)
        refine re ?_
        refine pe ?_
        refine pe ?_
        refine pbe ?_
        refine pn ?_
        refine rsr ?_
        refine oy rfl (ymv rfl) ?_
        refine oy rfl (yas rfl) ?_
        refine on ?_
        refine pn ?_
        refine rt ?_
        refine ret_ rfl (fun hM => ?_)
        rotate_left
      have h0 : ls.take i = ls := List.take_of_length_le (by omega)
      have := hM.owned 0 rfl
      rw [h0] at this
      exact ⟨hM.ext, this⟩
theorem Concat_call {n : Nat} {e : Env} {Q : Post} {K : Act → World → Prop} {S : List Nat} {w0 w : World} {H : List Hc} {d : Nat} {ty : TypeId} {ps : String} {af : Array Edge} {gd : Option (Nat × Bool)} {ar : Array Operand} {ts : Array TypeId} {v : Value} {a b c : Tri} {la lb lc : List Rec}
    (hd : Nat.ble (d + 1) n = true) (ha : evs e ar.toList = some [v]) (hv : ∀ w, Mok ⟨S, w0, H⟩ w → Sl EW w v [a, b, c]) (h1 : ∀ w, Mok ⟨S, w0, H⟩ w → Sl ER w (EW.val a) la) (h2 : ∀ w, Mok ⟨S, w0, H⟩ w → Sl ER w (EW.val b) lb) (h3 : ∀ w, Mok ⟨S, w0, H⟩ w → Sl ER w (EW.val c) lc)
    (hb : (la ++ lb ++ lc).length ≤ 1000000) (h : ∀ sv w', WK n K ((d, sv) :: e) ⟨S, w0, ow ER 61 sv (la ++ lb ++ lc) :: H⟩ w') :
    WK n (wo Tryd.prog Q ⟨some d, .call { callee := .value (.func 54), args := ar, argTypes := ts }, ty, ps, af, gd⟩ K) e ⟨S, w0, H⟩ w :=
  ocm hd ha fun hM => (Concat_spec v [a, b, c] [la, lb, lc] w (hv w hM) rfl (fun i hi => by
    match i, hi with
    | 0, _ => exact h1 w hM
    | 1, _ => exact h2 w hM
    | 2, _ => exact h3 w hM) (by simpa [List.append_assoc] using hb) (by simp)).mono fun v w' ⟨he, ho⟩ => ⟨_, hM.addo he ho, by
      have : [la, lb, lc].flatten = la ++ lb ++ lc := by simp
      rw [this]; exact h _ _⟩
/-! ### closures -/
def okQ (q : Que) : Bool := rightName q.name && decide (1 ≤ q.type ∧ q.type ≤ 65535)
theorem checkQ_spec (q : Que) (w : World) (hn : q.name.length ≤ 4294967280) (hz : Zw w) : Spec Tryd.prog 78 [q.val].toArray w (fun v w' => Ext [] w w' ∧ v = .bool (!okQ q)) := by
  refine Spec.intro Tryd.func78 rfl rfl (Nat.le_of_ble_eq_true rfl) (Mok.start w) ?_
  focus
    refine rsr ?_
    refine l0 ?_
    refine obx rfl rfl (fun g1 w1 l1 => ?_)
    refine oy rfl (yas rfl) ?_
    refine on ?_
    refine pn ?_
    refine rsr ?_
    refine oy rfl (yfa rfl) ?_
    refine oy rfl (yld 0 rfl rfl rfl) ?_
    refine l0 ?_
    refine ocd rfl rfl (fun hM => isName_spec _ _ (by omega) (hM.zw hz (by simp))) (fun w2 => ?_)
    refine oy rfl (yno rfl) ?_
    refine oy rfl (ymv rfl) ?_
    refine xb (g := 7) rfl (fun c3 => ?_) (fun c3 => ?_)
    refine ln rfl rfl rfl rfl ?_
    refine ln rfl rfl rfl rfl ?_
    refine ln rfl rfl rfl rfl ?_
    refine ln rfl rfl rfl rfl ?_
    refine oy rfl (ypT rfl rfl) ?_
    refine oy rfl (yas rfl) ?_
    refine on ?_
    refine pn ?_
    refine rt ?_
    refine ret_ rfl (fun hM => ?_)
    rotate_left
    refine oyg rfl rfl rfl (yfa rfl) ?_
    refine oyg rfl rfl rfl (yld 0 rfl rfl rfl) ?_
    refine lg rfl rfl ?_
    refine ocd rfl rfl (fun hM => within_spec _ _ _ _) (fun w4 => ?_)
    refine oyg rfl rfl rfl (yno rfl) ?_
    refine oy rfl (ypF rfl rfl) ?_
    refine oy rfl (yas rfl) ?_
    refine on ?_
    refine pn ?_
    refine rt ?_
    refine ret_ rfl (fun hM => ?_)
    rotate_left
  · refine ⟨hM.ext, ?_⟩
    have h : rightName q.name = false := by simpa using c3
    simp [ret1, okQ, h]
  · refine ⟨hM.ext, ?_⟩
    have h : rightName q.name = true := by simpa using c3
    simp [ret1, okQ, h]
theorem checkR_spec (r : Rec) (w : World) (hn : r.name.length ≤ 4294967280) (hd : r.data.length ≤ 4294967280) (hz : Zw w) : Spec Tryd.prog 80 [r.val].toArray w (fun v w' => Ext [] w w' ∧ v = .bool (!rightRec r)) := by
  refine Spec.intro Tryd.func80 rfl rfl (Nat.le_of_ble_eq_true rfl) (Mok.start w) ?_
  focus
    refine rsr ?_
    refine l0 ?_
    refine obx rfl rfl (fun g1 w1 l1 => ?_)
    refine oy rfl (yas rfl) ?_
    refine on ?_
    refine pn ?_
    refine rsr ?_
    refine oy rfl (ylS 0 rfl rfl rfl) ?_
    refine l0 ?_
    refine ocd rfl rfl (fun hM => Check_spec r _ hn hd (hM.zw hz (by simp))) (fun w2 => ?_)
    refine oy rfl (ybI rfl rfl rfl) ?_
    refine oy rfl (yas rfl) ?_
    refine on ?_
    refine pn ?_
    refine rt ?_
    refine ret_ rfl (fun hM => ?_)
    rotate_left
  refine ⟨hM.ext, ?_⟩
  unfold checkN
  cases h : rightRec r <;> simp [ret1]
theorem idx_none {α : Type} {f : α → Bool} {l : List α} (h : ∀ j (hj : j < l.length), f l[j] = false) : l.findIdx? f = none := List.findIdx?_eq_none_iff.2 fun x hx => by
  obtain ⟨j, hj, rfl⟩ := List.mem_iff_getElem.1 hx
  exact h j hj
theorem idx_some {α : Type} {f : α → Bool} {l : List α} {i : Nat} (hi : i < l.length) (h : ∀ j (hj : j < l.length), j < i → f l[j] = false) (hb : f l[i] = true) : l.findIdx? f = some i :=
  List.findIdx?_eq_some_iff_getElem.2 ⟨hi, hb, fun j hj => by rw [h j (by omega) hj]; simp⟩
def idxF {α : Type} (f : α → Bool) (l : List α) : Int := match l.findIdx? f with
  | some i => i
  | none => -1
theorem idxF_any {α : Type} (f : α → Bool) (l : List α) : decide (0 ≤ idxF f l) = l.any f := by
  unfold idxF
  cases h : l.findIdx? f with
  | none =>
    rw [List.findIdx?_eq_none_iff] at h
    simp
    exact h
  | some i =>
    obtain ⟨hi, hb, _⟩ := List.findIdx?_eq_some_iff_getElem.1 h
    simp
    exact ⟨_, List.getElem_mem hi, hb⟩
theorem IndexQ_spec (v : Value) (l : List Que) (w : World) (hv : Sl EQ w v l) (hb : l.length ≤ 1000000) (hn : ∀ q ∈ l, q.name.length ≤ 4294967280) (hz : Zw w) :
    Spec Tryd.prog 101 [v, .func (.func 78) #[] #[]].toArray w (fun v' w' => Ext [] w w' ∧ v' = .int .i64 (idxF (fun q => !okQ q) l)) := by
  refine Spec.intro Tryd.func101 rfl rfl (Nat.le_of_ble_eq_true rfl) (Mok.start w) ?_
  focus
    refine rsr ?_
    refine oy rfl (yas rfl) ?_
    refine on ?_
    refine pn ?_
    refine rs_ ?_
    refine rsr ?_
    refine oy rfl (ymv rfl) ?_
    refine oy rfl (yls rfl (sl_arg hv rfl)) ?_
    refine oy rfl (ymv rfl) ?_
    refine on ?_
    refine pn ?_
    refine rb ?_
    rotate_left
  refine loop [8] [0, 1, 7] (fun vs H => ∃ i : Nat, vs = [.int .i64 i] ∧ H = [] ∧ i ≤ l.length ∧ ∀ j (hj : j < l.length), j < i → (!okQ l[j]) = false) (fun vs => l.length - intAt vs 0) rfl rfl (List.Sublist.refl _) ⟨0, rfl, rfl, Nat.zero_le _, fun j hj h => by omega⟩ ?_
  rintro _ _ w' ⟨i, rfl, rfl, hi, hok⟩
  by_cases hil : i < l.length
  · have hm := hn _ (List.getElem_mem hil)
    focus
      refine rsr ?_
      refine oy rfl (ybI rfl rfl rfl) ?_
      refine on ?_
      refine pn ?_
      refine rs_ ?_
      refine rcd rfl (fun c1 => ?_) (fun c1 => by exfalso; omega)
      refine rk ?_
      refine pn ?_
      refine rs_ ?_
      refine rb ?_
      refine rsr ?_
      refine oy rfl (ymv rfl) ?_
      refine oy rfl (yas rfl) ?_
      refine on ?_
      refine pn ?_
      refine rsr ?_
      refine oy rfl (ymv rfl) ?_
      refine oy rfl (ymv rfl) ?_
      refine oy rfl (ymv rfl) ?_
      refine oy rfl (yix rfl rfl rfl (sl_arg hv rfl) (by omega)) ?_
      refine oy rfl (yleN rfl rfl (sl_arg hv rfl) (by omega)) ?_
      refine l0 ?_
      refine ocdv rfl rfl rfl (fun hM => checkQ_spec _ _ (by omega) (hM.zw hz (by simp))) (fun w2 => ?_)
      refine on ?_
      refine pn ?_
      refine rc rfl (fun c3 => ?_) (fun c3 => ?_)
      refine rsr ?_
      refine oy rfl (ymv rfl) ?_
      refine oy rfl (yas rfl) ?_
      refine on ?_
      refine pn ?_
      refine rt ?_
      refine pbr ?_
      refine pr ?_
      refine pr ?_
      refine pbr ?_
      refine pr ?_
      refine ret_ rfl (fun hM => ?_)
      rotate_left
      refine rk ?_
      refine pbn ?_
      refine pn ?_
      refine rr ?_
      refine oy rfl (ybW rfl rfl rfl (by omega)) ?_
      refine oy rfl (ymv rfl) ?_
      refine on ?_
      refine pn ?_
      rotate_left
    · exact ⟨hM.ext, by unfold idxF; rw [idx_some hil hok (by assumption)]; rfl⟩
    · refine round rfl rfl (List.Sublist.refl _) ⟨i + 1, rfl, rfl, by omega, fun j hj hji => ?_⟩ (show l.length - (i + 1) < l.length - i by omega)
      rcases Nat.lt_or_ge j i with h | h
      · exact hok j hj h
      · have : j = i := by omega
        subst this; assumption
  · focus
      refine rsr ?_
      refine oy rfl (ybI rfl rfl rfl) ?_
      refine on ?_
      refine pn ?_
      refine rs_ ?_
      refine rcd rfl (fun c1 => by exfalso; omega) (fun c1 => ?_)
      refine re ?_
      refine pe ?_
      refine pe ?_
      refine pbe ?_
      refine pn ?_
      refine rsr ?_
      refine oy rfl (yas rfl) ?_
      refine on ?_
      refine pn ?_
      refine rt ?_
      refine ret_ rfl (fun hM => ?_)
      rotate_left
    exact ⟨hM.ext, by unfold idxF; rw [idx_none (fun j hj => hok j hj (by omega))]; rfl⟩
theorem IndexR_spec (v : Value) (l : List Rec) (w : World) (hv : Sl ER w v l) (hb : l.length ≤ 1000000) (hn : ∀ r ∈ l, r.name.length ≤ 4294967280 ∧ r.data.length ≤ 4294967280) (hz : Zw w) :
    Spec Tryd.prog 102 [v, .func (.func 80) #[] #[]].toArray w (fun v' w' => Ext [] w w' ∧ v' = .int .i64 (idxF (fun r => !rightRec r) l)) := by
  refine Spec.intro Tryd.func102 rfl rfl (Nat.le_of_ble_eq_true rfl) (Mok.start w) ?_
  focus
    refine rsr ?_
    refine oy rfl (yas rfl) ?_
    refine on ?_
    refine pn ?_
    refine rs_ ?_
    refine rsr ?_
    refine oy rfl (ymv rfl) ?_
    refine oy rfl (yls rfl (sl_arg hv rfl)) ?_
    refine oy rfl (ymv rfl) ?_
    refine on ?_
    refine pn ?_
    refine rb ?_
    rotate_left
  refine loop [8] [0, 1, 7] (fun vs H => ∃ i : Nat, vs = [.int .i64 i] ∧ H = [] ∧ i ≤ l.length ∧ ∀ j (hj : j < l.length), j < i → (!rightRec l[j]) = false) (fun vs => l.length - intAt vs 0) rfl rfl (List.Sublist.refl _) ⟨0, rfl, rfl, Nat.zero_le _, fun j hj h => by omega⟩ ?_
  rintro _ _ w' ⟨i, rfl, rfl, hi, hok⟩
  by_cases hil : i < l.length
  · have hm := hn _ (List.getElem_mem hil)
    focus
      refine rsr ?_
      refine oy rfl (ybI rfl rfl rfl) ?_
      refine on ?_
      refine pn ?_
      refine rs_ ?_
      refine rcd rfl (fun c1 => ?_) (fun c1 => by exfalso; omega)
      refine rk ?_
      refine pn ?_
      refine rs_ ?_
      refine rb ?_
      refine rsr ?_
      refine oy rfl (ymv rfl) ?_
      refine oy rfl (yas rfl) ?_
      refine on ?_
      refine pn ?_
      refine rsr ?_
      refine oy rfl (ymv rfl) ?_
      refine oy rfl (ymv rfl) ?_
      refine oy rfl (ymv rfl) ?_
      refine oy rfl (yix rfl rfl rfl (sl_arg hv rfl) (by omega)) ?_
      refine oy rfl (yleN rfl rfl (sl_arg hv rfl) (by omega)) ?_
      refine l0 ?_
      refine ocdv rfl rfl rfl (fun hM => checkR_spec _ _ hm.1 hm.2 (hM.zw hz (by simp))) (fun w2 => ?_)
      refine on ?_
      refine pn ?_
      refine rc rfl (fun c3 => ?_) (fun c3 => ?_)
      refine rsr ?_
      refine oy rfl (ymv rfl) ?_
      refine oy rfl (yas rfl) ?_
      refine on ?_
      refine pn ?_
      refine rt ?_
      refine pbr ?_
      refine pr ?_
      refine pr ?_
      refine pbr ?_
      refine pr ?_
      refine ret_ rfl (fun hM => ?_)
      rotate_left
      refine rk ?_
      refine pbn ?_
      refine pn ?_
      refine rr ?_
      refine oy rfl (ybW rfl rfl rfl (by omega)) ?_
      refine oy rfl (ymv rfl) ?_
      refine on ?_
      refine pn ?_
      rotate_left
    · exact ⟨hM.ext, by unfold idxF; rw [idx_some hil hok (by assumption)]; rfl⟩
    · refine round rfl rfl (List.Sublist.refl _) ⟨i + 1, rfl, rfl, by omega, fun j hj hji => ?_⟩ (show l.length - (i + 1) < l.length - i by omega)
      rcases Nat.lt_or_ge j i with h | h
      · exact hok j hj h
      · have : j = i := by omega
        subst this; assumption
  · focus
      refine rsr ?_
      refine oy rfl (ybI rfl rfl rfl) ?_
      refine on ?_
      refine pn ?_
      refine rs_ ?_
      refine rcd rfl (fun c1 => by exfalso; omega) (fun c1 => ?_)
      refine re ?_
      refine pe ?_
      refine pe ?_
      refine pbe ?_
      refine pn ?_
      refine rsr ?_
      refine oy rfl (yas rfl) ?_
      refine on ?_
      refine pn ?_
      refine rt ?_
      refine ret_ rfl (fun hM => ?_)
      rotate_left
    exact ⟨hM.ext, by unfold idxF; rw [idx_none (fun j hj => hok j hj (by omega))]; rfl⟩
theorem ContainsQ_spec (v : Value) (l : List Que) (w : World) (hv : Sl EQ w v l) (hb : l.length ≤ 1000000) (hn : ∀ q ∈ l, q.name.length ≤ 4294967280) (hz : Zw w) :
    Spec Tryd.prog 77 [v, .func (.func 78) #[] #[]].toArray w (fun v' w' => Ext [] w w' ∧ v' = .bool (l.any fun q => !okQ q)) := by
  refine Spec.intro Tryd.func77 rfl rfl (Nat.le_of_ble_eq_true rfl) (Mok.start w) ?_
  focus
    refine rsr ?_
    refine oy rfl (yas rfl) ?_
    refine on ?_
    refine pn ?_
    refine rsr ?_
    refine oy rfl (ymv rfl) ?_
    refine oy rfl (ymv rfl) ?_
    refine l0 ?_
    refine ocd rfl rfl (fun hM => IndexQ_spec v l _ (sl_arg hv rfl _ hM) hb hn (hM.zw hz (by simp))) (fun w1 => ?_)
    refine oy rfl (ybI rfl rfl rfl) ?_
    refine oy rfl (yas rfl) ?_
    refine on ?_
    refine pn ?_
    refine rt ?_
    refine ret_ rfl (fun hM => ?_)
    rotate_left
  exact ⟨hM.ext, by rw [← idxF_any]; rfl⟩
theorem ContainsR_spec (v : Value) (l : List Rec) (w : World) (hv : Sl ER w v l) (hb : l.length ≤ 1000000) (hn : ∀ r ∈ l, r.name.length ≤ 4294967280 ∧ r.data.length ≤ 4294967280) (hz : Zw w) :
    Spec Tryd.prog 79 [v, .func (.func 80) #[] #[]].toArray w (fun v' w' => Ext [] w w' ∧ v' = .bool (l.any fun r => !rightRec r)) := by
  refine Spec.intro Tryd.func79 rfl rfl (Nat.le_of_ble_eq_true rfl) (Mok.start w) ?_
  focus
    refine rsr ?_
    refine oy rfl (yas rfl) ?_
    refine on ?_
    refine pn ?_
    refine rsr ?_
    refine oy rfl (ymv rfl) ?_
    refine oy rfl (ymv rfl) ?_
    refine l0 ?_
    refine ocd rfl rfl (fun hM => IndexR_spec v l _ (sl_arg hv rfl _ hM) hb hn (hM.zw hz (by simp))) (fun w1 => ?_)
    refine oy rfl (ybI rfl rfl rfl) ?_
    refine oy rfl (yas rfl) ?_
    refine on ?_
    refine pn ?_
    refine rt ?_
    refine ret_ rfl (fun hM => ?_)
    rotate_left
  exact ⟨hM.ext, by rw [← idxF_any]; rfl⟩
end Go.Proofs.YtkhlmpkodjoioaaDoor
