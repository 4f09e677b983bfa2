/- Claims: what a message among the arguments is. -/
import Derived.Test.YtkhlmpkodjoioaaDoorCg
import Derived.Test.YtkhlmpkodjoioaaDoorN29
import Derived.ChangeArms
import Derived.Deep.Slices
set_option linter.unusedVariables false
set_option linter.unusedSimpArgs false
set_option maxRecDepth 100000
namespace Go.Proofs.YtkhlmpkodjoioaaDoor
open Go.ChangeShapes Go.WideShapes Go.ChangeAt Go.RowKit
theorem bulk_mem {H : Type} {d : DataW H} : ∀ {l : List (DataW H)}, d ∈ l → Rows.uptoBulk d ≤ Rows.uptoBulkAll l
  | [], h => by cases h
  | a :: l, h => by
    unfold Rows.uptoBulkAll
    rcases List.mem_cons.1 h with rfl | h
    · omega
    · have := bulk_mem h; omega
theorem bulk_agg {H : Type} (l : List (DataW H)) : Rows.uptoBulk (.agg l) = Rows.uptoBulkAll l + 1 := by unfold Rows.uptoBulk; rfl
theorem bulk_slice {H : Type} (l r : List (DataW H)) : Rows.uptoBulk (.slice l r) = Rows.uptoBulkAll l + Rows.uptoBulkAll r + 1 := by unfold Rows.uptoBulk; rfl
theorem bulk_str {H : Type} (b : List UInt8) : Rows.uptoBulk (DataW.lit (H := H) (.string b)) = b.length + 1 := by unfold Rows.uptoBulk; rfl
section
variable {H : Type} {enc : TypeId × Value → H} {W : World} {b n : Nat} {sp : Nat → Bool} {hd : Bool} {x : DataW H × List MemPlace}
theorem c_str : Tryd.prog.cellsOf 9 = 1 := by kernel_rfl
theorem c_int : Tryd.prog.cellsOf 3 = 1 := by kernel_rfl
theorem c_rec : Tryd.prog.cellsOf 61 = 4 := by kernel_rfl
theorem c_que : Tryd.prog.cellsOf 42 = 2 := by kernel_rfl
theorem open_rec {cs : List Value} (h : DataW.trod enc Tryd.prog W b sp hd n 61 cs = some x) : ∃ r : Rec, cs = (ER.val r).cells.toList ∧ r.name.length ≤ Rows.uptoBulk x.1 ∧ r.data.length ≤ Rows.uptoBulk x.1 := by
  obtain ⟨xs, k, rfl, hx, hlen, hxl, hf⟩ := DataW.trod_struct Tryd.underlying61 h
  rw [c_rec] at hlen
  have f0 : DataW.trod enc Tryd.prog W b sp hd k 9 ((cs.drop 0).take (Tryd.prog.cellsOf 9)) = xs[0]? := hf 0 _ rfl
  have f1 : DataW.trod enc Tryd.prog W b sp hd k 3 ((cs.drop 1).take (Tryd.prog.cellsOf 3)) = xs[1]? := hf 1 _ rfl
  have f2 : DataW.trod enc Tryd.prog W b sp hd k 3 ((cs.drop 2).take (Tryd.prog.cellsOf 3)) = xs[2]? := hf 2 _ rfl
  have f3 : DataW.trod enc Tryd.prog W b sp hd k 9 ((cs.drop 3).take (Tryd.prog.cellsOf 9)) = xs[3]? := hf 3 _ rfl
  rw [c_str] at f0 f3
  rw [c_int] at f1 f2
  match cs, hlen, xs, hxl with
  | [c0, c1, c2, c3], _, [x0, x1, x2, x3], _ =>
    obtain ⟨s0, e0, d0, -⟩ := DataW.trod_string (x := x0) Tryd.underlying9 (by simpa using f0)
    obtain ⟨z1, e1, d1, -⟩ := DataW.trod_int (x := x1) Tryd.underlying3 (by simpa using f1)
    obtain ⟨z2, e2, d2, -⟩ := DataW.trod_int (x := x2) Tryd.underlying3 (by simpa using f2)
    obtain ⟨s3, e3, d3, -⟩ := DataW.trod_string (x := x3) Tryd.underlying9 (by simpa using f3)
    cases e0; cases e1; cases e2; cases e3
    subst d0 d1 d2 d3
    refine ⟨⟨bs s0, z1, z2, bs s3⟩, rfl, ?_, ?_⟩
    · have h1 := bulk_mem (d := DataW.lit (H := H) (.string s0.data.toList)) (l := [.lit (.string s0.data.toList), .lit (.int .i64 z1), .lit (.int .i64 z2), .lit (.string s3.data.toList)]) (by simp)
      rw [hx]
      show (bs s0).length ≤ Rows.uptoBulk (.agg [.lit (.string s0.data.toList), .lit (.int .i64 z1), .lit (.int .i64 z2), .lit (.string s3.data.toList)])
      rw [bulk_str] at h1
      rw [bulk_agg]
      show s0.data.toList.length ≤ _
      omega
    · have h1 := bulk_mem (d := DataW.lit (H := H) (.string s3.data.toList)) (l := [.lit (.string s0.data.toList), .lit (.int .i64 z1), .lit (.int .i64 z2), .lit (.string s3.data.toList)]) (by simp)
      rw [hx]
      show (bs s3).length ≤ Rows.uptoBulk (.agg [.lit (.string s0.data.toList), .lit (.int .i64 z1), .lit (.int .i64 z2), .lit (.string s3.data.toList)])
      rw [bulk_str] at h1
      rw [bulk_agg]
      show s3.data.toList.length ≤ _
      omega
theorem open_que {cs : List Value} (h : DataW.trod enc Tryd.prog W b sp hd n 42 cs = some x) : ∃ q : Que, cs = (EQ.val q).cells.toList ∧ q.name.length ≤ Rows.uptoBulk x.1 := by
  obtain ⟨xs, k, rfl, hx, hlen, hxl, hf⟩ := DataW.trod_struct Tryd.underlying42 h
  rw [c_que] at hlen
  have f0 : DataW.trod enc Tryd.prog W b sp hd k 9 ((cs.drop 0).take (Tryd.prog.cellsOf 9)) = xs[0]? := hf 0 _ rfl
  have f1 : DataW.trod enc Tryd.prog W b sp hd k 3 ((cs.drop 1).take (Tryd.prog.cellsOf 3)) = xs[1]? := hf 1 _ rfl
  rw [c_str] at f0
  rw [c_int] at f1
  match cs, hlen, xs, hxl with
  | [c0, c1], _, [x0, x1], _ =>
    obtain ⟨s0, e0, d0, -⟩ := DataW.trod_string (x := x0) Tryd.underlying9 (by simpa using f0)
    obtain ⟨z1, e1, d1, -⟩ := DataW.trod_int (x := x1) Tryd.underlying3 (by simpa using f1)
    cases e0; cases e1
    subst d0 d1
    refine ⟨⟨bs s0, z1⟩, rfl, ?_⟩
    have h1 := bulk_mem (d := DataW.lit (H := H) (.string s0.data.toList)) (l := [.lit (.string s0.data.toList), .lit (.int .i64 z1)]) (by simp)
    rw [hx]
    show (bs s0).length ≤ Rows.uptoBulk (.agg [.lit (.string s0.data.toList), .lit (.int .i64 z1)])
    rw [bulk_str] at h1
    rw [bulk_agg]
    show s0.data.toList.length ≤ _
    omega
theorem list_of {α : Type} {p : Nat → α → Prop} : ∀ (len : Nat), (∀ i, i < len → ∃ r, p i r) → ∃ l : List α, l.length = len ∧ ∀ i (h : i < l.length), p i l[i]
  | 0, _ => ⟨[], rfl, fun i h => by simp at h⟩
  | len + 1, h => by
    obtain ⟨l, hl, hp⟩ := list_of len fun i hi => h i (by omega)
    obtain ⟨r, hr⟩ := h len (by omega)
    refine ⟨l ++ [r], by simp [hl], fun i hi => ?_⟩
    rcases Nat.lt_or_ge i l.length with h1 | h1
    · rw [List.getElem_append_left h1]; exact hp i h1
    · have : i = len := by simp at hi; omega
      subst this
      rw [List.getElem_append_right (by omega)]
      simpa using hr
theorem at_of {α : Type} {E : En α} {g : Nat} : ∀ (l : List α) (off : Nat), (∀ i (h : i < l.length) (j : Nat) (u : Value), (E.val l[i]).cells.toList[j]? = some u → W.cell? ⟨g, off + i * E.k + j, none⟩ = some u) → At W g off (cl E l)
  | [], off, _ => fun j u hj => by simp [cl] at hj
  | x :: l, off, h => by
    rw [cl_cons]
    refine At.append (fun j u hj => by simpa using h 0 (by simp) j u hj) ?_
    refine at_of l _ fun i hi j u hj => ?_
    have := h (i + 1) (by simpa using hi) j u (by simpa using hj)
    rw [Array.length_toList, E.len]
    rw [Nat.add_mul, Nat.one_mul] at this
    rw [← this]
    congr 2
    omega
theorem sl_open {α : Type} (E : En α) {ts te : TypeId} {v : Value} (f : α → Nat) (ht : Tryd.prog.underlying ts = some (.slice te)) (hc : Tryd.prog.cellsOf te = E.k)
    (hop : ∀ {n : Nat} {cs : List Value} {x : DataW H × List MemPlace}, DataW.trod enc Tryd.prog W 0 (fun _ => true) true n te cs = some x → ∃ r : α, cs = (E.val r).cells.toList ∧ f r ≤ Rows.uptoBulk x.1)
    (hok : Cell.okWide Tryd.prog W .any b ts v) (h : DataW.trod enc Tryd.prog W 0 (fun _ => true) true n ts [v] = some x) : ∃ p l, v = EW.val p ∧ Sl E W (EW.val p) l ∧ (∀ r ∈ l, f r ≤ Rows.uptoBulk x.1) := by
  rcases _root_.Go.Deep.open_slice ht h with ⟨h0, hx⟩ | ⟨a, len, cap, m, k, D, Pl, h0, hb, hlc, hcm, hm, hx, hel⟩
  · cases h0
    exact ⟨(none, 0, 0), [], rfl, Sl.nil W, fun r hr => by cases hr⟩
  · cases h0
    have hspot : a.spot = none := by
      unfold Cell.okWide Cell.ok at hok
      rw [ht] at hok
      exact hok.2.2.2.1
    obtain ⟨g, off, sp'⟩ := a
    simp only at hspot
    subst hspot
    rw [if_pos rfl] at hm
    obtain ⟨l, hl, hp⟩ := list_of (p := fun i (r : α) => (∀ (j : Nat) (u : Value), (E.val r).cells.toList[j]? = some u → W.cell? ⟨g, off + i * E.k + j, none⟩ = some u) ∧ f r ≤ Rows.uptoBulk (D i)) len fun i hi => by
      obtain ⟨cs', h1, h2⟩ := hel i (by omega)
      obtain ⟨r, hr, hfr⟩ := hop h2
      obtain ⟨_, hl', hcell⟩ := World.cells?_some h1
      refine ⟨r, fun j u hj => ?_, hfr⟩
      rw [← hr] at hj
      have hjl : j < Tryd.prog.cellsOf te := by rw [← hl']; exact (List.getElem?_eq_some_iff.1 hj).1
      have := hcell j hjl
      rw [hj, hc, addr_add, addr_add] at this
      exact this
    refine ⟨(some ⟨g, off, none⟩, len, cap), l, rfl, ⟨some ⟨g, off, none⟩, cap, by rw [hl]; rfl, by omega, hcm, .inr ⟨g, off, rfl, at_of l off fun i hi => (hp i hi).1⟩⟩, fun r hr => ?_⟩
    obtain ⟨i, hi, rfl⟩ := List.mem_iff_getElem.1 hr
    refine Nat.le_trans (hp i hi).2 ?_
    rw [hx, bulk_slice]
    have := bulk_mem (d := D i) (l := (List.range len).map D) (List.mem_map.2 ⟨i, by simp; omega, rfl⟩)
    omega
theorem okWide_bool {P : Program} {w : World} {r : Reach} {b : Nat} {t : TypeId} {v : Value} (ht : P.underlying t = some .bool) (h : Cell.okWide P w r b t v) : ∃ z, v = .bool z := by
  unfold Cell.okWide Cell.ok at h
  rw [ht] at h
  cases v <;> simp at h
  exact ⟨_, rfl⟩
theorem list12 {α : Type} : ∀ {l : List α}, l.length = 12 → ∃ a0 a1 a2 a3 a4 a5 a6 a7 a8 a9 a10 a11, l = [a0, a1, a2, a3, a4, a5, a6, a7, a8, a9, a10, a11]
  | [a0, a1, a2, a3, a4, a5, a6, a7, a8, a9, a10, a11], _ => ⟨a0, a1, a2, a3, a4, a5, a6, a7, a8, a9, a10, a11, rfl⟩
theorem c_ques : Tryd.prog.cellsOf 43 = 1 := by kernel_rfl
theorem c_recs : Tryd.prog.cellsOf 44 = 1 := by kernel_rfl
theorem open_msg {v : Value} {d : DataW H} {ps : List MemPlace} (hok : Value.okWide Tryd.prog W .any b 46 v) (h : DataW.Trod enc Tryd.prog W 0 (fun _ => true) true 46 v d ps) :
    ∃ m s, v = m.val s ∧ MsgIn W m s ∧ (∀ q ∈ m.ask, q.name.length ≤ Rows.uptoBulk d) ∧ (∀ r ∈ m.all, r.name.length ≤ Rows.uptoBulk d ∧ r.data.length ≤ Rows.uptoBulk d) := by
  unfold Value.okWide at hok
  rw [Tryd.underlying46] at hok
  obtain ⟨cs, rfl, hsz, ts, hts, -, hc⟩ := hok
  have h12 : Tryd.prog.cellsOf 46 = 12 := by kernel_rfl
  have ht2 : Tryd.prog.cellTypes Tryd.prog.depth 46 = some [3, 4, 3, 4, 4, 4, 4, 3, 43, 44, 44, 44] := by kernel_rfl
  rw [h12] at hsz
  rw [ht2] at hts
  cases hts
  obtain ⟨fuel, h⟩ := h
  obtain ⟨xs, k, rfl, hx, hlen, hxl, hf⟩ := DataW.trod_struct Tryd.underlying46 h
  have hd : d = .agg (xs.map (·.1)) := congrArg Prod.fst hx
  obtain ⟨l⟩ := cs
  have g : ∀ i (hi : i < 12), ∃ u, [3, 4, 3, 4, 4, 4, 4, 3, 43, 44, 44, 44][i % 12]? = some u ∧ Cell.okWide Tryd.prog W .any b u (l[i]'(by simp at hsz; omega)) := fun i hi => hc i _ (by simp)
  have f8 : DataW.trod enc Tryd.prog W 0 (fun _ => true) true k 43 ((l.drop 8).take (Tryd.prog.cellsOf 43)) = xs[8]? := hf 8 _ rfl
  have f9 : DataW.trod enc Tryd.prog W 0 (fun _ => true) true k 44 ((l.drop 9).take (Tryd.prog.cellsOf 44)) = xs[9]? := hf 9 _ rfl
  have f10 : DataW.trod enc Tryd.prog W 0 (fun _ => true) true k 44 ((l.drop 10).take (Tryd.prog.cellsOf 44)) = xs[10]? := hf 10 _ rfl
  have f11 : DataW.trod enc Tryd.prog W 0 (fun _ => true) true k 44 ((l.drop 11).take (Tryd.prog.cellsOf 44)) = xs[11]? := hf 11 _ rfl
  clear hf h hc
  obtain ⟨c0, c1, c2, c3, c4, c5, c6, c7, c8, c9, c10, c11, rfl⟩ := list12 (by simpa using hsz : l.length = 12)
  obtain ⟨x0, x1, x2, x3, x4, x5, x6, x7, x8, x9, x10, x11, rfl⟩ := list12 (by simpa using hxl : xs.length = 12)
  obtain ⟨u0, e0, k0⟩ := g 0 (by omega)
  obtain ⟨u1, e1, k1⟩ := g 1 (by omega)
  obtain ⟨u2, e2, k2⟩ := g 2 (by omega)
  obtain ⟨u3, e3, k3⟩ := g 3 (by omega)
  obtain ⟨u4, e4, k4⟩ := g 4 (by omega)
  obtain ⟨u5, e5, k5⟩ := g 5 (by omega)
  obtain ⟨u6, e6, k6⟩ := g 6 (by omega)
  obtain ⟨u7, e7, k7⟩ := g 7 (by omega)
  obtain ⟨u8, e8, k8⟩ := g 8 (by omega)
  obtain ⟨u9, e9, k9⟩ := g 9 (by omega)
  obtain ⟨u10, e10, k10⟩ := g 10 (by omega)
  obtain ⟨u11, e11, k11⟩ := g 11 (by omega)
  cases e0; cases e1; cases e2; cases e3; cases e4; cases e5; cases e6; cases e7; cases e8; cases e9; cases e10; cases e11
  obtain ⟨z0, j0⟩ := okWide_int Tryd.underlying3 k0
  obtain ⟨z1, j1⟩ := okWide_bool Tryd.underlying4 k1
  obtain ⟨z2, j2⟩ := okWide_int Tryd.underlying3 k2
  obtain ⟨z3, j3⟩ := okWide_bool Tryd.underlying4 k3
  obtain ⟨z4, j4⟩ := okWide_bool Tryd.underlying4 k4
  obtain ⟨z5, j5⟩ := okWide_bool Tryd.underlying4 k5
  obtain ⟨z6, j6⟩ := okWide_bool Tryd.underlying4 k6
  obtain ⟨z7, j7⟩ := okWide_int Tryd.underlying3 k7
  rw [c_ques] at f8
  rw [c_recs] at f9 f10 f11
  obtain ⟨p8, l8, v8, sl8, n8⟩ := sl_open (x := x8) EQ (fun q : Que => q.name.length) Tryd.underlying43 c_que (fun hh => open_que hh) k8 (by simpa using f8)
  have opr : ∀ {n : Nat} {cs : List Value} {x : DataW H × List MemPlace}, DataW.trod enc Tryd.prog W 0 (fun _ => true) true n 61 cs = some x → ∃ r : Rec, cs = (ER.val r).cells.toList ∧ max r.name.length r.data.length ≤ Rows.uptoBulk x.1 := fun hh => by
    obtain ⟨r, h1, h2, h3⟩ := open_rec hh
    exact ⟨r, h1, by omega⟩
  obtain ⟨p9, l9, v9, sl9, n9⟩ := sl_open (x := x9) ER (fun r : Rec => max r.name.length r.data.length) Tryd.underlying44 c_rec opr k9 (by simpa using f9)
  obtain ⟨p10, l10, v10, sl10, n10⟩ := sl_open (x := x10) ER (fun r : Rec => max r.name.length r.data.length) Tryd.underlying44 c_rec opr k10 (by simpa using f10)
  obtain ⟨p11, l11, v11, sl11, n11⟩ := sl_open (x := x11) ER (fun r : Rec => max r.name.length r.data.length) Tryd.underlying44 c_rec opr k11 (by simpa using f11)
  simp only [List.getElem_cons_zero, List.getElem_cons_succ] at j0 j1 j2 j3 j4 j5 j6 j7
  subst j0 j1 j2 j3 j4 j5 j6 j7 v8 v9 v10 v11
  have hmem : ∀ y ∈ [x0, x1, x2, x3, x4, x5, x6, x7, x8, x9, x10, x11], Rows.uptoBulk y.1 ≤ Rows.uptoBulk d := fun y hy => by
    rw [hd, bulk_agg]
    have := bulk_mem (d := y.1) (List.mem_map_of_mem (f := (·.1)) hy)
    omega
  refine ⟨⟨z0, z1, z2, z3, z4, z5, z6, z7, l8, l9, l10, l11⟩, ⟨p8, p9, p10, p11⟩, rfl, ⟨sl8, sl9, sl10, sl11⟩, fun q hq => Nat.le_trans (n8 q hq) (hmem x8 (by simp)), fun r hr => ?_⟩
  have hb : max r.name.length r.data.length ≤ Rows.uptoBulk d := by
    rcases List.mem_append.1 hr with hr | hr
    · rcases List.mem_append.1 hr with hr | hr
      · exact Nat.le_trans (n9 r hr) (hmem x9 (by simp))
      · exact Nat.le_trans (n10 r hr) (hmem x10 (by simp))
    · exact Nat.le_trans (n11 r hr) (hmem x11 (by simp))
  omega
end
end Go.Proofs.YtkhlmpkodjoioaaDoor
