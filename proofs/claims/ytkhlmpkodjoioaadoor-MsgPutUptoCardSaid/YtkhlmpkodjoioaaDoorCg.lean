/- What all claims share: the world of the witness, what stays of the arguments, the library's variable. -/
import Derived.Test.YtkhlmpkodjoioaaDoorCards
import Derived.Test.YtkhlmpkodjoioaaDoorTie
import Derived.Test.YtkhlmpkodjoioaaDoorN20
import Derived.WalkKit
import Derived.ProofKit
import Derived.OpenShut
import Derived.Carry
import Derived.Deep.DeepHandedRow
import Derived.Lib.LaidIn
import Derived.Lib.LaidU8
set_option linter.unusedVariables false
set_option linter.unusedSimpArgs false
set_option maxRecDepth 100000
namespace Go.Proofs.YtkhlmpkodjoioaaDoor
open Go.ChangeShapes Go.WideShapes Go.ChangeAt Go.RowKit
theorem own : ownKnob Tryd.prog.godebug = none := by kernel_rfl
theorem laidOut : laidOutB Tryd.prog = true := by kernel_rfl
/-- The settled world, the tables holding what their initialisers lay. -/
noncomputable def laidWorld (os : Os) : World :=
  let w0 := World.holding Tryd.prog os ⟨#[], #[], []⟩
  let put (h : Array Obj) (g : Nat) (cs : Array Value) : Array Obj := h.modify g fun
    | .cells _ t frozen => .cells cs t frozen
    | o => o
  let h1 := put w0.heap 1 (Lib.firstTab.map fun z => Value.int .u8 z).toArray
  let h2 := put h1 2 ((List.range 16).flatMap fun i => [Value.int .u8 (Lib.accLo i), Value.int .u8 (Lib.accHi i)]).toArray
  { w0 with heap := h2 }
theorem zw_of {W : World} (h : W.ShapedOpen Tryd.prog) : Zw W := Tryd.laysM146.s1_3 W h
theorem trodAll_stays {P : Program} {H : Type} {enc : TypeId × Value → H} (hl : laidOutB P = true) {W W' : World} (hb : Below W.heap.size W W') {sp' : Nat → Bool} : ∀ {ts : List TypeId} {vs : List Value} {ds : List (DataW H)} {ps : List MemPlace},
    (∀ t ∈ ts, P.readableRec t = true ∧ t < P.types.size) → DataW.TrodAll enc P W 0 (fun _ => true) true ts vs ds ps → (∀ p ∈ ps, p.block < W.heap.size) → (∀ p ∈ ps, sp' p.block = true) → DataW.TrodAll enc P W' 0 sp' true ts vs ds ps
  | [], vs, ds, ps, _, h, _, _ => by
    obtain ⟨rfl, rfl, rfl⟩ := trodAll_nil h
    exact trodAll_mk0
  | t :: ts, vs, ds, ps, ht, h, hlt, hs => by
    obtain ⟨v, vs', d, ds', p, q, rfl, rfl, rfl, h0, h1⟩ := trodAll_cons h
    exact trodAll_cons_mk (WideElems.Trod_stays hl (ht t (.head _)).1 (ht t (.head _)).2 h0 (fun x hx => hb.same (hlt x (List.mem_append.2 (.inl hx)))) (fun x hx => hs x (List.mem_append.2 (.inl hx))))
      (trodAll_stays hl hb (fun u hu => ht u (.tail _ hu)) h1 (fun x hx => hlt x (List.mem_append.2 (.inr hx))) (fun x hx => hs x (List.mem_append.2 (.inr hx))))
/-- A law that says true and leaves what was there as it was. -/
theorem law_post {H : Type} {enc : TypeId × Value → H} {P : Program} {fn : Func} {s : ChangeSpec} {W W' : World} {args : Array Value} {ds gs : List (DataW H)} {before : List MemPlace} {tb : TypeId} (hl : laidOutB P = true)
    (hts : ∀ t ∈ fn.params.toList, P.readableRec t = true ∧ t < P.types.size) (hrt : fn.resultTypes = #[tb]) (hb : P.underlying tb = some .bool) (hvars : s.vars = []) (hW : DataW.Whole enc P fn.params.toList s.vars false W args.toList ds gs before)
    (hfn : s.fn H (ds ++ []) = { results := [.lit (.bool true)], args := ds }) (bel : Below W.heap.size W W') : s.post enc P fn false true false false W args (.bool true) W' := by
  have hW' := hW
  obtain ⟨p, q, hA, hV, rfl, hfz, hnd⟩ := hW
  rw [hvars] at hV
  obtain ⟨rfl, rfl⟩ := trodVars_none hV
  have hlt : ∀ x ∈ p, x.block < W.heap.size := fun x hx => by simpa using hW'.lt x (List.mem_append.2 (.inl hx))
  refine ⟨ds, [], p ++ [], [], p, [], hW', ?_, ?_, ?_, bel.frame _, fun h => by cases h⟩
  · rw [hfn, hrt]
    exact trodAll_mk1 (shut_bool hb _)
  · rw [hfn]
    exact trodAll_stays hl bel hts hA hlt (fun x hx => by simpa using hlt x hx)
  · rw [hfn, hvars]
    rfl
/-! ### what an argument is -/
theorem okWide_string {P : Program} {w : World} {r : Reach} {b : Nat} {t : TypeId} {v : Value} (ht : P.underlying t = some .string) (h : Cell.okWide P w r b t v) : ∃ s, v = .string (sOf s) := by
  unfold Cell.okWide Cell.ok at h
  rw [ht] at h
  cases v <;> simp at h
  rename_i s
  exact ⟨bs s, by rw [sOf_bs]⟩
theorem okWide_int {P : Program} {w : World} {r : Reach} {b : Nat} {t : TypeId} {k : IntKind} {v : Value} (ht : P.underlying t = some (.int k)) (h : Cell.okWide P w r b t v) : ∃ z, v = .int k z := by
  unfold Cell.okWide Cell.ok at h
  rw [ht] at h
  cases v <;> simp at h
  obtain ⟨rfl, -⟩ := h
  exact ⟨_, rfl⟩
theorem okWide_rec {w : World} {r : Reach} {b : Nat} {v : Value} (h : Value.okWide Tryd.prog w r b 61 v) : ∃ r : Rec, v = r.val := by
  unfold Value.okWide at h
  rw [Tryd.underlying61] at h
  obtain ⟨cs, rfl, hsz, ts, hts, -, hc⟩ := h
  have h4 : Tryd.prog.cellsOf 61 = 4 := by kernel_rfl
  have ht2 : Tryd.prog.cellTypes Tryd.prog.depth 61 = some [9, 3, 3, 9] := by kernel_rfl
  rw [h4] at hsz
  rw [ht2] at hts
  cases hts
  have g : ∀ i (hi : i < 4), ∃ u, [9, 3, 3, 9][i % 4]? = some u ∧ Cell.okWide Tryd.prog w r b u (cs[i]'(by omega)) := fun i hi => hc i _ (Array.getElem?_eq_getElem (by omega))
  obtain ⟨u0, e0, k0⟩ := g 0 (by omega)
  obtain ⟨u1, e1, k1⟩ := g 1 (by omega)
  obtain ⟨u2, e2, k2⟩ := g 2 (by omega)
  obtain ⟨u3, e3, k3⟩ := g 3 (by omega)
  cases e0; cases e1; cases e2; cases e3
  obtain ⟨s0, j0⟩ := okWide_string Tryd.underlying9 k0
  obtain ⟨z1, j1⟩ := okWide_int Tryd.underlying3 k1
  obtain ⟨z2, j2⟩ := okWide_int Tryd.underlying3 k2
  obtain ⟨s3, j3⟩ := okWide_string Tryd.underlying9 k3
  refine ⟨⟨s0, z1, z2, s3⟩, ?_⟩
  unfold Rec.val
  congr 1
  apply Array.ext
  · simpa using hsz
  · intro i hi1 hi2
    match i, hi1, hi2 with
    | 0, _, _ => exact j0
    | 1, _, _ => exact j1
    | 2, _, _ => exact j2
    | 3, _, _ => exact j3
end Go.Proofs.YtkhlmpkodjoioaaDoor
