/- Bytes and strings. -/
import Derived.Test.YtkhlmpkodjoioaaDoorEn
import Derived.Laws.BytesString
import Derived.Lib.ConvBytes
set_option linter.unusedVariables false
set_option linter.unusedSimpArgs false
namespace Go.Proofs.YtkhlmpkodjoioaaDoor
variable {P : Program} {n : Nat} {e : Env} {Q : Post} {K : Act → World → Prop} {S : List Nat} {w0 w : World} {H : List Hc} {M : Mem}
variable {ds : Option Tmp} {d : Nat} {op : Op} {ty : TypeId} {ps : String} {af : Array Edge} {gd : Option (Nat × Bool)}
variable {α : Type} {E : En α} {v : Value} {xs : List α} {x y z : Operand} {s t b : TypeId}
/-- A slice that is read alone, of a block of one's own. -/
def srx (rd : Bool) {α : Type} (E : En α) (v : Value) (xs : List α) : Hc :=
  ⟨v.ownBlock, fun w => Sl E w v xs ∧ ∀ g, v.ownBlock = some g → g < w.heap.size, fun w w' h hp => by
    obtain ⟨⟨p, c, rfl, h1, h2, h3⟩, hl⟩ := hp
    refine ⟨⟨p, c, rfl, h1, h2, h3.imp id fun ⟨g, off, hp, hat⟩ => ⟨g, off, hp, fun j u hj => ?_⟩⟩, fun g hg => ?_⟩
    · have h5 := h g hg
      have h4 := hl g hg
      rw [Array.getElem?_eq_getElem h4] at h5
      exact (Array.getElem?_eq_some_iff.1 h5).1
    · subst hp
      exact (World.cell?_of_block (w := w) (a := ⟨g, off + j, none⟩) (h g rfl)).trans (hat j u hj),
   fun w g hp hg => hp.2 g hg, rd⟩
abbrev sr {α : Type} (E : En α) (v : Value) (xs : List α) : Hc := srx false E v xs
abbrev ar {α : Type} (E : En α) (v : Value) (xs : List α) : Hc := srx true E v xs
theorem sl_sr {rd : Bool} (i : Nat) (hi : M.H[i]? = some (srx rd E v xs)) : ∀ w, Mok M w → Sl E w v xs := fun w hM => (hM.fact i (srx rd E v xs) hi).1

theorem cl_EB (xs : List UInt8) : cl EB xs = (xs.map fun b => (b.toNat : Int)).map (Value.int .u8) := by
  induction xs with
  | nil => rfl
  | cons x xs ih => rw [cl_cons, ih]; rfl
theorem push_all : ∀ (xs : List UInt8) (r : List UInt8), (xs.map fun b => (b.toNat : Int)).foldl (fun (r : ByteArray) n => r.push (UInt8.ofNat n.toNat)) (sOf r) = sOf (r ++ xs)
  | [], r => by simp
  | x :: xs, r => by
    simp only [List.map_cons, List.foldl_cons]
    have : (sOf r).push (UInt8.ofNat ((x.toNat : Int)).toNat) = sOf (r ++ [x]) := by
      simp [sOf, ByteArray.push]
    rw [this, push_all xs]
    simp
theorem run_bts {a : List UInt8} (h : Sl EB w v a) (hs : P.underlying s = some (.slice b)) (hb : P.underlying b = some (.int .u8)) (ht : P.underlying t = some .string) : (convert s t v).run P w = .ok (.string (sOf a)) w := by
  obtain ⟨p, c, rfl, h1, h2, h3⟩ := h
  rw [run_convert_bytes_string w s t b p _ _ hs hb ht]
  have key : ∀ ad : Addr, (loadCells ad a.length).run P w = .ok ((a.map fun b => (b.toNat : Int)).map (Value.int .u8)).toArray w → (Conv.bytesToString (.slice (some ad) a.length c)).run P w = .ok (.string (sOf a)) w := fun ad hl => by
    rw [run_bytesToString w ad _ _ _ hl]
    have := push_all a []
    simp only [List.nil_append] at this
    rw [← this]
    rfl
  rcases h3 with rfl | ⟨g, off, rfl, h4⟩
  · cases p with
    | none => simp [Conv.bytesToString]; rfl
    | some ad => exact key ad (by simp [run_loadCells (w := w) ad 0 (fun _ => undef) (fun j hj => absurd hj (Nat.not_lt_zero j))])
  · refine key _ ?_
    rw [run_loadCells (w := w) ⟨g, off, none⟩ a.length (fun j => (cl EB a).getD j undef) (fun j hj => ?_)]
    · rw [cl_EB]
      congr 2
      apply List.ext_getElem
      · simp
      · intro i h1 h2
        simp
        rw [List.getElem?_eq_getElem (by simpa using h1)]
        rfl
    · rw [addr_add]
      refine h4 j _ ?_
      have hj' : j < (cl EB a).length := by rw [cl_length]; simpa [EB] using hj
      rw [List.getD_eq_getElem?_getD, List.getElem?_eq_getElem hj']; rfl
theorem ycB {a : List UInt8} [hs : Und P s (.slice b)] [hb : Und P b (.int .u8)] [ht : Und P t .string] (hx : ev e x = some v) (hl : ∀ w, Mok M w → Sl EB w v a) : Yd P n e M ⟨ds, .convert s t x, ty, ps, af, gd⟩ (.string (sOf a)) := by
  unfold Yd
  intro w hM ac ha
  have h1 := hl w hM
  obtain ⟨p, c, rfl⟩ := h1.form
  have h0 := opSt_ok (P := P) ha ⟨ds, .convert s t x, ty, ps, af, gd⟩
  simp only [opSt, hx, convSt] at h0
  exact h0 w _ w (run_bts h1 hs.out hb.out ht.out)
theorem osb {a : List UInt8} [hs : Und P s .string] [ht : Und P t (.slice b)] [hb : Und P b (.int .u8)] (hd : Nat.ble (d + 1) n = true) (hx : ev e x = some (.string (sOf a)))
    (ha : a.length ≤ 4294967296) (h : ∀ g c w', w.heap.size ≤ g → WK n K ((d, .slice (some ⟨g, 0, none⟩) a.length c) :: e) ⟨S, w0, sr EB (.slice (some ⟨g, 0, none⟩) a.length c) a :: H⟩ w') : WK n (wo P Q ⟨some d, .convert s t x, ty, ps, af, gd⟩ K) e ⟨S, w0, H⟩ w :=
  og (s := convert s t (.string (sOf a))) hd (by simp only [opSt, hx, convSt]) fun hM => by
    have hr := Lib.run_convert_string_bytes (P := P) w s t b (sOf a) hs.out ht.out hb.out
    refine ValW.of hr ⟨_, hM.add (c := sr EB (.slice (some ⟨w.heap.size, 0, none⟩) a.length (grownCap w a.length 0 b)) a) ?_ ⟨⟨_, _, rfl, ?_, ?_, ?_⟩, fun g hg => ?_⟩ (fun g hg => by cases hg; exact Nat.le_refl _), h _ _ _ (Nat.le_refl _)⟩
    · refine ⟨?_, ?_, ?_, ?_, fun g hg _ => Lib.bytesWorld_at_old w b (sOf a) g hg⟩
      · simp [Lib.bytesWorld, World.freeze, World.alloc, World.drew, -World.alloc_eq, -World.drew_eq]
      · simp [Lib.bytesWorld, World.freeze, World.alloc, World.drew, -World.alloc_eq, -World.drew_eq]
      · simp [Lib.bytesWorld, World.freeze, World.alloc, World.drew, -World.alloc_eq, -World.drew_eq]
      · rw [Lib.bytesWorld_size]; omega
    · simpa using grownCap_ge w a.length 0 b
    · exact grownCap_le_maxLen w _ 0 b (by unfold maxLen; omega)
    · refine .inr ⟨_, 0, rfl, fun j u hj => ?_⟩
      have hj' : j < a.length := by
        have := (List.getElem?_eq_some_iff.1 hj).1
        rwa [cl_length, show EB.k = 1 from rfl, Nat.mul_one] at this
      rw [Nat.zero_add]
      refine (Lib.bytesWorld_cell w b (sOf a) j (show j < (sOf a).size by rw [size_bs]; exact hj')).trans ?_
      rw [← hj, cl_EB]
      simp [sOf, List.getElem?_eq_getElem hj', List.getD_eq_getElem?_getD]
    · cases hg; rw [Lib.bytesWorld_size]; exact Nat.lt_succ_self _
/-- append of a string to bytes of one's own. -/
theorem oas {T k bytes tx : TypeId} {p q : Operand} {xs : List UInt8} {a : List UInt8} (i : Nat) [Und P t (.slice T)] [El P T k bytes] [hS : Und P tx .string] (hd : Nat.ble (d + 1) n = true) (hp : ev e p = some v) (hq : ev e q = some (.string (sOf a)))
    (hi : H[i]? = some (ow EB T v xs)) (hk : EB.k = k) (hby : (xs.length + a.length) * bytes ≤ 140737488355328) (hpos : Nat.ble 1 bytes = true)
    (h : ∀ v' w', WK n K ((d, v') :: e) ⟨S, w0, H.set i (ow EB T v' (xs ++ a))⟩ w') : WK n (wo P Q ⟨some d, .call { callee := .builtin .append, args := #[p, q], argTypes := #[t, tx] }, ty, ps, af, gd⟩ K) e ⟨S, w0, H⟩ w :=
  og (s := Builtin.append_ #[t, tx] ty #[v, .string (sOf a)]) hd (by simp only [opSt, evs, hp, hq]) fun hM => by
    obtain ⟨v', w', hr, h1, h2, h3⟩ := append_src (P := P) (E := EB) (base := 0) (tx := tx) (ty := ty) (x := .string (sOf a)) (ys := a) (Und.out : P.underlying t = some (.slice T)) (El.ti hk) (hM.fact i (ow EB T v xs) hi) (Src.ofString w hS.out (sOf a)) rfl
      (by rw [cl_EB]; simp [byteCells, sOf]) hby (Nat.le_of_ble_eq_true hpos) (Nat.zero_le _)
    exact ValW.of hr ⟨_, hM.upd (c' := ow EB T v' (xs ++ a)) hi rfl h2 (fun g hg => blk_toList hg) h1 h3.hf, h v' w'⟩
end Go.Proofs.YtkhlmpkodjoioaaDoor
