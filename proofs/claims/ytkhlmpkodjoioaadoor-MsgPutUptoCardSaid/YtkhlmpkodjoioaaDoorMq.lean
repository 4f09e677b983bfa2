/- Structs that are compared; results that lie in a variable. -/
import Derived.Test.YtkhlmpkodjoioaaDoorBu
import Derived.Test.YtkhlmpkodjoioaaDoorEn
import Derived.Laws.StructEq
set_option linter.unusedVariables false
set_option linter.unusedSimpArgs false
set_option maxRecDepth 100000
namespace Go.Proofs.YtkhlmpkodjoioaaDoor
section
variable {P : Program} {n : Nat} {e : Env} {M : Mem} {S : List Nat} {w0 w : World} {H : List Hc} {fn : Func} {k : Value → World → Prop}
theorem results_cell {t T : Nat} {a : Act} {g kk : Nat} {cs : Array Value} {T' : TypeId} {fs : Array Field} [hu : Und P T (.struct fs)] [hz : Sz P T kk] (hr : fn.results = #[.cell t T]) (h : Sat n e a) (hx : gt e t = some (.pointer (some ⟨g, 0, none⟩)))
    (hb : w.heap[g]? = some (.cells cs T' (0, 0))) (hv : cs.size = kk) : (results fn a.tmps).run P w = .ok (.agg cs) w := by
  have h1 : (Instr.loadAt T (.pointer (some ⟨g, 0, none⟩))).run P w = .ok (.agg cs) w := by
    refine run_ValW (ValW.ldS (n := kk) (At.of_cells (cs := cs.toList) hb fun j u hj => by simpa using hj) hu.out hz.out (by simp [hv]) ⟨?_, rfl⟩)
    subst hv
    simp [List.take_of_length_le]
  have h2 : (loadVar T ⟨g, 0, none⟩).run P w = .ok (.agg cs) w := by simpa [Instr.loadAt, Instr.sureAddr] using h1
  have h3 : a.tmps.getD t undef = .pointer (some ⟨g, 0, none⟩) := by simp [Array.getD_eq_getD_getElem?, h.get _ _ hx]
  unfold results
  rw [hr]
  simp only [List.mapM_toArray, Sem.run_bind]
  have h3' : a.tmps[t]?.getD undef = .pointer (some ⟨g, 0, none⟩) := by simp [h.get _ _ hx]
  have h4 : ∀ (f : ResultVar → Sem Value), f (.cell t T) = (do loadVar T (← asAddr (a.tmps.getD t undef))) → ([ResultVar.cell t T].mapM f : Sem (List Value)).run P w = .ok [.agg cs] w := fun f hf => by
    simp [List.mapM_cons, hf, h3', asAddr, h2]
  have h5 : ∀ (s : Sem (List Value)), s.run P w = .ok [.agg cs] w → Sem.run P (List.toArray <$> s) w = .ok #[.agg cs] w := fun s hs => by simp [hs]
  rw [h5 _ (h4 _ rfl)]
  simp
theorem retc {x : Exit} {t T : Nat} {g kk : Nat} {cs : Array Value} {T' : TypeId} {fs : Array Field} [hu : Und P T (.struct fs)] [hz : Sz P T kk] (i : Nat) (hr : fn.results = #[.cell t T]) (hx : gt e t = some (.pointer (some ⟨g, 0, none⟩))) (hi : H[i]? = some (bx g (.cells cs T' (0, 0)))) (hv : cs.size = kk)
    (hk : Mok ⟨S, w0, H⟩ w → k (.agg cs) w) : PO n (RetQ P fn k) .ret e ⟨S, w0, H⟩ w := by
  unfold PO WK
  exact fun hM a ha => ⟨ha.defers, _, results_cell hr ha hx (hM.fact i _ hi) hv, _, rfl, hk hM⟩
theorem fallc {t T : Nat} {g kk : Nat} {cs : Array Value} {T' : TypeId} {fs : Array Field} [hu : Und P T (.struct fs)] [hz : Sz P T kk] (i : Nat) (hr : fn.results = #[.cell t T]) (hx : gt e t = some (.pointer (some ⟨g, 0, none⟩))) (hi : H[i]? = some (bx g (.cells cs T' (0, 0)))) (hv : cs.size = kk)
    (hk : Mok ⟨S, w0, H⟩ w → k (.agg cs) w) : PO n (RetQ P fn k) .normal e ⟨S, w0, H⟩ w := by
  unfold PO WK
  exact fun hM a ha => ⟨ha.defers, _, results_cell hr ha hx (hM.fact i _ hi) hv, _, rfl, hk hM⟩
theorem run_part1 {T : TypeId} [hn : Nag P T] {cs : Array Value} {off : Nat} {v : Value} (h : cs[off]? = some v) : (part T cs off).run P w = .ok v w := by
  simp [part, run_isAgg_nag hn.out, h]
end
theorem bl_dec (a b : List UInt8) : ((sOf a).toList == (sOf b).toList) = decide (a = b) := by
  rw [ByteArray.toList_eq, ByteArray.toList_eq, Bool.eq_iff_iff]
  simp [sOf]
theorem eqF_rec (d : Nat) (a b : Rec) (w : World) : (Op.equalIn (d + 2) 61 a.val b.val).run Tryd.prog w = .ok (decide (a = b)) w := by
  unfold Rec.val
  rw [run_equalIn_struct w (d + 1) 61 _ _ (by kernel_rfl) (by kernel_rfl)]
  have hf : (Tryd.prog.fieldsOf 61).toList.map (fun f => (f.name, f.type, f.offset)) = [("Name", 9, 0), ("Type", 3, 1), ("TTL", 3, 2), ("Data", 9, 3)] := by kernel_rfl
  obtain ⟨f0, l0, e0, h0, hf⟩ := List.map_eq_cons_iff.1 hf
  obtain ⟨f1, l1, e1, h1, hf⟩ := List.map_eq_cons_iff.1 hf
  obtain ⟨f2, l2, e2, h2, hf⟩ := List.map_eq_cons_iff.1 hf
  obtain ⟨f3, l3, e3, h3, hf⟩ := List.map_eq_cons_iff.1 hf
  obtain rfl := List.map_eq_nil_iff.1 hf
  rw [e0, e1, e2, e3]
  simp only [Prod.mk.injEq] at h0 h1 h2 h3
  have p : ∀ (T : TypeId), nag Tryd.prog T → ∀ (cs : Array Value) (off : Nat) (h : off < cs.size) (w : World), (part T cs off).run Tryd.prog w = .ok cs[off] w := fun T hn cs off h w => by
    simp [part, run_isAgg_nag hn, h]
  have ns : nag Tryd.prog 9 := Nag.out
  have ni : nag Tryd.prog 3 := Nag.out
  simp only [Op.eqFields, h0.1, h0.2.1, h0.2.2, h1.1, h1.2.1, h1.2.2, h2.1, h2.2.1, h2.2.2, h3.1, h3.2.1, h3.2.2]
  simp [p _ ns, p _ ni, run_equalIn_string _ _ _ _ _ Tryd.underlying9, run_equalIn_int _ _ _ _ _ _ _ Tryd.underlying3, bl_dec]
  obtain ⟨an, at_, al, ad⟩ := a
  obtain ⟨bn, bt, bl, bd⟩ := b
  by_cases c0 : an = bn <;> by_cases c1 : at_ = bt <;> by_cases c2 : al = bl <;> by_cases c3 : ad = bd <;> simp [c0, c1, c2, c3]
theorem eqF_que (d : Nat) (a b : Que) (w : World) : (Op.equalIn (d + 2) 42 a.val b.val).run Tryd.prog w = .ok (decide (a = b)) w := by
  unfold Que.val
  rw [run_equalIn_struct w (d + 1) 42 _ _ (by kernel_rfl) (by kernel_rfl)]
  have hf : (Tryd.prog.fieldsOf 42).toList.map (fun f => (f.name, f.type, f.offset)) = [("Name", 9, 0), ("Type", 3, 1)] := by kernel_rfl
  obtain ⟨f0, l0, e0, h0, hf⟩ := List.map_eq_cons_iff.1 hf
  obtain ⟨f1, l1, e1, h1, hf⟩ := List.map_eq_cons_iff.1 hf
  obtain rfl := List.map_eq_nil_iff.1 hf
  rw [e0, e1]
  simp only [Prod.mk.injEq] at h0 h1
  have p : ∀ (T : TypeId), nag Tryd.prog T → ∀ (cs : Array Value) (off : Nat) (h : off < cs.size) (w : World), (part T cs off).run Tryd.prog w = .ok cs[off] w := fun T hn cs off h w => by
    simp [part, run_isAgg_nag hn, h]
  have ns : nag Tryd.prog 9 := Nag.out
  have ni : nag Tryd.prog 3 := Nag.out
  simp only [Op.eqFields, h0.1, h0.2.1, h0.2.2, h1.1, h1.2.1, h1.2.2]
  simp [p _ ns, p _ ni, run_equalIn_string _ _ _ _ _ Tryd.underlying9, run_equalIn_int _ _ _ _ _ _ _ Tryd.underlying3, bl_dec]
  obtain ⟨an, at_⟩ := a
  obtain ⟨bn, bt⟩ := b
  by_cases c0 : an = bn <;> by_cases c1 : at_ = bt <;> simp [c0, c1]
section
variable {n : Nat} {e : Env} {M : Mem} {ds : Option Tmp} {ty : TypeId} {ps : String} {af : Array Edge} {gd : Option (Nat × Bool)} {x y : Operand} {t' : TypeId}
theorem ynR {a b : Rec} (hx : ev e x = some (ER.val a)) (hy : ev e y = some (ER.val b)) : Yd Tryd.prog n e M ⟨ds, .binOp .neq 61 x y t', ty, ps, af, gd⟩ (.bool (decide (a ≠ b))) := yv (s := do eqGuard .neq 61 x y a.val b.val; binOp .neq 61 a.val b.val) (by simp only [opSt, hx, hy]; rfl) fun w _ => by
  have h1 : (eqGuard .neq 61 x y a.val b.val).run Tryd.prog w = .ok () w := run_eqGuard_agg w .neq _ x y _ _ (by kernel_rfl)
  have h2 : (binOp .neq 61 a.val b.val).run Tryd.prog w = ((Op.equalIn 10000 61 a.val b.val).run Tryd.prog w).andThen fun b w' => .ok (.bool (!b)) w' := run_neq_struct w _ _ _
  have h3 := eqF_rec 9998 a b w
  rw [Sem.run_bind, h1, Result.andThen_ok, h2, h3]
  by_cases h : a = b <;> simp [h]
theorem ynQ {a b : Que} (hx : ev e x = some (EQ.val a)) (hy : ev e y = some (EQ.val b)) : Yd Tryd.prog n e M ⟨ds, .binOp .neq 42 x y t', ty, ps, af, gd⟩ (.bool (decide (a ≠ b))) := yv (s := do eqGuard .neq 42 x y a.val b.val; binOp .neq 42 a.val b.val) (by simp only [opSt, hx, hy]; rfl) fun w _ => by
  have h1 : (eqGuard .neq 42 x y a.val b.val).run Tryd.prog w = .ok () w := run_eqGuard_agg w .neq _ x y _ _ (by kernel_rfl)
  have h2 : (binOp .neq 42 a.val b.val).run Tryd.prog w = ((Op.equalIn 10000 42 a.val b.val).run Tryd.prog w).andThen fun b w' => .ok (.bool (!b)) w' := run_neq_struct w _ _ _
  have h3 := eqF_que 9998 a b w
  rw [Sem.run_bind, h1, Result.andThen_ok, h2, h3]
  by_cases h : a = b <;> simp [h]
end
end Go.Proofs.YtkhlmpkodjoioaaDoor
