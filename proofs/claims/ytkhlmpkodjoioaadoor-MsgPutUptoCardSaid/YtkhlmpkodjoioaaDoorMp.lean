/- Maps, structs that are built and stored, function values, comparisons. -/
import Derived.Test.YtkhlmpkodjoioaaDoorCv
set_option linter.unusedVariables false
set_option linter.unusedSimpArgs false
namespace Go.Proofs.YtkhlmpkodjoioaaDoor
variable {P : Program} {n : Nat} {e : Env} {Q : Post} {K : Act → World → Prop} {S : List Nat} {w0 w : World} {H : List Hc} {M : Mem}
variable {ds : Option Tmp} {d : Nat} {op : Op} {ty : TypeId} {ps : String} {af : Array Edge} {gd : Option (Nat × Bool)}
variable {v : Value} {x y z : Operand} {s t t' b T : TypeId}
/-! ### Comparisons -/
theorem run_equal {u v : Value} {r : Bool} {w : World} (h : ∀ d, (Op.equalIn (d + 1) t u v).run P w = .ok r w) : (Op.equal t u v).run P w = .ok r w := h 9999
theorem run_eql {u v : Value} {r : Bool} {w : World} (h1 : (eqGuard .eql t x y u v) = pure ()) (h2 : binOp .eql t u v = (do pure (.bool (← Op.equal t u v)))) (h : ∀ d, (Op.equalIn (d + 1) t u v).run P w = .ok r w) :
    (do eqGuard .eql t x y u v; binOp .eql t u v : Sem Value).run P w = .ok (.bool r) w := by
  rw [h1, h2]
  have := run_equal h
  simp [this]
theorem ypn {el : TypeId} {a : Addr} [hu : Und P t (.pointer el)] (hx : ev e x = some (.pointer (some a))) (hy : ev e y = some (.pointer none)) : Yd P n e M ⟨ds, .binOp .eql t x y t', ty, ps, af, gd⟩ (.bool false) := yv (by simp only [opSt, hx, hy, binSt]; rfl) fun w _ => 
  run_eql rfl rfl fun d => by simp [Op.equalIn, run_underlying hu.out]
theorem ym0 {k el : TypeId} [hu : Und P t (.map k el)] (hx : ev e x = some (.map none)) (hy : ev e y = some (.map none)) : Yd P n e M ⟨ds, .binOp .eql t x y t', ty, ps, af, gd⟩ (.bool true) := yv (by simp only [opSt, hx, hy, binSt]; rfl) fun w _ =>
  run_eql rfl rfl fun d => by simp [Op.equalIn, run_underlying hu.out]
theorem ym1 {k el : TypeId} {g : Nat} [hu : Und P t (.map k el)] (hx : ev e x = some (.map (some g))) (hy : ev e y = some (.map none)) : Yd P n e M ⟨ds, .binOp .eql t x y t', ty, ps, af, gd⟩ (.bool false) := yv (by simp only [opSt, hx, hy, binSt]; rfl) fun w _ =>
  run_eql rfl rfl fun d => by simp [Op.equalIn, run_underlying hu.out]
theorem ybb {a c : Bool} [hu : Und P t .bool] (hx : ev e x = some (.bool a)) (hy : ev e y = some (.bool c)) : Yd P n e M ⟨ds, .binOp .eql t x y t', ty, ps, af, gd⟩ (.bool (decide (a = c))) := yv (by simp only [opSt, hx, hy, binSt]; rfl) fun w _ =>
  run_eql rfl rfl fun d => by
    simp [Op.equalIn, run_underlying hu.out]
    cases a <;> cases c <;> rfl
theorem yshv {m m' : Int} {i c : Nat} {k' : IntKind} [hm : NatI m i] [hm' : NatI m' c] (hx : ev e x = some (.int .i64 m)) (hy : ev e y = some (.int k' m')) (hc : c ≤ 62) :
    Yd P n e M ⟨ds, .binOp .shr t x y t', ty, ps, af, gd⟩ (.int .i64 (i / 2 ^ c : Nat)) := by
  obtain rfl := hm'.out
  exact yshr c (2 ^ c) hx hy (Nat.ble_eq_true_of_le hc) rfl
/-! ### What is built of parts -/
def bpl (P : Program) (t : TypeId) : Option (List (Nat × Nat)) := match P.underlying t with
  | some (.struct fs) => fs.toList.mapM fun f => (P.info? f.type).map fun i => (f.offset, i.size)
  | some (.array m el) => (P.info? el).map fun i => (List.range m).map fun j => (j * i.size, i.size)
  | _ => none
class Bu (P : Program) (t : TypeId) (pl : outParam (List (Nat × Nat))) : Prop where out : bpl P t = some pl
theorem fill_mono {p q : Nat → Option (Nat × Nat)} (h : ∀ i u, p i = some u → q i = some u) : ∀ (vs : List (Nat × Value)) (cs r : Array Value), Instr.fill p cs vs = some r → Instr.fill q cs vs = some r
  | [], cs, r, hf => hf
  | (i, v) :: vs, cs, r, hf => by
    simp only [Instr.fill] at hf ⊢
    split at hf
    · cases hf
    · rename_i off sz hp
      rw [h i _ hp]
      simp only
      split at hf
      · cases hf
      · rename_i h1
        rw [if_neg h1]
        exact fill_mono h vs _ _ hf
theorem run_mapM_places (P : Program) (w : World) : ∀ (fs : List Field) (pl : List (Nat × Nat)), (fs.mapM fun f => (P.info? f.type).map fun i => (f.offset, i.size)) = some pl →
    (fs.mapM fun f => do pure (f.offset, ← sizeOf f.type) : Sem (List (Nat × Nat))).run P w = .ok pl w
  | [], pl, h => by simp at h; subst h; simp
  | f :: fs, pl, h => by
    simp only [List.mapM_cons] at h
    cases hi : P.info? f.type with
    | none => rw [hi] at h; simp at h
    | some i =>
      rw [hi] at h
      cases hr : fs.mapM fun f => (P.info? f.type).map fun i => (f.offset, i.size) with
      | none => rw [hr] at h; simp at h
      | some r =>
        rw [hr] at h
        simp at h
        subst h
        have := run_mapM_places P w fs r hr
        simp [sizeOf, typeInfo, hi] at this ⊢
        simp [this]
theorem ybd {zv : Value} {pl : List (Nat × Nat)} {pp : Array (Nat × Operand)} {vs : List (Nat × Value)} {cells : Array Value} [hz : Zr P t zv] [hb : Bu P t pl] (hp : evp e pp.toList = some vs) (hf : Instr.fill (pl[·]?) zv.cells vs = some cells) :
    Yd P n e M ⟨ds, .build t pp, ty, ps, af, gd⟩ (.agg cells) := yv (by simp only [opSt, hp]; rfl) fun w _ => by
  obtain ⟨inf, hinf, hz⟩ := Option.map_eq_some_iff.1 hz.out
  have hb := hb.out
  unfold bpl at hb
  split at hb
  · rename_i fs hu
    have h1 := run_mapM_places P w _ _ hb
    have h2 : (fs.mapM fun f => do pure (f.offset, ← sizeOf f.type) : Sem (Array (Nat × Nat))).run P w = .ok pl.toArray w := by
      rw [← Array.toArray_toList (xs := fs), List.mapM_toArray]
      have : ∀ (s : Sem (List (Nat × Nat))), s.run P w = .ok pl w → Sem.run P (List.toArray <$> s) w = .ok pl.toArray w := fun s hs => by simp [hs]
      exact this _ h1
    simp only [bind_pure_comp] at h2
    simp [Instr.build, zeroValue, typeInfo, hinf, hz, run_underlying hu, h2, hf]
  · rename_i m el hu
    obtain ⟨i, hi, hpl⟩ := Option.map_eq_some_iff.1 hb
    have h3 : Instr.fill (fun j => some (j * i.size, i.size)) zv.cells vs = some cells := fill_mono (fun j u hu => by
      rw [← hpl] at hu
      rw [List.getElem?_map] at hu
      obtain ⟨a, ha, hu⟩ := Option.map_eq_some_iff.1 hu
      obtain ⟨h4, h5⟩ := List.getElem?_eq_some_iff.1 ha
      rw [List.getElem_range] at h5
      rw [h5, hu]) _ _ _ hf
    simp [Instr.build, zeroValue, typeInfo, hinf, hz, run_underlying hu, sizeOf, hi, h3]
  · cases hb
theorem yai {m el : TypeId} {cs : Array Value} {k : IntKind} {i : Int} {j : Nat} [hm : NatI i j] [hu : Und P t (.array m el)] [hz : Sz P el 1] [hn : Nag P el] (hx : ev e x = some (.agg cs)) (hy : ev e y = some (.int k i)) (hb : j < m) (hv : cs[j]? = some v) :
    Yd P n e M ⟨ds, .index t x y, ty, ps, af, gd⟩ v := yv (by simp only [opSt, hx, hy, idxSt]; rfl) fun w _ => by
  obtain rfl := hm.out
  obtain ⟨inf, hinf, hz⟩ := Option.map_eq_some_iff.1 hz.out
  simp [Instr.index, asIntOf, run_underlying hu.out, hb, sizeOf, typeInfo, hinf, hz, part, run_isAgg_nag hn.out, hv]
/-! ### A struct that is stored whole -/
theorem osts {T T' g k : Nat} {cs us : Array Value} {x y : Operand} [hZ : Sz P T k] (i : Nat) (hx : ev e x = some (.pointer (some ⟨g, 0, none⟩))) (hy : ev e y = some (.agg us))
    (hi : H[i]? = some (bx g (.cells cs T' (0, 0)))) (hk : us.size = k) (hc : cs.size = k) (ho : us.toList.all Value.oneCell' = true) (h : ∀ w', WK n K e ⟨S, w0, H.set i (bx g (.cells us T' (0, 0)))⟩ w') : WK n (wo P Q ⟨none, .store T x y, ty, ps, af, gd⟩ K) e ⟨S, w0, H⟩ w :=
  ou (s := Instr.storeAt T (.pointer (some ⟨g, 0, none⟩)) (.agg us)) (by simp only [opSt, hx, hy]) fun hM => by
    have hb : w.heap[g]? = some (.cells cs T' (0, 0)) := hM.fact i _ hi
    obtain ⟨inf, hinf, hz⟩ := Option.map_eq_some_iff.1 hZ.out
    obtain ⟨cur', h2, h3, h4, h5, h6⟩ := heap_setCells g T' us.toList w 0 cs hb
    have hcur : cur' = us := by
      apply Array.ext
      · rw [h3, hc, hk]
      · intro j hj1 hj2
        have := h6 j us[j] (by simp [hj2]) (by rw [← h3]; omega)
        rw [Nat.zero_add, Array.getElem?_eq_getElem hj1] at this
        exact Option.some.inj this
    rw [hcur] at h2
    have hst2 := run_storeCells_cells (P := P) g 0 us.toList 0 w (fun j hj => by
        have hj' : j < us.size := by simpa using hj
        have : j < cs.size := by omega
        simp [World.cell?, hb, this]) (fun j hj => by simp [World.frozen?, hb]) (fun u hu => List.all_eq_true.1 ho u hu)
    refine UnitW.of (w' := w.setCells g 0 us.toList) ?_ ⟨_, hM.upd hi rfl h4 (fun g' hg => by simp at hg; subst hg; rfl) (c' := bx g (.cells us T' (0, 0))) h2 (fun g' hg => .inl hg), h _⟩
    simp [Instr.storeAt, Instr.sureAddr, storeVar, Value.cells, sizeOf, typeInfo, hinf, hz, hk]
    simpa using hst2
/-! ### Maps from strings to numbers -/
def kvs (es : Array MapEntry) : List (Value × Value) := es.toList.map fun e => (e.key, e.val)
def tabv (tab : List (List UInt8 × Nat)) : List (Value × Value) := tab.map fun p => (.string (sOf p.1), .int .i64 p.2)
def mp (g : Nat) (tab : List (List UInt8 × Nat)) : Hc :=
  ⟨some g, fun w => ∃ es clock, w.heap[g]? = some (.map es clock) ∧ kvs es = tabv tab, fun w w' h ⟨es, c, h1, h2⟩ => ⟨es, c, (h g rfl).trans h1, h2⟩,
   fun w g' ⟨es, c, h1, h2⟩ hg => by cases hg; exact lt_of_blk h1, false⟩
def tget (tab : List (List UInt8 × Nat)) (k : List UInt8) : Option Nat := (tab.find? fun p => decide (p.1 = k)).map (·.2)
theorem sOf_beq (a b : List UInt8) : (sOf a == sOf b) = decide (a = b) := by
  have h : (sOf a == sOf b) = (a.toArray == b.toArray) := rfl
  rw [h, Bool.eq_iff_iff]
  simp
theorem findNow_tab (k : List UInt8) : ∀ (es : List MapEntry) (tab : List (List UInt8 × Nat)) (i : Nat), (es.map fun e => (e.key, e.val)) = tabv tab →
    match tget tab k with
    | none => Instr.findNow .string (.string (sOf k)) es i = some none
    | some v => ∃ j, Instr.findNow .string (.string (sOf k)) es i = some (some (j, .int .i64 v))
  | [], [], i, h => rfl
  | [], p :: tab, i, h => by simp [tabv] at h
  | e :: es, [], i, h => by simp [tabv] at h
  | e :: es, p :: tab, i, h => by
    simp only [tabv, List.map_cons, List.cons.injEq, Prod.mk.injEq] at h
    obtain ⟨⟨h1, h2⟩, h3⟩ := h
    have ih := findNow_tab k es tab (i + 1) h3
    unfold tget at ih ⊢
    rw [List.find?_cons]
    unfold Instr.findNow
    rw [h1]
    simp only [Instr.sameNow, sOf_beq]
    by_cases hp : p.1 = k
    · rw [decide_eq_true hp, decide_eq_true hp.symm, h2]
      exact ⟨i, rfl⟩
    · rw [decide_eq_false hp, decide_eq_false (fun hh => hp hh.symm)]
      exact ih
theorem run_checkKey {k : TypeId} (hk : P.underlying k = some .string) (bb : Bool) (a : ByteArray) (w : World) : (Instr.checkKey bb 10000 k (.string a)).run P w = .ok () w := by
  have h : ∀ d, (Instr.checkKey bb (d + 1) k (.string a)).run P w = .ok () w := fun d => by simp [Instr.checkKey, run_underlying hk]
  exact h 9999
theorem ylk {k el : TypeId} {g : Nat} {tab : List (List UInt8 × Nat)} {a : List UInt8} [hu : Und P t (.map k el)] [hk : Und P k .string] [hz : Zr P el (.int .i64 0)] (i : Nat) (hx : ev e x = some (.map (some g))) (hy : ev e y = some (.string (sOf a)))
    (hi : M.H[i]? = some (mp g tab)) : Yd P n e M ⟨ds, .lookup t x y true, ty, ps, af, gd⟩ (.tuple #[.int .i64 ((tget tab a).getD 0 : Nat), .bool (tget tab a).isSome]) := yv (by simp only [opSt, hx, hy]; rfl) fun w hM => by
  obtain ⟨es, c, hb, he⟩ := hM.fact i _ hi
  obtain ⟨inf, hinf, hz⟩ := Option.map_eq_some_iff.1 hz.out
  have hf := findNow_tab a es.toList tab 0 he
  have hg := MapKept.run_getObj_map (P := P) hb
  cases ht : tget tab a with
  | none =>
    rw [ht] at hf
    simp [Instr.lookup, run_underlying hu.out, hg, run_checkKey hk.out, Instr.findKey, run_underlying hk.out, hf, zeroValue, typeInfo, hinf, hz]
  | some u =>
    rw [ht] at hf
    obtain ⟨j, hf⟩ := hf
    simp [Instr.lookup, run_underlying hu.out, hg, run_checkKey hk.out, Instr.findKey, run_underlying hk.out, hf]
theorem ylk1 {k el : TypeId} {g u : Nat} {tab : List (List UInt8 × Nat)} {a : List UInt8} [hu : Und P t (.map k el)] [hk : Und P k .string] [hz : Zr P el (.int .i64 0)] (i : Nat) (hx : ev e x = some (.map (some g))) (hy : ev e y = some (.string (sOf a)))
    (hi : M.H[i]? = some (mp g tab)) (h : tget tab a = some u) : Yd P n e M ⟨ds, .lookup t x y true, ty, ps, af, gd⟩ (.tuple #[.int .i64 u, .bool true]) := by
  have := ylk (P := P) (n := n) (ds := ds) (ty := ty) (ps := ps) (af := af) (gd := gd) (t := t) i hx hy hi
  rwa [h] at this
theorem ylk0 {k el : TypeId} {g : Nat} {tab : List (List UInt8 × Nat)} {a : List UInt8} [hu : Und P t (.map k el)] [hk : Und P k .string] [hz : Zr P el (.int .i64 0)] (i : Nat) (hx : ev e x = some (.map (some g))) (hy : ev e y = some (.string (sOf a)))
    (hi : M.H[i]? = some (mp g tab)) (h : tget tab a = none) : Yd P n e M ⟨ds, .lookup t x y true, ty, ps, af, gd⟩ (.tuple #[.int .i64 0, .bool false]) := by
  have := ylk (P := P) (n := n) (ds := ds) (ty := ty) (ps := ps) (af := af) (gd := gd) (t := t) i hx hy hi
  rwa [h] at this
theorem omk (hd : Nat.ble (d + 1) n = true) (h : ∀ g w', w.heap.size ≤ g → WK n K ((d, .map (some g)) :: e) ⟨S, w0, mp g [] :: H⟩ w') : WK n (wo P Q ⟨some d, .makeMap t none, ty, ps, af, gd⟩ K) e ⟨S, w0, H⟩ w :=
  og (s := Instr.makeMap t none) hd (by simp only [opSt]) fun hM =>
    ValW.of (w' := w.alloc (.map #[] 0)) (by simp [Instr.makeMap, newObj, Sem.run]) ⟨_, hM.add (c := mp w.heap.size []) (Ext.alloc _ _) ⟨#[], 0, heap_alloc_new w _, rfl⟩ (fun g hg => by cases hg; exact Nat.le_refl _), h _ _ (Nat.le_refl _)⟩
theorem omu {k el : TypeId} {g : Nat} {tab : List (List UInt8 × Nat)} {a : List UInt8} {uz : Int} {u : Nat} [hm : NatI uz u] [hu : Und P t (.map k el)] [hk : Und P k .string] (i : Nat) (hx : ev e x = some (.map (some g))) (hy : ev e y = some (.string (sOf a))) (hz : ev e z = some (.int .i64 uz))
    (hi : H[i]? = some (mp g tab)) (hn : tget tab a = none) (h : ∀ w', WK n K e ⟨S, w0, H.set i (mp g (tab ++ [(a, u)]))⟩ w') : WK n (wo P Q ⟨none, .mapUpdate t x y z, ty, ps, af, gd⟩ K) e ⟨S, w0, H⟩ w :=
  ou (s := Instr.mapUpdate t (.map (some g)) (.string (sOf a)) (.int .i64 u)) (by obtain rfl := hm.out; simp only [opSt, hx, hy, hz]) fun hM => by
    obtain ⟨es, c, hb, he⟩ := hM.fact i _ hi
    have hf := findNow_tab a es.toList tab 0 he
    rw [hn] at hf
    have hg := MapKept.run_getObj_map (P := P) hb
    have hlt := lt_of_blk hb
    refine UnitW.of (w' := { w with heap := w.heap.setIfInBounds g (.map (es.push { key := .string (sOf a), val := .int .i64 u, born := c }) (c + 1)) }) ?_
      ⟨_, hM.upd hi rfl (S' := [g]) ?_ (fun g' hg => by simp at hg; subst hg; rfl) (c' := mp g (tab ++ [(a, u)])) ⟨es.push { key := .string (sOf a), val := .int .i64 u, born := c }, c + 1, ?_, ?_⟩ (fun g' hg => .inl hg), h _⟩
    · simp [Instr.mapUpdate, run_underlying hu.out, hg, run_checkKey hk.out, Instr.findKey, run_underlying hk.out, hf, MapKept.run_setObj_map _ hb]
    · refine ⟨rfl, rfl, rfl, by simp, fun j hj hn => ?_⟩
      simp at hn
      exact Array.getElem?_setIfInBounds_ne (Ne.symm hn)
    · exact Array.getElem?_setIfInBounds_self_of_lt hlt
    · simp only [kvs, Array.toList_push, List.map_append, tabv] at he ⊢
      rw [he]; rfl
/-! ### Functions that are held as values; entries that a callee changes in place -/
theorem ocdv {f : FuncId} {args : List Value} {ar : Array Operand} {ts : Array TypeId} {c : Operand} {v : Value} (hc : ev e c = some (.func (.func f) #[] #[])) (hd : Nat.ble (d + 1) n = true) (ha : evs e ar.toList = some args) (hs : Mok M w → Spec P f args.toArray w (fun v' w' => Ext [] w w' ∧ v' = v))
    (h : ∀ w', WK n K ((d, v) :: e) M w') : WK n (wo P Q ⟨some d, .call { callee := .value c, args := ar, argTypes := ts }, ty, ps, af, gd⟩ K) e M w :=
  oc (f := f) (args := args.toArray) hd (by simpa using call_st (us := []) (vs := []) hc ha) fun hM => (hs hM).mono fun v' w' ⟨he, hr⟩ => ⟨M, hM.e0 he, by rw [hr]; exact h w'⟩
theorem perm_get {c : Hc} : ∀ {H : List Hc} {i : Nat}, H[i]? = some c → H.Perm (c :: H.eraseIdx i)
  | [], i, h => by simp at h
  | a :: H, 0, h => by simp at h; subst h; exact List.Perm.refl _
  | a :: H, i + 1, h => by
    simp at h
    rw [List.eraseIdx_cons_succ]
    exact ((perm_get h).cons a).trans (List.Perm.swap _ _ _)
theorem perm_set {c : Hc} : ∀ {H : List Hc} {i : Nat}, i < H.length → (c :: H.eraseIdx i).Perm (H.set i c)
  | [], i, h => by simp at h
  | a :: H, 0, h => by simp
  | a :: H, i + 1, h => by
    simp at h
    rw [List.eraseIdx_cons_succ, List.set_cons_succ]
    exact (List.Perm.swap _ _ _).trans ((perm_set h).cons a)
theorem oce {f : FuncId} {args : List Value} {ar : Array Operand} {ts : Array TypeId} {c : Hc} {R : Value → Hc → Prop} (i : Nat) (hd : Nat.ble (d + 1) n = true) (ha : evs e ar.toList = some args) (hi : H[i]? = some c) (hz : Zw w0) (h0 : 0 ∉ S)
    (hs : Ent [c] [] w → Spec P f args.toArray w (fun v w' => ∃ c', Mok ⟨blks [c], w, [c']⟩ w' ∧ R v c'))
    (h : ∀ v c' w', R v c' → c'.rd = false ∧ WK n K ((d, v) :: e) ⟨S, w0, H.set i c'⟩ w') : WK n (wo P Q ⟨some d, .call { callee := .value (.func f), args := ar, argTypes := ts }, ty, ps, af, gd⟩ K) e ⟨S, w0, H⟩ w :=
  ocm hd ha fun hM => (hs ⟨(hM.perm (perm_get hi)).enter (Hc' := [c]) (List.nil_sublist _) (fun _ h => by cases h), hM.zw hz h0, (hM.perm (perm_get hi)).no0 (Hc' := [c]) hz h0⟩).mono fun v w' ⟨c', hk, hr⟩ =>
    ⟨_, ((hM.perm (perm_get hi)).leave (Hc' := [c]) hk (fun d hd => by simp at hd; subst hd; exact (h v d w' hr).1)).perm (perm_set (List.getElem?_eq_some_iff.1 hi).1), (h v c' w' hr).2⟩
theorem yoU (a : UInt8) (b : UInt8) (hx : ev e x = some (.int .u8 a.toNat)) (hy : ev e y = some (.int .u8 b.toNat)) : Yd P n e M ⟨ds, .binOp .or t x y t', ty, ps, af, gd⟩ (.int .u8 (a ||| b).toNat) := by
  have h := ybI (P := P) (n := n) (M := M) (ds := ds) (ty := ty) (ps := ps) (af := af) (gd := gd) (t := t) (t' := t') (o := .or) hx hy rfl
  rw [wrap_u8] at h
  have h2 : UInt8.ofNat ((((BitVec.ofInt IntKind.u8.bits (a.toNat : Int) ||| BitVec.ofInt IntKind.u8.bits (b.toNat : Int)).toNat : Nat) : Int) % 256).toNat = a ||| b := by
    apply UInt8.toNat_inj.1
    have ha := a.toNat_lt
    have hb := b.toNat_lt
    have e1 : (BitVec.ofInt IntKind.u8.bits (a.toNat : Int)).toNat = a.toNat := by simp [IntKind.bits]
    have e2 : (BitVec.ofInt IntKind.u8.bits (b.toNat : Int)).toNat = b.toNat := by simp [IntKind.bits]
    rw [BitVec.toNat_or, e1, e2, UInt8.toNat_or]
    have := Nat.or_lt_two_pow (n := 8) ha hb
    simp only [UInt8.toNat_ofNat']
    omega
  rwa [h2] at h
end Go.Proofs.YtkhlmpkodjoioaaDoor
