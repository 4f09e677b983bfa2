/- Names: the program's part. -/
import Derived.Test.YtkhlmpkodjoioaaDoorN5
import Derived.Test.YtkhlmpkodjoioaaDoorSp
import Derived.Test.YtkhlmpkodjoioaaDoorSh
set_option linter.unusedVariables false
set_option linter.unusedSimpArgs false
set_option maxRecDepth 10000
namespace Go.Proofs.YtkhlmpkodjoioaaDoor
theorem Spec.of_calls {P : Program} {f : FuncId} {fn : Func} {args : Array Value} {w : World} {v : Value} (hf : P.funcs[f]? = some fn) (hn : (fn.name == "runtime.NumGoroutine") = false) (hb : fn.body.isNone = false)
    (h : Calls P f args w fun e w' => e = .returned v ∧ w' = w) : Spec P f args w (fun v' w' => Ext [] w w' ∧ v' = v) := by
  unfold Spec
  exact ⟨⟨fn, hf, hn, hb⟩, h.mono fun e w' ⟨he, hw⟩ => ⟨v, he, by rw [hw]; exact Ext.refl _ _, rfl⟩⟩
theorem let_all : ∀ n : Fin 256, decide (Lib.indexByte lettersL (UInt8.ofNat n.val) < 0) = !isLet (UInt8.ofNat n.val) := by decide +kernel
theorem let_iff (b : UInt8) : Lib.indexByte lettersL b < 0 ↔ isLet b = false := by
  have h := let_all ⟨b.toNat, b.toNat_lt⟩
  have h2 : UInt8.ofNat b.toNat = b := UInt8.toNat_inj.1 (by simp)
  simp only [h2] at h
  rw [← decide_eq_true_iff (p := Lib.indexByte lettersL b < 0), h]
  simp
theorem IndexByte_spec (b : UInt8) (w : World) : Spec Tryd.prog 76 [.string (sOf lettersL), .int .u8 b.toNat].toArray w (fun v w' => Ext [] w w' ∧ v = .int .i64 (Lib.indexByte lettersL b)) := by
  have h := Tryd.strings_IndexByte (sOf lettersL) b.toNat w
  have h2 : ((b.toNat : Int)).toNat.toUInt8 = b := UInt8.toNat_inj.1 (by simp)
  rw [h2] at h
  exact Spec.of_calls Tryd.func76 rfl rfl h
def part2 (r : Except Nat (List UInt8)) : Value := match r with
  | .ok p => .tuple #[.string (sOf p), .int .i64 0]
  | .error x => .tuple #[.string (sOf []), .int .i64 x]
theorem part_spec (v : Value) (b : List UInt8) (n : Nat) (w : World) (hv : Sl EB w v b) (hb : b.length ≤ 4294967296) (hn : n ≤ 4294967296) : Spec Tryd.prog 41 [v, .int .i64 n].toArray w (fun v w' => Ext [] w w' ∧ v = part2 (partP b n [])) := by
  refine Spec.intro Tryd.func41 rfl rfl (Nat.le_of_ble_eq_true rfl) (Mok.start w) ?_
  refine onil EB 5 ?_
  focus
    refine rsr ?_
    refine oy rfl (yas rfl) ?_
    refine oy rfl (yas rfl) ?_
    refine on ?_
    refine pn ?_
    refine rsr ?_
    refine oy rfl (yas rfl) ?_
    refine on ?_
    refine pn ?_
    refine rs_ ?_
    refine rsr ?_
    refine oy rfl (ymv rfl) ?_
    refine oy rfl (ymv rfl) ?_
    refine on ?_
    refine pn ?_
    refine rb ?_
    rotate_left
  refine loop [6, 10] [0, 9] (fun vs H => ∃ (p : List UInt8) (pv : Value) (i : Nat), vs = [pv, .int .i64 i] ∧ H = [ow EB 5 pv p] ∧ i ≤ n ∧ p.length = i ∧ (i = 0 ∨ i ≤ b.length) ∧ partP b n [] = partP (b.drop i) (n - i) p) (fun vs => n - intAt vs 1) rfl rfl (List.Sublist.refl _) ⟨[], _, 0, rfl, rfl, Nat.zero_le _, rfl, .inl rfl, rfl⟩ ?_
  rintro _ _ w' ⟨p, pv, i, rfl, rfl, hi, hpl, hil, hpp⟩
  have hc := (b.getD i 0).toNat_lt
  have hstep : ∀ (h : i < b.length), i < n → partP b n [] = if isLet (low b[i]) then partP (b.drop (i + 1)) (n - (i + 1)) (p ++ [low b[i]]) else .error 14 := fun h h1 => by
    have h3 : n - i = n - (i + 1) + 1 := by omega
    rw [hpp, h3, partP_step h, getD_get h]
  focus
    refine rsr ?_
    refine oy rfl (ybI rfl rfl rfl) ?_
    refine on ?_
    refine pn ?_
    refine rs_ ?_
    refine rcd rfl (fun c1 => ?_) (fun c1 => ?_)
    refine rk ?_
    refine pn ?_
    refine rs_ ?_
    refine rb ?_
    refine rsr ?_
    refine oy rfl (ymv rfl) ?_
    refine oy rfl (yas rfl) ?_
    refine on ?_
    refine pn ?_
    refine rs_ ?_
    refine rsr ?_
    refine oy rfl (ymv rfl) ?_
    refine oy rfl (ymv rfl) ?_
    refine oy rfl (yls rfl (sl_arg hv rfl)) ?_
    refine oy rfl (ybI rfl rfl rfl) ?_
    refine on ?_
    refine pn ?_
    refine rcd rfl (fun c2 => ?_) (fun c2 => ?_)
    refine rsr ?_
    refine oy rfl (yas rfl) ?_
    refine oy rfl (yas rfl) ?_
    refine on ?_
    refine pn ?_
    refine rt ?_
    refine pr ?_
    refine pbr ?_
    refine pr ?_
    refine pr ?_
    refine pbr ?_
    refine pr ?_
    refine ret_ rfl (fun hM => ?_)
    rotate_left
    refine rk ?_
    refine pn ?_
    refine rsr ?_
    refine oy rfl (ymv rfl) ?_
    refine oy rfl (ymv rfl) ?_
    refine oy rfl (yix rfl rfl rfl (sl_arg hv rfl) (by omega)) ?_
    refine oy rfl (yleN rfl rfl (sl_arg hv rfl) (by omega)) ?_
    refine oy rfl (yas rfl) ?_
    refine on ?_
    refine pn ?_
    refine rs_ ?_
    refine rsr ?_
    refine oy rfl (ymv rfl) ?_
    refine oy rfl (ybI rfl rfl rfl) ?_
    refine oy rfl (ymv rfl) ?_
    refine xd (g := 23) rfl (fun c3 => ?_) (fun c3 => ?_)
    refine oyg rfl rfl rfl (ymv rfl) ?_
    refine oyg rfl rfl rfl (ybI rfl rfl rfl) ?_
    refine oy rfl (ypT rfl rfl) ?_
    refine on ?_
    refine pn ?_
    refine rcd rfl (fun c4 => ?_) (fun c4 => ?_)
    refine rr ?_
    refine oy rfl (ymv rfl) ?_
    refine oy rfl (ybU 32 rfl rfl) ?_
    refine oy rfl (yas rfl) ?_
    refine on ?_
    refine pn ?_
    refine rs_ ?_
    refine rsr ?_
    refine oy rfl (ymv rfl) ?_
    refine l0 ?_
    refine ocd rfl rfl (fun hM => IndexByte_spec _ _) (fun w5 => ?_)
    refine oy rfl (ybI rfl rfl rfl) ?_
    refine on ?_
    refine pn ?_
    refine rcd rfl (fun c6 => ?_) (fun c6 => ?_)
    refine rsr ?_
    refine oy rfl (yas rfl) ?_
    refine oy rfl (yas rfl) ?_
    refine on ?_
    refine pn ?_
    refine rt ?_
    refine pr ?_
    refine pbr ?_
    refine pr ?_
    refine pr ?_
    refine pbr ?_
    refine pr ?_
    refine ret_ rfl (fun hM => ?_)
    rotate_left
    refine rk ?_
    refine pn ?_
    refine rr ?_
    refine oy rfl (ymv rfl) ?_
    refine oy rfl (ymv rfl) ?_
    refine l0 ?_
    refine oli EB [_] rfl rfl rfl rfl rfl (fun g7 w7 l7 => ?_)
    refine l0 ?_
    refine oapl 0 rfl rfl rfl rfl rfl rfl (by simp only [List.length_append, List.length_take, List.length_drop, List.length_cons, List.length_nil]; omega) rfl (fun v8 w8 => ?_)
    refine oy rfl (yas rfl) ?_
    refine on ?_
    refine pbn ?_
    refine pn ?_
    refine rr ?_
    refine oy rfl (ybW rfl rfl rfl (by omega)) ?_
    refine oy rfl (ymv rfl) ?_
    refine on ?_
    refine pn ?_
    rotate_left
    refine rk ?_
    refine pn ?_
    refine rs_ ?_
    refine rsr ?_
    refine oy rfl (ymv rfl) ?_
    refine l0 ?_
    refine ocd rfl rfl (fun hM => IndexByte_spec _ _) (fun w9 => ?_)
    refine oy rfl (ybI rfl rfl rfl) ?_
    refine on ?_
    refine pn ?_
    refine rcd rfl (fun c10 => ?_) (fun c10 => ?_)
    refine rsr ?_
    refine oy rfl (yas rfl) ?_
    refine oy rfl (yas rfl) ?_
    refine on ?_
    refine pn ?_
    refine rt ?_
    refine pr ?_
    refine pbr ?_
    refine pr ?_
    refine pr ?_
    refine pbr ?_
    refine pr ?_
    refine ret_ rfl (fun hM => ?_)
    rotate_left
    refine rk ?_
    refine pn ?_
    refine rr ?_
    refine oy rfl (ymv rfl) ?_
    refine oy rfl (ymv rfl) ?_
    refine l0 ?_
    refine oli EB [_] rfl rfl rfl rfl rfl (fun g11 w11 l11 => ?_)
    refine l0 ?_
    refine oapl 0 rfl rfl rfl rfl rfl rfl (by simp only [List.length_append, List.length_take, List.length_drop, List.length_cons, List.length_nil]; omega) rfl (fun v12 w12 => ?_)
    refine oy rfl (yas rfl) ?_
    refine on ?_
    refine pbn ?_
    refine pn ?_
    refine rr ?_
    refine oy rfl (ybW rfl rfl rfl (by omega)) ?_
    refine oy rfl (ymv rfl) ?_
    refine on ?_
    refine pn ?_
    rotate_left
    refine ln rfl rfl rfl rfl ?_
    refine ln rfl rfl rfl rfl ?_
    refine oy rfl (ypF rfl rfl) ?_
    refine on ?_
    refine pn ?_
    refine rcF rfl ?_
    refine rk ?_
    refine pn ?_
    refine rs_ ?_
    refine rsr ?_
    refine oy rfl (ymv rfl) ?_
    refine l0 ?_
    refine ocd rfl rfl (fun hM => IndexByte_spec _ _) (fun w13 => ?_)
    refine oy rfl (ybI rfl rfl rfl) ?_
    refine on ?_
    refine pn ?_
    refine rcd rfl (fun c14 => ?_) (fun c14 => ?_)
    refine rsr ?_
    refine oy rfl (yas rfl) ?_
    refine oy rfl (yas rfl) ?_
    refine on ?_
    refine pn ?_
    refine rt ?_
    refine pr ?_
    refine pbr ?_
    refine pr ?_
    refine pr ?_
    refine pbr ?_
    refine pr ?_
    refine ret_ rfl (fun hM => ?_)
    rotate_left
    refine rk ?_
    refine pn ?_
    refine rr ?_
    refine oy rfl (ymv rfl) ?_
    refine oy rfl (ymv rfl) ?_
    refine l0 ?_
    refine oli EB [_] rfl rfl rfl rfl rfl (fun g15 w15 l15 => ?_)
    refine l0 ?_
    refine oapl 0 rfl rfl rfl rfl rfl rfl (by simp only [List.length_append, List.length_take, List.length_drop, List.length_cons, List.length_nil]; omega) rfl (fun v16 w16 => ?_)
    refine oy rfl (yas rfl) ?_
    refine on ?_
    refine pbn ?_
    refine pn ?_
    refine rr ?_
    refine oy rfl (ybW rfl rfl rfl (by omega)) ?_
    refine oy rfl (ymv rfl) ?_
    refine on ?_
    refine pn ?_
    rotate_left
    refine re ?_
    refine pe ?_
    refine pe ?_
    refine pbe ?_
    refine pn ?_
    refine rsr ?_
    refine oy rfl (ymv rfl) ?_
    refine oy rfl (ycB rfl (sl_own 0 rfl)) ?_
    refine oy rfl (yas rfl) ?_
    refine oy rfl (yas rfl) ?_
    refine on ?_
    refine pn ?_
    refine rt ?_
    refine ret_ rfl (fun hM => ?_)
    rotate_left
  · exact ⟨hM.ext, by rw [hpp, partP_end (by omega) (by omega)]; rfl⟩
  · have hib : i < b.length := by omega
    refine ⟨hM.ext, ?_⟩
    rw [hstep hib (by omega), low_hi (by omega) (by omega), if_neg (by rw [let_iff] at c6; simpa using c6)]
    rfl
  · have hib : i < b.length := by omega
    refine round rfl rfl (List.Sublist.refl _) ⟨p ++ [b[i] + 32], _, i + 1, rfl, rfl, by omega, by simp [hpl], by omega, ?_⟩ (show n - (i + 1) < n - i by omega)
    rw [hstep hib (by omega), low_hi (by omega) (by omega), if_pos (by rw [let_iff] at c6; simpa using c6)]
  · have hib : i < b.length := by omega
    refine ⟨hM.ext, ?_⟩
    rw [hstep hib (by omega), low_lo (by omega), if_neg (by rw [let_iff] at c10; simpa using c10)]
    rfl
  · have hib : i < b.length := by omega
    refine round rfl rfl (List.Sublist.refl _) ⟨p ++ [b[i]], _, i + 1, rfl, rfl, by omega, by simp [hpl], by omega, ?_⟩ (show n - (i + 1) < n - i by omega)
    rw [hstep hib (by omega), low_lo (by omega), if_pos (by rw [let_iff] at c10; simpa using c10)]
  · have hib : i < b.length := by omega
    refine ⟨hM.ext, ?_⟩
    rw [hstep hib (by omega), low_lo (by omega), if_neg (by rw [let_iff] at c14; simpa using c14)]
    rfl
  · have hib : i < b.length := by omega
    refine round rfl rfl (List.Sublist.refl _) ⟨p ++ [b[i]], _, i + 1, rfl, rfl, by omega, by simp [hpl], by omega, ?_⟩ (show n - (i + 1) < n - i by omega)
    rw [hstep hib (by omega), low_lo (by omega), if_pos (by rw [let_iff] at c14; simpa using c14)]
  · refine ⟨hM.ext, ?_⟩
    have h0 : i = n := by omega
    rw [hpp, h0, Nat.sub_self]
    unfold partP
    rfl
end Go.Proofs.YtkhlmpkodjoioaaDoor
