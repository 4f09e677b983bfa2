/- The rules for operations that yield a value and change nothing. -/
import Derived.Test.YtkhlmpkodjoioaaDoorRu
set_option linter.unusedVariables false
set_option linter.unusedSimpArgs false
namespace Go.Proofs.YtkhlmpkodjoioaaDoor
/-- A number that is none below nought, told as one. -/
class NatI (m : Int) (j : outParam Nat) : Prop where out : m = j
instance (j : Nat) : NatI (j : Int) j := ⟨rfl⟩
instance (j : Nat) : NatI (no_index (OfNat.ofNat j) : Int) (@OfNat.ofNat Nat j (instOfNatNat j)) := ⟨rfl⟩
instance (j : Nat) : NatI (Int.ofNat j) j := ⟨rfl⟩
instance {a b : Int} {i j : Nat} [h : NatI a i] [k : NatI b j] : NatI (a + b) (i + j) := ⟨by rw [h.out, k.out]; simp⟩
instance {a b : Int} {i j : Nat} [h : NatI a i] [k : NatI b j] : NatI (a * b) (i * j) := ⟨by rw [h.out, k.out]; simp⟩
variable {P : Program} {n : Nat} {e : Env} {M : Mem} {ds : Option Tmp} {ty : TypeId} {ps : String} {af : Array Edge} {gd : Option (Nat × Bool)} {op : Op} {v : Value} {x y z c : Operand}
theorem Yd.pure (h : ∀ a, Sat n e a → ∀ w, (execOp a.eval ⟨ds, op, ty, ps, af, gd⟩).run P w = .ok (.value v) w) : Yd P n e M ⟨ds, op, ty, ps, af, gd⟩ v := by
  unfold Yd; exact fun w _ a ha => h a ha w
theorem y1 {ob : Prop} (hst : opSt P e ⟨ds, op, ty, ps, af, gd⟩ = .p ob v) (hob : ob) : Yd P n e M ⟨ds, op, ty, ps, af, gd⟩ v :=
  Yd.pure fun a ha w => by have h0 := opSt_ok (P := P) ha ⟨ds, op, ty, ps, af, gd⟩; rw [hst] at h0; exact h0 hob w
theorem y0 (hst : opSt P e ⟨ds, op, ty, ps, af, gd⟩ = .p True v) : Yd P n e M ⟨ds, op, ty, ps, af, gd⟩ v := y1 hst trivial
theorem yi {k : IntKind} (hst : opSt P e ⟨ds, op, ty, ps, af, gd⟩ = .p (k = k) v) : Yd P n e M ⟨ds, op, ty, ps, af, gd⟩ v := y1 hst rfl
theorem yw {m : Int} (hst : opSt P e ⟨ds, op, ty, ps, af, gd⟩ = .p (IntKind.i64 = IntKind.i64) (.int .i64 (IntKind.i64.wrap m))) (hb : -9223372036854775808 ≤ m ∧ m ≤ 9223372036854775807) : Yd P n e M ⟨ds, op, ty, ps, af, gd⟩ (.int .i64 m) :=
  wrap_eq hb.1 hb.2 ▸ y1 hst rfl
theorem ys {t : TypeId} {ob : Prop} [Und P t .string] (hst : opSt P e ⟨ds, op, ty, ps, af, gd⟩ = .ps t ob v) (hob : ob) : Yd P n e M ⟨ds, op, ty, ps, af, gd⟩ v :=
  Yd.pure fun a ha w => by have h0 := opSt_ok (P := P) ha ⟨ds, op, ty, ps, af, gd⟩; rw [hst] at h0; exact h0 Und.out hob w
theorem yl {t el : TypeId} [Und P t (.slice el)] (hst : opSt P e ⟨ds, op, ty, ps, af, gd⟩ = .pl t v) : Yd P n e M ⟨ds, op, ty, ps, af, gd⟩ v :=
  Yd.pure fun a ha w => by have h0 := opSt_ok (P := P) ha ⟨ds, op, ty, ps, af, gd⟩; rw [hst] at h0; exact h0 el Und.out w
theorem yc {s t : TypeId} {u : TypeDesc} {k : IntKind} {m : Int} [Und P s u] [Und P t (.int k)] (hst : opSt P e ⟨ds, op, ty, ps, af, gd⟩ = .cv s t m) : Yd P n e M ⟨ds, op, ty, ps, af, gd⟩ (.int k (k.wrap m)) :=
  Yd.pure fun a ha w => by have h0 := opSt_ok (P := P) ha ⟨ds, op, ty, ps, af, gd⟩; rw [hst] at h0; exact h0 u k Und.out Und.out w
theorem yv {s : Sem Value} (hst : opSt P e ⟨ds, op, ty, ps, af, gd⟩ = .v s) (hr : ∀ w, Mok M w → s.run P w = .ok v w) : Yd P n e M ⟨ds, op, ty, ps, af, gd⟩ v := by
  unfold Yd
  exact fun w hM a ha => by have h0 := opSt_ok (P := P) ha ⟨ds, op, ty, ps, af, gd⟩; rw [hst] at h0; exact h0 w v w (hr w hM)
theorem ymv (hx : ev e x = some v) : Yd P n e M ⟨ds, .move x, ty, ps, af, gd⟩ v := y0 (by simp [opSt, hx])
theorem yas (hx : ev e x = some v) : Yd P n e M ⟨ds, .assign x, ty, ps, af, gd⟩ v := y0 (by simp [opSt, hx])
theorem ypT (hc : ev e c = some (.bool true)) (hx : ev e x = some v) : Yd P n e M ⟨ds, .pick c x y, ty, ps, af, gd⟩ v := y0 (by simp [opSt, hc, hx])
theorem ypF (hc : ev e c = some (.bool false)) (hx : ev e y = some v) : Yd P n e M ⟨ds, .pick c x y, ty, ps, af, gd⟩ v := y0 (by simp [opSt, hc, hx])
variable {t t' s s' : TypeId}
theorem ybW {o : BinOp} {i j m : Int} (hx : ev e x = some (.int .i64 i)) (hy : ev e y = some (.int .i64 j)) (hst : intSt o .i64 i .i64 j = .p (IntKind.i64 = IntKind.i64) (.int .i64 (IntKind.i64.wrap m)))
    (hb : -9223372036854775808 ≤ m ∧ m ≤ 9223372036854775807) : Yd P n e M ⟨ds, .binOp o t x y t', ty, ps, af, gd⟩ (.int .i64 m) := yw (by simp only [opSt, hx, hy, binSt, hst]) hb
theorem ybI {o : BinOp} {k : IntKind} {i j : Int} (hx : ev e x = some (.int k i)) (hy : ev e y = some (.int k j)) (hst : intSt o k i k j = .p (k = k) v) : Yd P n e M ⟨ds, .binOp o t x y t', ty, ps, af, gd⟩ v := yi (k := k) (by simp only [opSt, hx, hy, binSt, hst])
theorem ybO {o : BinOp} {k k' : IntKind} {i j : Int} {ob : Prop} (hx : ev e x = some (.int k i)) (hy : ev e y = some (.int k' j)) (hst : intSt o k i k' j = .p ob v) (hob : ob) : Yd P n e M ⟨ds, .binOp o t x y t', ty, ps, af, gd⟩ v := y1 (by simp only [opSt, hx, hy, binSt, hst]) hob
/-- A shift by a number that is known; bits of numbers that aren't below nought. -/
theorem yshl {k' : IntKind} {i : Int} (c : Nat) (q : Int) (hx : ev e x = some (.int .i64 i)) (hy : ev e y = some (.int k' c)) (hc : Nat.ble c 62 = true) (hq : (2 : Int) ^ c = q) (hb : -9223372036854775808 ≤ i * q ∧ i * q ≤ 9223372036854775807) :
    Yd P n e M ⟨ds, .binOp .shl t x y t', ty, ps, af, gd⟩ (.int .i64 (i * q)) := by
  have hc := Nat.le_of_ble_eq_true hc
  have h : Yd P n e M ⟨ds, .binOp .shl t x y t', ty, ps, af, gd⟩ (.int .i64 (IntKind.i64.wrap (i * 2 ^ (min (c : Int).toNat IntKind.i64.bits)))) := y1 (by simp only [opSt, hx, hy, binSt, intSt]) (Int.natCast_nonneg c)
  have h2 : min (c : Int).toNat IntKind.i64.bits = c := by simp [IntKind.bits]; omega
  rw [h2, hq, wrap_eq hb.1 hb.2] at h
  exact h
theorem yshr {k' : IntKind} {m : Int} {i : Nat} [hm : NatI m i] (c q : Nat) (hx : ev e x = some (.int .i64 m)) (hy : ev e y = some (.int k' c)) (hc : Nat.ble c 62 = true) (hq : 2 ^ c = q) :
    Yd P n e M ⟨ds, .binOp .shr t x y t', ty, ps, af, gd⟩ (.int .i64 (i / q : Nat)) := by
  obtain rfl := hm.out
  have hc := Nat.le_of_ble_eq_true hc
  have h : Yd P n e M ⟨ds, .binOp .shr t x y t', ty, ps, af, gd⟩ (.int .i64 ((i : Int).fdiv (2 ^ (min (c : Int).toNat IntKind.i64.bits)))) := y1 (by simp only [opSt, hx, hy, binSt, intSt]) (Int.natCast_nonneg c)
  have h2 : min (c : Int).toNat IntKind.i64.bits = c := by simp [IntKind.bits]; omega
  have h3 : (i : Int).fdiv (2 ^ c) = ((i / q : Nat) : Int) := by
    rw [← hq, Int.fdiv_eq_ediv_of_nonneg _ (Int.pow_nonneg (by decide))]
    simp
  rw [h2, h3] at h
  exact h
theorem wrap_bits {a : Nat} (h : a < 9223372036854775808) : IntKind.i64.wrap ((a : Nat) : Int) = a := wrap_eq (by omega) (by omega)
theorem bits_nat {i : Nat} (h : i < 9223372036854775808) : (BitVec.ofInt IntKind.i64.bits (i : Int)).toNat = i := by
  simp [IntKind.bits]; omega
theorem yand {m m' : Int} {i j : Nat} [hm : NatI m i] [hm' : NatI m' j] (hx : ev e x = some (.int .i64 m)) (hy : ev e y = some (.int .i64 m')) (hi : i < 9223372036854775808) (hj : j < 9223372036854775808) :
    Yd P n e M ⟨ds, .binOp .and t x y t', ty, ps, af, gd⟩ (.int .i64 (i &&& j : Nat)) := by
  obtain rfl := hm.out
  obtain rfl := hm'.out
  have h : Yd P n e M ⟨ds, .binOp .and t x y t', ty, ps, af, gd⟩ (.int .i64 (IntKind.i64.wrap (BitVec.ofInt IntKind.i64.bits (i : Int) &&& BitVec.ofInt IntKind.i64.bits (j : Int)).toNat)) := yi (k := .i64) (by simp only [opSt, hx, hy, binSt, intSt])
  rw [BitVec.toNat_and, bits_nat hi, bits_nat hj, wrap_bits (Nat.lt_of_le_of_lt Nat.and_le_left hi)] at h
  exact h
theorem yor {m m' : Int} {i j : Nat} [hm : NatI m i] [hm' : NatI m' j] (hx : ev e x = some (.int .i64 m)) (hy : ev e y = some (.int .i64 m')) (hi : i < 9223372036854775808) (hj : j < 9223372036854775808) :
    Yd P n e M ⟨ds, .binOp .or t x y t', ty, ps, af, gd⟩ (.int .i64 (i ||| j : Nat)) := by
  obtain rfl := hm.out
  obtain rfl := hm'.out
  have h : Yd P n e M ⟨ds, .binOp .or t x y t', ty, ps, af, gd⟩ (.int .i64 (IntKind.i64.wrap (BitVec.ofInt IntKind.i64.bits (i : Int) ||| BitVec.ofInt IntKind.i64.bits (j : Int)).toNat)) := yi (k := .i64) (by simp only [opSt, hx, hy, binSt, intSt])
  rw [BitVec.toNat_or, bits_nat hi, bits_nat hj, wrap_bits (Nat.or_lt_two_pow (n := 63) hi hj)] at h
  exact h
theorem ybS {o : BinOp} {a b : List UInt8} (hx : ev e x = some (.string (sOf a))) (hy : ev e y = some (.string (sOf b))) (hst : strSt o (sOf a) (sOf b) = .p True v) : Yd P n e M ⟨ds, .binOp o t x y t', ty, ps, af, gd⟩ v := y0 (by simp only [opSt, hx, hy, binSt, hst])
theorem ybE {a b : List UInt8} (hx : ev e x = some (.string (sOf a))) (hy : ev e y = some (.string (sOf b))) : Yd P n e M ⟨ds, .binOp .eql t x y t', ty, ps, af, gd⟩ (.bool (decide (a = b))) := ybS hx hy rfl
theorem ybN {a b : List UInt8} (hx : ev e x = some (.string (sOf a))) (hy : ev e y = some (.string (sOf b))) : Yd P n e M ⟨ds, .binOp .neq t x y t', ty, ps, af, gd⟩ (.bool (decide (a ≠ b))) := ybS hx hy rfl
theorem yba {a b : List UInt8} (hx : ev e x = some (.string (sOf a))) (hy : ev e y = some (.string (sOf b))) (hb : a.length + b.length ≤ 9223372036854775807) : Yd P n e M ⟨ds, .binOp .add t x y t', ty, ps, af, gd⟩ (.string (sOf (a ++ b))) := y1 (by simp only [opSt, hx, hy, binSt, strSt, bs_sOf]) hb
theorem yno {b : Bool} (hx : ev e x = some (.bool b)) : Yd P n e M ⟨ds, .unOp .not t x, ty, ps, af, gd⟩ (.bool (!b)) := y0 (by simp only [opSt, hx, unSt])
theorem yng {i : Int} (hx : ev e x = some (.int .i64 i)) (hb : -9223372036854775807 ≤ i ∧ i ≤ 9223372036854775807) : Yd P n e M ⟨ds, .unOp .neg t x, ty, ps, af, gd⟩ (.int .i64 (0 - i)) := by
  have h := y0 (P := P) (n := n) (e := e) (M := M) (ds := ds) (op := .unOp .neg t x) (ty := ty) (ps := ps) (af := af) (gd := gd) (by simp only [opSt, hx, unSt]; rfl)
  rwa [wrap_eq (by omega) (by omega)] at h
theorem ysi {a : List UInt8} {k : IntKind} {j : Int} [Und P t .string] (hx : ev e x = some (.string (sOf a))) (hy : ev e y = some (.int k j)) (hb : 0 ≤ j ∧ j < a.length) : Yd P n e M ⟨ds, .index t x y, ty, ps, af, gd⟩ (.int .u8 (a.getD j.toNat 0).toNat) := ys (t := t) (by simp only [opSt, hx, hy, idxSt, bs_sOf]) hb
theorem ys1 {a : List UInt8} {k : IntKind} {j : Int} [Und P t .string] (hx : ev e x = some (.string (sOf a))) (hy : ev e y = some (.int k j)) (hb : 0 ≤ j ∧ j ≤ a.length) : Yd P n e M ⟨ds, .slice t x none (some y) none, ty, ps, af, gd⟩ (.string (sOf (a.take j.toNat))) := ys (t := t) (by simp only [opSt, hx, hy, evo, subSt, bs_sOf]) hb
theorem ys2 {a : List UInt8} {k : IntKind} {j : Int} [Und P t .string] (hx : ev e x = some (.string (sOf a))) (hy : ev e y = some (.int k j)) (hb : 0 ≤ j ∧ j ≤ a.length) : Yd P n e M ⟨ds, .slice t x (some y) none none, ty, ps, af, gd⟩ (.string (sOf (a.drop j.toNat))) := ys (t := t) (by simp only [opSt, hx, hy, evo, subSt, bs_sOf]) hb
theorem ys3 {a : List UInt8} {k k' : IntKind} {i j : Int} [Und P t .string] (hx : ev e x = some (.string (sOf a))) (hy : ev e y = some (.int k i)) (hz : ev e z = some (.int k' j)) (hb : 0 ≤ i ∧ i ≤ j ∧ j ≤ a.length) :
    Yd P n e M ⟨ds, .slice t x (some y) (some z) none, ty, ps, af, gd⟩ (.string (sOf ((a.take j.toNat).drop i.toNat))) := ys (t := t) (by simp only [opSt, hx, hy, hz, evo, subSt, bs_sOf]) hb
theorem ysiN {a : List UInt8} {k : IntKind} {m : Int} {j : Nat} [hm : NatI m j] [Und P t .string] (hx : ev e x = some (.string (sOf a))) (hy : ev e y = some (.int k m)) (hb : j < a.length) : Yd P n e M ⟨ds, .index t x y, ty, ps, af, gd⟩ (.int .u8 (a.getD j 0).toNat) := by obtain rfl := hm.out; exact ysi hx hy (by omega)
theorem ys1N {a : List UInt8} {k : IntKind} {m : Int} {j : Nat} [hm : NatI m j] [Und P t .string] (hx : ev e x = some (.string (sOf a))) (hy : ev e y = some (.int k m)) (hb : j ≤ a.length) : Yd P n e M ⟨ds, .slice t x none (some y) none, ty, ps, af, gd⟩ (.string (sOf (a.take j))) := by obtain rfl := hm.out; exact ys1 hx hy (by omega)
theorem ys2N {a : List UInt8} {k : IntKind} {m : Int} {j : Nat} [hm : NatI m j] [Und P t .string] (hx : ev e x = some (.string (sOf a))) (hy : ev e y = some (.int k m)) (hb : j ≤ a.length) : Yd P n e M ⟨ds, .slice t x (some y) none none, ty, ps, af, gd⟩ (.string (sOf (a.drop j))) := by obtain rfl := hm.out; exact ys2 hx hy (by omega)
theorem ys3N {a : List UInt8} {k k' : IntKind} {m m' : Int} {i j : Nat} [hm : NatI m i] [hm' : NatI m' j] [Und P t .string] (hx : ev e x = some (.string (sOf a))) (hy : ev e y = some (.int k m)) (hz : ev e z = some (.int k' m')) (hb : i ≤ j ∧ j ≤ a.length) :
    Yd P n e M ⟨ds, .slice t x (some y) (some z) none, ty, ps, af, gd⟩ (.string (sOf ((a.take j).drop i))) := by obtain rfl := hm.out; obtain rfl := hm'.out; exact ys3 hx hy hz (by omega)
theorem yex {i : Nat} {vs : Array Value} (hx : ev e x = some (.tuple vs)) (hv : vs.toList[i]? = some v) : Yd P n e M ⟨ds, .extract x i, ty, ps, af, gd⟩ v := y0 (by simp only [opSt, hx, extSt, hv])
theorem ycI {k k' : IntKind} {u : TypeDesc} {m : Int} [Und P s u] [Und P t (.int k')] (hx : ev e x = some (.int k m)) : Yd P n e M ⟨ds, .convert s t x, ty, ps, af, gd⟩ (.int k' (k'.wrap m)) := yc (s := s) (t := t) (u := u) (by simp only [opSt, hx, convSt])
theorem ycW {k : IntKind} {u : TypeDesc} {m : Int} [Und P s u] [Und P t (.int .i64)] (hx : ev e x = some (.int k m)) (hb : -9223372036854775808 ≤ m ∧ m ≤ 9223372036854775807) : Yd P n e M ⟨ds, .convert s t x, ty, ps, af, gd⟩ (.int .i64 m) :=
  wrap_eq hb.1 hb.2 ▸ yc (s := s) (t := t) (u := u) (by simp only [opSt, hx, convSt])
theorem wrap_u8 (m : Int) : IntKind.u8.wrap m = ((UInt8.ofNat (m % 256).toNat).toNat : Int) := by
  have h : IntKind.u8.wrap m = m % 256 := by simp [IntKind.wrap, IntKind.bits, IntKind.signed]
  have h1 := Int.emod_nonneg m (show (256 : Int) ≠ 0 by decide)
  have h2 := Int.emod_lt_of_pos m (show (0 : Int) < 256 by decide)
  rw [h, UInt8.toNat_ofNat_of_lt' (by show _ < 256; omega)]
  omega
theorem ofNat_mod (k : Nat) : UInt8.ofNat (((k : Int) % 256).toNat) = UInt8.ofNat k := by
  apply UInt8.toNat_inj.1
  simp only [UInt8.toNat_ofNat']
  omega
theorem ycU {k : IntKind} {u : TypeDesc} {m : Nat} [Und P s u] [Und P t (.int .u8)] (hx : ev e x = some (.int k m)) : Yd P n e M ⟨ds, .convert s t x, ty, ps, af, gd⟩ (.int .u8 (UInt8.ofNat m).toNat) := by
  have h := yc (P := P) (n := n) (e := e) (M := M) (ds := ds) (op := .convert s t x) (ty := ty) (ps := ps) (af := af) (gd := gd) (s := s) (t := t) (u := u) (k := .u8) (m := m) (by simp only [opSt, hx, convSt])
  rwa [wrap_u8, ofNat_mod] at h
theorem ycb {u : TypeDesc} (c : UInt8) [Und P s u] [Und P t (.int .i64)] (hx : ev e x = some (.int .u8 c.toNat)) : Yd P n e M ⟨ds, .convert s t x, ty, ps, af, gd⟩ (.int .i64 c.toNat) :=
  ycW hx (by have := c.toNat_lt; omega)
theorem ycV {k : IntKind} {u : TypeDesc} {m : Int} [Und P s u] [Und P t (.int .u8)] (hx : ev e x = some (.int k m)) : Yd P n e M ⟨ds, .convert s t x, ty, ps, af, gd⟩ (.int .u8 (UInt8.ofNat (m % 256).toNat).toNat) := by
  have h := yc (P := P) (n := n) (e := e) (M := M) (ds := ds) (op := .convert s t x) (ty := ty) (ps := ps) (af := af) (gd := gd) (s := s) (t := t) (u := u) (k := .u8) (m := m) (by simp only [opSt, hx, convSt])
  rwa [wrap_u8] at h
theorem ybU {a : UInt8} (b : UInt8) (hx : ev e x = some (.int .u8 a.toNat)) (hy : ev e y = some (.int .u8 b.toNat)) : Yd P n e M ⟨ds, .binOp .add t x y t', ty, ps, af, gd⟩ (.int .u8 (a + b).toNat) := by
  have h := ybI (P := P) (n := n) (M := M) (ds := ds) (ty := ty) (ps := ps) (af := af) (gd := gd) (t := t) (t' := t') (o := .add) hx hy rfl
  rw [wrap_u8] at h
  have h2 : UInt8.ofNat (((a.toNat : Int) + b.toNat) % 256).toNat = a + b := by
    apply UInt8.toNat_inj.1
    simp only [UInt8.toNat_ofNat', UInt8.toNat_add]
    omega
  rwa [h2] at h
theorem run_convS {a : ByteArray} (hs : P.underlying s = some .string) (ht : P.underlying t = some .string) (w : World) : (convert s t (.string a)).run P w = .ok (.string a) w := by
  simp [convert, underlying, hs, ht]
theorem ycS {a : ByteArray} [hs : Und P s .string] [ht : Und P t .string] (hx : ev e x = some (.string a)) : Yd P n e M ⟨ds, .convert s t x, ty, ps, af, gd⟩ (.string a) := yv (by simp only [opSt, hx, convSt]) fun w _ => run_convS hs.out ht.out w
theorem ync {p : Addr} (hx : ev e x = some (.pointer (some p))) : Yd P n e M ⟨ds, .nilCheck x, ty, ps, af, gd⟩ (.pointer (some p)) := y0 (by simp only [opSt, hx])
theorem ymf {fn : Fn} {first cap : Array Operand} {us vs : List Value} (hu : evs e first.toList = some us) (hv : evs e cap.toList = some vs) : Yd P n e M ⟨ds, .makeFunc fn first cap, ty, ps, af, gd⟩ (.func fn us.toArray vs.toArray) := y0 (by simp only [opSt, hu, hv])
theorem yln {a : List UInt8} [Und P t .string] (hx : ev e x = some (.string (sOf a))) : Yd P n e M ⟨ds, .call { callee := .builtin .len, args := #[x], argTypes := #[t] }, ty, ps, af, gd⟩ (.int .i64 a.length) := ys (t := t) (by simp only [opSt, evs, hx, lenSt, bs_sOf]) trivial
theorem yll {el : TypeId} {p : Option Addr} {m c : Nat} [Und P t (.slice el)] (hx : ev e x = some (.slice p m c)) : Yd P n e M ⟨ds, .call { callee := .builtin .len, args := #[x], argTypes := #[t] }, ty, ps, af, gd⟩ (.int .i64 m) := yl (t := t) (el := el) (by simp only [opSt, evs, hx, lenSt])

/-! ### Boxes -/
theorem yfa {T g off f o : Nat} [hf : Fa P T f o] (hx : ev e x = some (.pointer (some ⟨g, off, none⟩))) :
    Yd P n e M ⟨ds, .fieldAddr T x f, ty, ps, af, gd⟩ (.pointer (some ⟨g, off + o, none⟩)) := yv (by simp only [opSt, hx]; rfl) fun w _ => by
  obtain ⟨fs, fld, k, hu, hf', rfl, hz⟩ := hf.get
  obtain ⟨inf, hinf, hz⟩ := Option.map_eq_some_iff.1 hz
  simp [Instr.fieldAt, run_underlying hu, hf', Instr.sureAddr, fieldPlace, sizeOf, typeInfo, hinf, hz, addr_add]
theorem yld {T T' g off : Nat} {cs : Array Value} {fr : Nat × Nat} [hn : Nag P T] (i : Nat) (hx : ev e x = some (.pointer (some ⟨g, off, none⟩))) (hi : M.H[i]? = some (bx g (.cells cs T' fr))) (hv : cs.toList[off]? = some v) :
    Yd P n e M ⟨ds, .load T x, ty, ps, af, gd⟩ v := yv (by simp only [opSt, hx]; rfl) fun w hM => by
  have hb : w.heap[g]? = some (.cells cs T' fr) := hM.fact i _ hi
  have hc : w.cell? ⟨g, off, none⟩ = some v := by simpa [World.cell?, hb] using hv
  simp [Instr.loadAt, Instr.sureAddr, loadVar, run_isAgg_nag hn.out, hc]
theorem run_ValW {s : Sem Value} {w : World} (h : ValW P s w (fun u w' => u = v ∧ w' = w)) : s.run P w = .ok v w := by
  unfold ValW at h
  obtain ⟨u, w', hr, rfl, rfl⟩ := h
  exact hr
theorem ylS {T T' g k : Nat} {fs : Array Field} {cs : Array Value} {fr : Nat × Nat} [hu : Und P T (.struct fs)] [hz : Sz P T k] (i : Nat) (hx : ev e x = some (.pointer (some ⟨g, 0, none⟩))) (hi : M.H[i]? = some (bx g (.cells cs T' fr))) (hv : cs.size = k) :
    Yd P n e M ⟨ds, .load T x, ty, ps, af, gd⟩ (.agg cs) := yv (by simp only [opSt, hx]; rfl) fun w hM => by
  have hb : w.heap[g]? = some (.cells cs T' fr) := hM.fact i _ hi
  refine run_ValW (ValW.ldS (n := k) (At.of_cells (cs := cs.toList) hb fun j u hj => by simpa using hj) hu.out hz.out (by simp [hv]) ⟨?_, rfl⟩)
  subst hv
  simp [List.take_of_length_le]

/-! ### Elements of a slice -/
def adr (k : Nat) (v : Value) (i : Int) : Value := match v with
  | .slice (some ⟨g, off, _⟩) _ _ => .pointer (some ⟨g, off + i.toNat * k, none⟩)
  | _ => undef
def ado (p : Value) (d : Nat) : Value := match p with
  | .pointer (some ⟨g, off, _⟩) => .pointer (some ⟨g, off + d, none⟩)
  | _ => undef
variable {α : Type} {E : En α} {u : Value} {xs : List α} {T k : Nat}
theorem adr_at {w : World} {i : Int} {r : α} (h : Sl E w u xs) (h0 : 0 ≤ i) (hx : xs[i.toNat]? = some r) : ∃ g off, adr E.k u i = .pointer (some ⟨g, off, none⟩) ∧ At w g off (E.val r).cells.toList := by
  obtain ⟨p, c, rfl, h1, h2, h3⟩ := h
  obtain ⟨hlt, hxe⟩ := List.getElem?_eq_some_iff.1 hx
  rcases h3 with rfl | ⟨g, off, rfl, h4⟩
  · simp at hlt
  · have hat := h4.elem i.toNat hlt
    rw [hxe] at hat
    exact ⟨g, _, rfl, hat⟩
theorem yix {ki : IntKind} {i : Int} [ht : Und P t (.slice T)] [hz : Sz P T k] (hx : ev e x = some u) (hy : ev e y = some (.int ki i)) (hk : E.k = k) (hs : ∀ w, Mok M w → Sl E w u xs) (hb : 0 ≤ i ∧ i < xs.length) :
    Yd P n e M ⟨ds, .indexAddr t x y, ty, ps, af, gd⟩ (adr k u i) := yv (by simp only [opSt, hx, hy]; rfl) fun w hM => by
  obtain ⟨p, c, rfl, h1, h2, h3⟩ := hs w hM
  obtain ⟨h0, h4⟩ := hb
  rcases h3 with rfl | ⟨g, off, rfl, h5⟩
  · simp at h4; omega
  · obtain ⟨inf, hinf, hs2⟩ := Option.map_eq_some_iff.1 hz.out
    simp [Instr.indexAt, asIntOf, run_underlying ht.out, h0, h4, sizeOf, typeInfo, hinf, hs2, addr_add, adr]
theorem yls {el : TypeId} [hu : Und P t (.slice el)] (hx : ev e x = some u) (hs : ∀ w, Mok M w → Sl E w u xs) : Yd P n e M ⟨ds, .call { callee := .builtin .len, args := #[x], argTypes := #[t] }, ty, ps, af, gd⟩ (.int .i64 xs.length) := by
  unfold Yd
  intro w hM a ha
  obtain ⟨p, c, rfl⟩ := (hs w hM).form
  have h := yll (P := P) (n := n) (M := M) (ds := ds) (ty := ty) (ps := ps) (af := af) (gd := gd) (t := t) hx
  unfold Yd at h
  exact h w hM a ha
/-- x[i], read. -/
class Ld (P : Program) {α : Type} (E : En α) (T : TypeId) : Prop where out : ∀ (w : World) (g off : Nat) (x : α), At w g off (E.val x).cells.toList → (Instr.loadAt T (.pointer (some ⟨g, off, none⟩))).run P w = .ok (E.val x) w
theorem Ld.scalar [h : Nag P T] (hv : ∀ x, (E.val x).cells = #[E.val x]) : Ld P E T := ⟨fun w g off x hat => by
  rw [hv] at hat
  have h0 := hat 0 _ rfl
  simp only [Nat.add_zero] at h0
  simp [Instr.loadAt, Instr.sureAddr, loadVar, run_isAgg_nag h.out, h0]⟩
theorem Ld.struct {fs : Array Field} [hu : Und P T (.struct fs)] [hz : Sz P T k] (hk : E.k = k) (hv : ∀ x, E.val x = .agg (E.val x).cells) : Ld P E T := ⟨fun w g off x hat => by
  refine run_ValW (ValW.ldS hat hu.out hz.out (by rw [Array.length_toList, E.len, hk]; exact Nat.le_refl _) ⟨?_, rfl⟩)
  rw [List.take_of_length_le (by rw [Array.length_toList, E.len, hk]; exact Nat.le_refl _)]
  simp [← hv]⟩
theorem yle {i : Int} {r : α} [hl : Ld P E T] (hx : ev e x = some (adr k u i)) (hk : E.k = k) (hs : ∀ w, Mok M w → Sl E w u xs) (h0 : 0 ≤ i) (hr : xs[i.toNat]? = some r) : Yd P n e M ⟨ds, .load T x, ty, ps, af, gd⟩ (E.val r) :=
  yv (by simp only [opSt, hx]; rfl) fun w hM => by
    obtain ⟨g, off, ha, hat⟩ := adr_at (hs w hM) h0 hr
    rw [← hk, ha]
    exact hl.out w g off r hat
theorem yleN {m : Int} {i : Nat} [hl : Ld P E T] [hm : NatI m i] (hx : ev e x = some (adr k u m)) (hk : E.k = k) (hs : ∀ w, Mok M w → Sl E w u xs) (hr : i < xs.length) : Yd P n e M ⟨ds, .load T x, ty, ps, af, gd⟩ (E.val xs[i]) :=
  by obtain rfl := hm.out; exact yle hx hk hs (Int.natCast_nonneg i) (List.getElem?_eq_getElem hr)
theorem yfe {i : Int} {f o : Nat} [hf : Fa P T f o] (hx : ev e x = some (adr k u i)) (hk : E.k = k) (hs : ∀ w, Mok M w → Sl E w u xs) (hb : 0 ≤ i ∧ i < xs.length) :
    Yd P n e M ⟨ds, .fieldAddr T x f, ty, ps, af, gd⟩ (ado (adr k u i) o) := yv (by simp only [opSt, hx]; rfl) fun w hM => by
  have hl : i.toNat < xs.length := by omega
  obtain ⟨g, off, ha, _⟩ := adr_at (hs w hM) hb.1 (List.getElem?_eq_getElem hl)
  obtain ⟨fs, fld, k, hu, hf', rfl, hz⟩ := hf.get
  obtain ⟨inf, hinf, hz⟩ := Option.map_eq_some_iff.1 hz
  rw [← hk, ha]
  simp [Instr.fieldAt, run_underlying hu, hf', Instr.sureAddr, fieldPlace, sizeOf, typeInfo, hinf, hz, addr_add, ado]
theorem ylf {i : Int} {m : Nat} {r : α} [hn : Nag P T] (hx : ev e x = some (ado (adr k u i) m)) (hk : E.k = k) (hs : ∀ w, Mok M w → Sl E w u xs) (h0 : 0 ≤ i) (hr : xs[i.toNat]? = some r) (hv : (E.val r).cells.toList[m]? = some v) :
    Yd P n e M ⟨ds, .load T x, ty, ps, af, gd⟩ v := yv (by simp only [opSt, hx]; rfl) fun w hM => by
  obtain ⟨g, off, ha, hat⟩ := adr_at (hs w hM) h0 hr
  rw [← hk, ha]
  have hc := hat m v hv
  simp [ado, Instr.loadAt, Instr.sureAddr, loadVar, run_isAgg_nag hn.out, hc]
theorem ylfN {j : Int} {i m : Nat} [hn : Nag P T] [hm : NatI j i] (hx : ev e x = some (ado (adr k u j) m)) (hk : E.k = k) (hs : ∀ w, Mok M w → Sl E w u xs) (hr : i < xs.length) (hv : (E.val xs[i]).cells.toList[m]? = some v) : Yd P n e M ⟨ds, .load T x, ty, ps, af, gd⟩ v :=
  by obtain rfl := hm.out; exact ylf hx hk hs (Int.natCast_nonneg i) (List.getElem?_eq_getElem hr) hv
/-! ### Parts of a slice -/
def subS (k : Nat) (v : Value) (l h : Nat) : Value := match v with
  | .slice a _ cap => .slice (if cap = l then a else a.map (·.add (l * k))) (h - l) (cap - l)
  | _ => undef
theorem subS_sl {w : World} {l h : Nat} (hs : Sl E w u xs) (h1 : l ≤ h) (h2 : h ≤ xs.length) : Sl E w (subS E.k u l h) ((xs.take h).drop l) := by
  obtain ⟨p, c, rfl, h3, h4, h5⟩ := hs
  have hlen : ((xs.take h).drop l).length = h - l := by rw [List.length_drop, List.length_take]; omega
  refine ⟨_, _, by rw [hlen]; rfl, by rw [hlen]; omega, by omega, ?_⟩
  rcases h5 with rfl | ⟨g, off, rfl, hat⟩
  · exact .inl (by simp)
  · by_cases hc : c = l
    · left
      apply List.eq_nil_of_length_eq_zero
      omega
    · refine .inr ⟨g, off + l * E.k, by rw [if_neg hc]; simp [addr_add], ?_⟩
      have hcl : cl E xs = cl E (xs.take l) ++ (cl E ((xs.take h).drop l) ++ cl E (xs.drop h)) := by
        rw [← cl_append, ← cl_append]
        congr 1
        have : xs.take l = (xs.take h).take l := by rw [List.take_take, Nat.min_eq_left h1]
        rw [this, ← List.append_assoc, List.take_append_drop, List.take_append_drop]
      intro j x hj
      have h6 : (cl E xs)[l * E.k + j]? = some x := by
        have hl6 : (cl E (xs.take l)).length = l * E.k := by rw [cl_length, List.length_take, Nat.min_eq_left (by omega)]
        rw [hcl, List.getElem?_append_right (by omega), hl6, Nat.add_sub_cancel_left, List.getElem?_append_left (List.getElem?_eq_some_iff.1 hj).1]
        exact hj
      have := hat (l * E.k + j) x h6
      rwa [← Nat.add_assoc] at this
theorem yp1 {k' : IntKind} {m : Int} {l : Nat} [hm : NatI m l] [ht : Und P t (.slice T)] [hz : Sz P T k] (hx : ev e x = some u) (hy : ev e y = some (.int k' m)) (hk : E.k = k) (hs : ∀ w, Mok M w → Sl E w u xs) (hb : l ≤ xs.length) :
    Yd P n e M ⟨ds, .slice t x (some y) none none, ty, ps, af, gd⟩ (subS k u l xs.length) := by
  unfold Yd
  intro w hM ac ha
  obtain rfl := hm.out
  obtain ⟨p, c, rfl, h1, h2, h3⟩ := hs w hM
  obtain ⟨inf, hinf, hs2⟩ := Option.map_eq_some_iff.1 hz.out
  have h0 := opSt_ok (P := P) ha ⟨ds, .slice t x (some y) none none, ty, ps, af, gd⟩
  simp only [opSt, hx, hy, evo, subSt] at h0
  refine h0 w _ w ?_
  simp [Instr.sliceAt, Instr.slice, run_underlying ht.out, Instr.sliceBounds, Instr.sliceBound, asIntOf, hb, sizeOf, typeInfo, hinf, hs2, subS]
theorem yp2 {k' : IntKind} {m : Int} {h : Nat} [hm : NatI m h] [ht : Und P t (.slice T)] [hz : Sz P T k] (hx : ev e x = some u) (hy : ev e y = some (.int k' m)) (hk : E.k = k) (hs : ∀ w, Mok M w → Sl E w u xs) (hb : h ≤ xs.length) :
    Yd P n e M ⟨ds, .slice t x none (some y) none, ty, ps, af, gd⟩ (subS k u 0 h) := by
  unfold Yd
  intro w hM ac ha
  obtain rfl := hm.out
  obtain ⟨p, c, rfl, h1, h2, h3⟩ := hs w hM
  obtain ⟨inf, hinf, hs2⟩ := Option.map_eq_some_iff.1 hz.out
  have h0 := opSt_ok (P := P) ha ⟨ds, .slice t x none (some y) none, ty, ps, af, gd⟩
  simp only [opSt, hx, hy, evo, subSt] at h0
  refine h0 w _ w ?_
  have hc : h ≤ c := Nat.le_trans hb h1
  simp [Instr.sliceAt, Instr.slice, run_underlying ht.out, Instr.sliceBounds, Instr.sliceBound, asIntOf, hc, sizeOf, typeInfo, hinf, hs2, subS]
theorem yp3 {k' k'' : IntKind} {m m' : Int} {l h : Nat} [hm : NatI m l] [hm' : NatI m' h] [ht : Und P t (.slice T)] [hz : Sz P T k] (hx : ev e x = some u) (hy : ev e y = some (.int k' m)) (hzz : ev e z = some (.int k'' m')) (hk : E.k = k) (hs : ∀ w, Mok M w → Sl E w u xs) (hb : l ≤ h ∧ h ≤ xs.length) :
    Yd P n e M ⟨ds, .slice t x (some y) (some z) none, ty, ps, af, gd⟩ (subS k u l h) := by
  unfold Yd
  intro w hM ac ha
  obtain rfl := hm.out
  obtain rfl := hm'.out
  obtain ⟨p, c, rfl, h1, h2, h3⟩ := hs w hM
  obtain ⟨inf, hinf, hs2⟩ := Option.map_eq_some_iff.1 hz.out
  have h0 := opSt_ok (P := P) ha ⟨ds, .slice t x (some y) (some z) none, ty, ps, af, gd⟩
  simp only [opSt, hx, hy, hzz, evo, subSt] at h0
  refine h0 w _ w ?_
  have hc : h ≤ c := Nat.le_trans hb.2 h1
  simp [Instr.sliceAt, Instr.slice, run_underlying ht.out, Instr.sliceBounds, Instr.sliceBound, asIntOf, hc, hb.1, sizeOf, typeInfo, hinf, hs2, subS]
/-! ### bits taken away -/
def bnot (i j : Nat) : Nat := (BitVec.ofNat 64 i &&& ~~~BitVec.ofNat 64 j).toNat
theorem bnot_le (i j : Nat) : bnot i j ≤ i := by
  unfold bnot
  rw [BitVec.toNat_and]
  exact Nat.le_trans Nat.and_le_left (by rw [BitVec.toNat_ofNat]; exact Nat.mod_le _ _)
theorem yan {m m' : Int} {i j : Nat} [hm : NatI m i] [hm' : NatI m' j] (hx : ev e x = some (.int .i64 m)) (hy : ev e y = some (.int .i64 m')) (hi : i < 9223372036854775808) :
    Yd P n e M ⟨ds, .binOp .andNot t x y t', ty, ps, af, gd⟩ (.int .i64 (bnot i j)) := by
  obtain rfl := hm.out
  obtain rfl := hm'.out
  have h : Yd P n e M ⟨ds, .binOp .andNot t x y t', ty, ps, af, gd⟩ (.int .i64 (IntKind.i64.wrap (BitVec.ofInt IntKind.i64.bits (i : Int) &&& ~~~BitVec.ofInt IntKind.i64.bits (j : Int)).toNat)) := yi (k := .i64) (by simp only [opSt, hx, hy, binSt, intSt])
  have h2 : (BitVec.ofInt IntKind.i64.bits (i : Int) &&& ~~~BitVec.ofInt IntKind.i64.bits (j : Int)).toNat = bnot i j := by
    show (BitVec.ofInt 64 (i : Int) &&& ~~~BitVec.ofInt 64 (j : Int)).toNat = _
    rw [BitVec.ofInt_natCast, BitVec.ofInt_natCast]
    rfl
  rw [h2, wrap_bits (Nat.lt_of_le_of_lt (bnot_le i j) hi)] at h
  exact h
end Go.Proofs.YtkhlmpkodjoioaaDoor
