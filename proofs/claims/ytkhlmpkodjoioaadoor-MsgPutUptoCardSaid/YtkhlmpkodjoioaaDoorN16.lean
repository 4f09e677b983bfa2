/- Messages: the program's Put. -/
import Derived.Test.YtkhlmpkodjoioaaDoorN15
set_option linter.unusedVariables false
set_option linter.unusedSimpArgs false
set_option maxRecDepth 100000
namespace Go.Proofs.YtkhlmpkodjoioaaDoor
/-! ### what is put, plainly -/
def labsOf (s : List UInt8) : List (List UInt8) := (labels s).getD []
abbrev Tab := List (List UInt8 × Nat)
def putQ (t : Tab × List UInt8) (q : Que) : Tab × List UInt8 := ((tputN t.1 t.2 (labsOf q.name)).1, (tputN t.1 t.2 (labsOf q.name)).2 ++ beN q.type.toNat 2 ++ beN 1 2)
def putR (t : Tab × List UInt8) (r : Rec) : Tab × List UInt8 := ((tputN t.1 t.2 (labsOf r.name)).1, (tputN t.1 t.2 (labsOf r.name)).2 ++ beN r.type.toNat 2 ++ beN 1 2 ++ beN r.ttl.toNat 4 ++ beN r.data.length 2 ++ r.data)
def bitM (b : Bool) (n : Nat) : Nat := if b then n else 0
def flag1 (m : Msg) : Nat := (((bitM m.answer 128 ||| m.kind.toNat * 8) ||| bitM m.own 4) ||| bitM m.cut 2) ||| bitM m.wanted 1
def flag2 (m : Msg) : Nat := bitM m.able 128 ||| m.code.toNat
def headA (m : Msg) : List UInt8 := beN m.id.toNat 2 ++ beN (flag1 m) 1 ++ beN (flag2 m) 1
def headN (m : Msg) : List UInt8 := headA m ++ [m.ask.length, m.answers.length, m.authority.length, m.extra.length].flatMap (beN · 2)
def bodyN (m : Msg) : List UInt8 := (m.all.foldl putR (m.ask.foldl putQ ([], headN m))).2
def putN (m : Msg) : List UInt8 × Nat := if msgErr m = 0 then (if 65535 < (bodyN m).length then ([], 5) else (bodyN m, 0)) else ([], msgErr m)
theorem tputN_len : ∀ (l : List (List UInt8)) (tab : Tab) (b : List UInt8), (tputN tab b l).2.length ≤ b.length + (dots l).length + 2
  | [], tab, b => by simp [tputN]; omega
  | p :: l, tab, b => by
    have e1 : (dots (p :: l)).length = p.length + 1 + (dots l).length := by simp [dots]; omega
    have e2 : (b ++ enc1 p).length = b.length + p.length + 1 := by simp [enc1]; omega
    cases h : tget tab (joinL (p :: l)) with
    | none =>
      rw [tput_none h]
      have := tputN_len l (tab ++ [(joinL (p :: l), b.length)]) (b ++ enc1 p)
      omega
    | some a =>
      by_cases ha : a < 16384
      · rw [tput_hit h ha]; simp
      · rw [tput_far h ha]
        have := tputN_len l tab (b ++ enc1 p)
        omega
theorem labsOf_len (s : List UInt8) : (dots (labsOf s)).length ≤ 254 := by
  unfold labsOf
  cases h : labels s with
  | none => decide
  | some l => exact (labels_iff.1 h).2.2
/-! ### calls -/
theorem bitN_spec (b : Bool) (n : Nat) (w : World) : Spec Tryd.prog 53 [.bool b, .int .i64 n].toArray w (fun v w' => Ext [] w w' ∧ v = .int .i64 (bitM b n : Nat)) := by
  have h := bit_spec b n w
  have e : bitN b n = (bitM b n : Nat) := by cases b <;> rfl
  rwa [e] at h
section
variable {n : Nat} {e : Env} {Q : Post} {K : Act → World → Prop} {S : List Nat} {w0 w : World} {H : List Hc} {d : Nat} {ty : TypeId} {ps : String} {af : Array Edge} {gd : Option (Nat × Bool)} {ar : Array Operand} {ts : Array TypeId}
theorem num_call {v : Value} {xs : List UInt8} {z k : Int} (i : Nat) (hd : Nat.ble (d + 1) n = true) (ha : evs e ar.toList = some [v, .int .i64 z, .int .i64 k]) (hi : H[i]? = some (ow EB 5 v xs)) (hz : Zw w0) (h0 : 0 ∉ S)
    (hn : 0 ≤ z ∧ z ≤ 4611686018427387904) (hk : 1 ≤ k ∧ k ≤ 4) (hx : xs.length ≤ 1000000000) (h : ∀ v' w', WK n K ((d, v') :: e) ⟨S, w0, H.set i (ow EB 5 v' (xs ++ beN z.toNat k.toNat))⟩ w') :
    WK n (wo Tryd.prog Q ⟨some d, .call { callee := .value (.func 52), args := ar, argTypes := ts }, ty, ps, af, gd⟩ K) e ⟨S, w0, H⟩ w :=
  oce (R := fun v' c' => c' = ow EB 5 v' (xs ++ beN z.toNat k.toNat)) i hd ha hi hz h0 (fun hE => by
    have e1 : z = (z.toNat : Nat) := by omega
    have e2 : k = (k.toNat : Nat) := by omega
    have := num_spec z.toNat k.toNat w hE (by omega) (by omega) (by omega) hx
    rwa [← e1, ← e2] at this) (fun v' c' w' hr => by subst hr; exact ⟨rfl, h v' w'⟩)
def tbE (gt : Nat) (tab : Tab) : Option Nat → List Hc
  | none => [bx gt (.cells #[.map none] 32 (0, 0))]
  | some g => [bx gt (.cells #[.map (some g)] 32 (0, 0)), mp g tab]
theorem tput_spec {v : Value} {b : List UInt8} {gt : Nat} {tab : Tab} {st : Option Nat} {s : List UInt8} {l1 : List (List UInt8)} (w : World) (hst : st = none → tab = []) (hl : labels s = some l1)
    (hE : Ent (ow EB 5 v b :: tbE gt tab st) [] w) (hs : s.length ≤ 4294967280) (hb : b.length ≤ 1000000000) :
    Spec Tryd.prog 12 [.pointer (some ⟨gt, 0, none⟩), v, .string (sOf s)].toArray w (fun v' w' => ∃ H', Mok ⟨blks (ow EB 5 v b :: tbE gt tab st), w, H'⟩ w' ∧
      ∃ g bv, v' = .tuple #[bv, .int .i64 0] ∧ H' = ow EB 5 bv (tputN tab b l1).2 :: tbE gt (tputN tab b l1).1 (some g)) := by
  cases st with
  | none => obtain rfl := hst rfl; exact PutA w hl hE hs hb
  | some g => exact (PutB w hl hE hs hb).mono fun v' w' ⟨H', h1, bv, h2, h3⟩ => ⟨H', h1, g, bv, h2, h3⟩
theorem perm_mid {c : Hc} {H1 H2 t : List Hc} : (H1 ++ c :: (H2 ++ t)).Perm ((c :: t) ++ (H1 ++ H2)) :=
  List.perm_middle.trans ((((List.append_assoc H1 H2 t) ▸ (List.perm_append_comm : ((H1 ++ H2) ++ t).Perm (t ++ (H1 ++ H2))))).cons c)
theorem tput_call {v : Value} {b s : List UInt8} {gt : Nat} {tab : Tab} {st : Option Nat} (H1 H2 : List Hc) (hd : Nat.ble (d + 1) n = true) (ha : evs e ar.toList = some [.pointer (some ⟨gt, 0, none⟩), v, .string (sOf s)])
    (hH : H = H1 ++ ow EB 5 v b :: (H2 ++ tbE gt tab st)) (hz : Zw w0) (h0 : 0 ∉ S) (hst : st = none → tab = []) (hl : (labels s).isSome = true) (hs : s.length ≤ 4294967280) (hb : b.length ≤ 1000000000)
    (h : ∀ v' g w', WK n K ((d, .tuple #[v', .int .i64 0]) :: e) ⟨S, w0, H1 ++ ow EB 5 v' (tputN tab b (labsOf s)).2 :: (H2 ++ tbE gt (tputN tab b (labsOf s)).1 (some g))⟩ w') :
    WK n (wo Tryd.prog Q ⟨some d, .call { callee := .value (.func 12), args := ar, argTypes := ts }, ty, ps, af, gd⟩ K) e ⟨S, w0, H⟩ w := by
  subst hH
  obtain ⟨l1, hl1⟩ := Option.isSome_iff_exists.1 hl
  have e1 : labsOf s = l1 := by unfold labsOf; rw [hl1]; rfl
  rw [e1] at h
  exact ocf (ow EB 5 v b :: tbE gt tab st) [] (H1 ++ H2) hd ha perm_mid hz h0 (List.nil_sublist _) (fun _ h => by cases h) (fun hE => tput_spec w hst hl1 hE hs hb)
    (fun v' H' w' ⟨g, bv, h1, h2⟩ => by
      subst h1 h2
      refine ⟨fun c hc => ?_, wperm perm_mid.symm (h bv g w')⟩
      simp [tbE] at hc
      rcases hc with rfl | rfl | rfl <;> rfl)
end
end Go.Proofs.YtkhlmpkodjoioaaDoor
