/- The kinds of elements of this translation. -/
import Derived.Test.YtkhlmpkodjoioaaDoorMr
import Derived.Test.YtkhlmpkodjoioaaDoorTy
set_option linter.unusedVariables false
namespace Go.Proofs.YtkhlmpkodjoioaaDoor
structure Rec where
  name : List UInt8
  type : Int
  ttl : Int
  data : List UInt8
structure Que where
  name : List UInt8
  type : Int
structure Plc where
  rest : List UInt8
  at_ : Int
theorem Rec.ext' {a b : Rec} (h1 : a.name = b.name) (h2 : a.type = b.type) (h3 : a.ttl = b.ttl) (h4 : a.data = b.data) : a = b := by cases a; cases b; simp_all
theorem Que.ext' {a b : Que} (h1 : a.name = b.name) (h2 : a.type = b.type) : a = b := by cases a; cases b; simp_all
instance : DecidableEq Rec := fun a b => decidable_of_iff (a.name = b.name ∧ a.type = b.type ∧ a.ttl = b.ttl ∧ a.data = b.data) ⟨fun ⟨h1, h2, h3, h4⟩ => Rec.ext' h1 h2 h3 h4, fun h => by subst h; exact ⟨rfl, rfl, rfl, rfl⟩⟩
instance : DecidableEq Que := fun a b => decidable_of_iff (a.name = b.name ∧ a.type = b.type) ⟨fun ⟨h1, h2⟩ => Que.ext' h1 h2, fun h => by subst h; exact ⟨rfl, rfl⟩⟩
def Rec.val (r : Rec) : Value := .agg #[.string (sOf r.name), .int .i64 r.type, .int .i64 r.ttl, .string (sOf r.data)]
def Que.val (q : Que) : Value := .agg #[.string (sOf q.name), .int .i64 q.type]
def Plc.val (p : Plc) : Value := .agg #[.string (sOf p.rest), .int .i64 p.at_]
def EB : En UInt8 := ⟨1, fun b => .int .u8 b.toNat, fun _ => rfl, fun _ u h => by simp [Value.cells] at h; subst h; rfl, by decide⟩
def ES : En (List UInt8) := ⟨1, fun l => .string (sOf l), fun _ => rfl, fun _ u h => by simp [Value.cells] at h; subst h; rfl, by decide⟩
def EI : En Int := ⟨1, fun i => .int .i64 i, fun _ => rfl, fun _ u h => by simp [Value.cells] at h; subst h; rfl, by decide⟩
def EP : En (Option Addr) := ⟨1, fun p => .pointer p, fun _ => rfl, fun _ u h => by simp [Value.cells] at h; subst h; rfl, by decide⟩
def ER : En Rec := ⟨4, Rec.val, fun _ => rfl, fun _ u h => by simp [Rec.val, Value.cells] at h; rcases h with rfl | rfl | rfl | rfl <;> rfl, by decide⟩
def EQ : En Que := ⟨2, Que.val, fun _ => rfl, fun _ u h => by simp [Que.val, Value.cells] at h; rcases h with rfl | rfl <;> rfl, by decide⟩
def EL : En Plc := ⟨2, Plc.val, fun _ => rfl, fun _ u h => by simp [Plc.val, Value.cells] at h; rcases h with rfl | rfl <;> rfl, by decide⟩
instance : Ld Tryd.prog EB 5 := Ld.scalar fun _ => rfl
instance : Ld Tryd.prog ES 9 := Ld.scalar fun _ => rfl
instance : Ld Tryd.prog EI 3 := Ld.scalar fun _ => rfl
instance : Ld Tryd.prog ER 61 := Ld.struct rfl fun _ => rfl
instance : Ld Tryd.prog EQ 42 := Ld.struct rfl fun _ => rfl
instance : Ld Tryd.prog EL 81 := Ld.struct rfl fun _ => rfl
def intAt (vs : List Value) (j : Nat) : Nat := match vs[j]? with | some (.int _ n) => n.toNat | _ => 0
end Go.Proofs.YtkhlmpkodjoioaaDoor
