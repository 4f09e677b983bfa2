/- The verification conditions of loaded code: a state of named slots ('Env'), what an operation comes to ('St'), what a piece of code asks ('vc'), and that this is enough. -/
import Derived.WalkKit
import Derived.OrdersHeld
import Derived.KernelRfl
set_option linter.unusedVariables false
set_option linter.unusedSimpArgs false
namespace Go.Proofs.YtkhlmpkodjoioaaDoor

def bs (s : ByteArray) : List UInt8 := s.data.toList
def sOf (l : List UInt8) : ByteArray := ⟨l.toArray⟩
theorem bs_sOf (l : List UInt8) : bs (sOf l) = l := rfl
theorem sOf_bs (s : ByteArray) : sOf (bs s) = s := by cases s; rfl
theorem size_bs (s : ByteArray) : s.size = (bs s).length := rfl
theorem sOf_inj {a b : List UInt8} (h : sOf a = sOf b) : a = b := by rw [← bs_sOf a, ← bs_sOf b, h]

abbrev Env := List (Nat × Value)
def gt : Env → Nat → Option Value
  | [], _ => none
  | (j, v) :: e, i => match Nat.beq i j with
    | true => some v
    | false => gt e i
theorem gt_cons (j : Nat) (v : Value) (e : Env) (i : Nat) : gt ((j, v) :: e) i = if i = j then some v else gt e i := by
  by_cases h : i = j
  · subst h; simp [gt]
  · have : Nat.beq i j = false := by rw [← Bool.not_eq_true, Nat.beq_eq]; exact h
    simp [gt, this, h]
def ev (e : Env) : Operand → Option Value
  | .tmp t => gt e t
  | .const v => some v
  | .global g => some (.pointer (some ⟨g, 0, none⟩))
  | .func f => some (.func (.func f) #[] #[])
def evs (e : Env) : List Operand → Option (List Value)
  | [] => some []
  | x :: l => match ev e x, evs e l with
    | some v, some vs => some (v :: vs)
    | _, _ => none
def evp (e : Env) : List (Nat × Operand) → Option (List (Nat × Value))
  | [] => some []
  | (i, x) :: l => match ev e x, evp e l with
    | some v, some vs => some ((i, v) :: vs)
    | _, _ => none
def pt (e : Env) : Option Tmp → Value → Env
  | some d, v => (d, v) :: e
  | none, _ => e
def dk (n : Nat) : Option Tmp → Prop
  | some d => d < n
  | none => True

structure Sat (n : Nat) (e : Env) (a : Act) : Prop where
  defers : a.defers = []
  size : a.tmps.size = n
  get : ∀ i v, gt e i = some v → a.tmps[i]? = some v

variable {P : Program} {n : Nat} {e : Env} {a : Act}

theorem Sat.put (h : Sat n e a) {o : Option Tmp} (hd : dk n o) (v : Value) : Sat n (pt e o v) (a.put o v) := by
  cases o with
  | none => exact h
  | some d =>
    refine ⟨h.defers, by simp [Act.put, h.size], fun i u hu => ?_⟩
    simp only [pt, gt_cons] at hu
    simp only [Act.put]
    by_cases hi : i = d
    · subst hi
      simp at hu
      subst hu
      rw [Array.getElem?_setIfInBounds_self_of_lt (by rw [h.size]; exact hd)]
    · rw [if_neg hi] at hu
      rw [Array.getElem?_setIfInBounds_ne (Ne.symm hi)]
      exact h.get i u hu

theorem Sat.ev (h : Sat n e a) {x : Operand} {v : Value} (hx : ev e x = some v) : a.eval x = v := by
  cases x with
  | tmp t =>
    have := h.get t v hx
    simp [Act.eval, Array.getD_eq_getD_getElem?, this]
  | const u => simpa [Go.Proofs.YtkhlmpkodjoioaaDoor.ev, Act.eval] using hx
  | global g => simpa [Go.Proofs.YtkhlmpkodjoioaaDoor.ev, Act.eval] using hx
  | func f => simpa [Go.Proofs.YtkhlmpkodjoioaaDoor.ev, Act.eval] using hx
theorem Sat.evs (h : Sat n e a) : ∀ {l : List Operand} {vs : List Value}, evs e l = some vs → l.map a.eval = vs
  | [], vs, hx => by simp [Go.Proofs.YtkhlmpkodjoioaaDoor.evs] at hx; subst hx; rfl
  | x :: l, vs, hx => by
    simp only [Go.Proofs.YtkhlmpkodjoioaaDoor.evs] at hx
    split at hx
    · rename_i v us h1 h2
      cases hx
      simp [h.ev h1, h.evs h2]
    · cases hx
theorem Sat.evp (h : Sat n e a) : ∀ {l : List (Nat × Operand)} {vs : List (Nat × Value)}, evp e l = some vs → l.map (fun p => (p.1, a.eval p.2)) = vs
  | [], vs, hx => by simp [Go.Proofs.YtkhlmpkodjoioaaDoor.evp] at hx; subst hx; rfl
  | (i, x) :: l, vs, hx => by
    simp only [Go.Proofs.YtkhlmpkodjoioaaDoor.evp] at hx
    split at hx
    · rename_i v us h1 h2
      cases hx
      simp [h.ev h1, h.evp h2]
    · cases hx

/-- What an operation comes to. -/
inductive St where
  | p (ob : Prop) (v : Value)
  | v (s : Sem Value)
  | u (s : Sem Unit)
  | c (f : FuncId) (args : Array Value)
  /-- if type 't' is string; a slice type; a conversion of a number -/
  | ps (t : TypeId) (ob : Prop) (v : Value)
  | pl (t : TypeId) (v : Value)
  | cv (s d : TypeId) (m : Int)
  | x

def intSt (op : BinOp) (k : IntKind) (m : Int) (k' : IntKind) (j : Int) : St :=
  match op with
  | .add => .p (k = k') (.int k (k.wrap (m + j)))
  | .sub => .p (k = k') (.int k (k.wrap (m - j)))
  | .mul => .p (k = k') (.int k (k.wrap (m * j)))
  | .quo => .p (k = k' ∧ j ≠ 0) (.int k (k.wrap (m.tdiv j)))
  | .rem => .p (k = k' ∧ j ≠ 0) (.int k (m.tmod j))
  | .and => .p (k = k') (.int k (k.wrap (BitVec.ofInt k.bits m &&& BitVec.ofInt k.bits j).toNat))
  | .or => .p (k = k') (.int k (k.wrap (BitVec.ofInt k.bits m ||| BitVec.ofInt k.bits j).toNat))
  | .xor => .p (k = k') (.int k (k.wrap (BitVec.ofInt k.bits m ^^^ BitVec.ofInt k.bits j).toNat))
  | .andNot => .p (k = k') (.int k (k.wrap (BitVec.ofInt k.bits m &&& ~~~BitVec.ofInt k.bits j).toNat))
  | .shl => .p (0 ≤ j) (.int k (k.wrap (m * 2 ^ (min j.toNat k.bits))))
  | .shr => .p (0 ≤ j) (.int k (m.fdiv (2 ^ (min j.toNat k.bits))))
  | .eql => .p (k = k') (.bool (decide (m = j)))
  | .neq => .p (k = k') (.bool (decide (m ≠ j)))
  | .lss => .p (k = k') (.bool (decide (m < j)))
  | .leq => .p (k = k') (.bool (decide (m ≤ j)))
  | .gtr => .p (k = k') (.bool (decide (j < m)))
  | .geq => .p (k = k') (.bool (decide (j ≤ m)))
def strSt (op : BinOp) (s t : ByteArray) : St :=
  match op with
  | .add => .p ((bs s).length + (bs t).length ≤ 9223372036854775807) (.string (sOf (bs s ++ bs t)))
  | .eql => .p True (.bool (decide (bs s = bs t)))
  | .neq => .p True (.bool (decide (bs s ≠ bs t)))
  | .lss => .p True (.bool (Op.bytesLess (bs s) (bs t)))
  | .gtr => .p True (.bool (!(Op.bytesLess (bs s) (bs t) || decide (bs s = bs t))))
  | .leq => .p True (.bool (Op.bytesLess (bs s) (bs t) || decide (bs s = bs t)))
  | .geq => .p True (.bool (!Op.bytesLess (bs s) (bs t)))
  | _ => .x
def binSt (op : BinOp) (t : TypeId) (x y : Operand) (a b : Value) : St :=
  match a, b with
  | .int k m, .int k' j => intSt op k m k' j
  | .string s, .string u => strSt op s u
  | a, b => .v (do eqGuard op t x y a b; binOp op t a b)
def unSt (op : UnOp) (a : Value) : St :=
  match op, a with
  | .not, .bool b => .p True (.bool (!b))
  | .neg, .int k m => .p True (.int k (k.wrap (0 - m)))
  | op, a => .v (Op.unary op a)
def idxSt (t : TypeId) (a i : Value) : St :=
  match a, i with
  | .string s, .int _ j => .ps t (0 ≤ j ∧ j < (bs s).length) (.int .u8 ((bs s).getD j.toNat 0).toNat)
  | a, i => .v (Instr.index t a i)
def lenSt (ats : Array TypeId) (ty : TypeId) (vs : List Value) : St :=
  match ats.toList, vs with
  | [t], [.string s] => .ps t True (.int .i64 (bs s).length)
  | [t], [.slice p m c] => .pl t (.int .i64 m)
  | _, vs => .v (Builtin.len_ ats ty vs.toArray)
def subSt (t : TypeId) (a : Value) (lo hi mx : Option Value) : St :=
  match a, lo, hi, mx with
  | .string s, none, some (.int _ h), none => .ps t (0 ≤ h ∧ h ≤ (bs s).length) (.string (sOf ((bs s).take h.toNat)))
  | .string s, some (.int _ l), none, none => .ps t (0 ≤ l ∧ l ≤ (bs s).length) (.string (sOf ((bs s).drop l.toNat)))
  | .string s, some (.int _ l), some (.int _ h), none => .ps t (0 ≤ l ∧ l ≤ h ∧ h ≤ (bs s).length) (.string (sOf (((bs s).take h.toNat).drop l.toNat)))
  | a, lo, hi, mx => .v (Instr.sliceAt t a lo hi mx)
def extSt (a : Value) (i : Nat) : St :=
  match a with
  | .tuple vs => match vs.toList[i]? with
    | some v => .p True v
    | none => .x
  | _ => .x
def evo (e : Env) : Option Operand → Option (Option Value)
  | none => some none
  | some x => match ev e x with
    | some v => some (some v)
    | none => none
def callSt (f : Value) (vs : List Value) : St :=
  match f with
  | .func (.func g) first cap => .c g (first.toList ++ (vs ++ cap.toList)).toArray
  | _ => .x
def convSt (s d : TypeId) (a : Value) : St :=
  match a with
  | .int k m => .cv s d m
  | a => .v (convert s d a)

/-- What an operation comes to, its operands read off the slots. -/
def opSt (P : Program) (e : Env) (o : Oper) : St :=
  match o.op with
  | .move x | .assign x => match ev e x with
    | some v => .p True v
    | none => .x
  | .pick c x y => match ev e c with
    | some (.bool true) => (match ev e x with
      | some v => .p True v
      | none => .x)
    | some (.bool false) => (match ev e y with
      | some v => .p True v
      | none => .x)
    | _ => .x
  | .binOp op t x y _ => match ev e x, ev e y with
    | some u, some v => binSt op t x y u v
    | _, _ => .x
  | .unOp op _ x => match ev e x with
    | some u => unSt op u
    | none => .x
  | .index t x i => match ev e x, ev e i with
    | some u, some v => idxSt t u v
    | _, _ => .x
  | .slice t x lo hi mx => match ev e x, evo e lo, evo e hi, evo e mx with
    | some u, some l, some h, some m => subSt t u l h m
    | _, _, _, _ => .x
  | .extract x i => match ev e x with
    | some u => extSt u i
    | none => .x
  | .convert s d x => match ev e x with
    | some u => convSt s d u
    | none => .x
  | .nilCheck x => match ev e x with
    | some (.pointer (some p)) => .p True (.pointer (some p))
    | _ => .x
  | .makeFunc fn first cap => match evs e first.toList, evs e cap.toList with
    | some us, some vs => .p True (.func fn us.toArray vs.toArray)
    | _, _ => .x
  | .alloc t => .v (Instr.alloc t true (.tuple #[]))
  | .box t x => match ev e x with
    | some u => .v (Instr.box t u)
    | none => .x
  | .build t ps => match evp e ps.toList with
    | some vs => .v (Instr.build t vs.toArray)
    | none => .x
  | .buildSlice t len ps => match evp e ps.toList with
    | some vs => .v (Instr.buildSlice t len vs.toArray)
    | none => .x
  | .load t x => match ev e x with
    | some u => .v (Instr.loadAt t u)
    | none => .x
  | .store t x y => match ev e x, ev e y with
    | some u, some v => .u (Instr.storeAt t u v)
    | _, _ => .x
  | .makeMap t none => .v (Instr.makeMap t none)
  | .makeMap t (some x) => match ev e x with
    | some u => .v (Instr.makeMap t (some u))
    | none => .x
  | .makeSlice t x y => match ev e x, ev e y with
    | some u, some v => .v (Instr.makeSlice t u v)
    | _, _ => .x
  | .fieldAddr t x f => match ev e x with
    | some u => .v (Instr.fieldAt t u f)
    | none => .x
  | .field t x f => match ev e x with
    | some u => .v (Instr.field t u f)
    | none => .x
  | .indexAddr t x i => match ev e x, ev e i with
    | some u, some v => .v (Instr.indexAt t u v)
    | _, _ => .x
  | .lookup t x i ok => match ev e x, ev e i with
    | some u, some v => .v (Instr.lookup t u v ok)
    | _, _ => .x
  | .mapUpdate t m k x | .insert t m k x => match ev e m, ev e k, ev e x with
    | some u, some v, some z => .u (Instr.mapUpdate t u v z)
    | _, _, _ => .x
  | .mapEntry t m k => match ev e m, ev e k with
    | some u, some v => .v (Instr.mapEntry t u v)
    | _, _ => .x
  | .entryStore t m s x => match ev e m, ev e s, ev e x with
    | some u, some v, some z => .u (Instr.entryStore t u v z)
    | _, _, _ => .x
  | .range t x => match ev e x with
    | some u => .v (Instr.range t u)
    | none => .x
  | .next it b => match ev e it with
    | some u => .v (Instr.next u b o.type)
    | none => .x
  | .entry it => match ev e it with
    | some u => .v (Instr.entry u)
    | none => .x
  | .call { callee := .value f, args := as, argTypes := _ } => match ev e f, evs e as.toList with
    | some u, some vs => callSt u vs
    | _, _ => .x
  | .call { callee := .builtin .len, args := as, argTypes := ts } => match evs e as.toList with
    | some vs => lenSt ts o.type vs
    | none => .x
  | .call { callee := .builtin .append, args := as, argTypes := ts } => match evs e as.toList with
    | some vs => .v (Builtin.append_ ts o.type vs.toArray)
    | none => .x
  | .call { callee := .builtin .cap, args := as, argTypes := ts } => match evs e as.toList with
    | some vs => .v (Builtin.cap_ ts o.type vs.toArray)
    | none => .x
  | .call { callee := .builtin .copy, args := as, argTypes := ts } => match evs e as.toList with
    | some vs => .v (Builtin.copy_ ts o.type vs.toArray)
    | none => .x
  | .call { callee := .builtin .delete, args := as, argTypes := ts } => match evs e as.toList with
    | some vs => .v (Builtin.delete_ ts o.type vs.toArray)
    | none => .x
  | .call { callee := .builtin .clear, args := as, argTypes := ts } => match evs e as.toList with
    | some vs => .v (Builtin.clear_ ts o.type vs.toArray)
    | none => .x
  | .call { callee := .builtin .max, args := as, argTypes := ts } => match evs e as.toList with
    | some vs => .v (Builtin.max_ ts o.type vs.toArray)
    | none => .x
  | .call { callee := .builtin .min, args := as, argTypes := ts } => match evs e as.toList with
    | some vs => .v (Builtin.min_ ts o.type vs.toArray)
    | none => .x
  | _ => .x

def callable (P : Program) (f : FuncId) : Prop := ∃ fn, P.funcs[f]? = some fn ∧ (fn.name == "runtime.NumGoroutine") = false ∧ fn.body.isNone = false

def St.ok (P : Program) (a : Act) (o : Oper) : St → Prop
  | .p ob z => ob → ∀ w, (execOp a.eval o).run P w = .ok (.value z) w
  | .v s => ∀ w z w', s.run P w = .ok z w' → (execOp a.eval o).run P w = .ok (.value z) w'
  | .u s => ∀ w w', s.run P w = .ok () w' → (execOp a.eval o).run P w = .ok .skip w'
  | .c f args => callable P f → ∀ w, (execOp a.eval o).run P w = .ok (.enter f args) w
  | .ps t ob z => P.underlying t = some .string → ob → ∀ w, (execOp a.eval o).run P w = .ok (.value z) w
  | .pl t z => ∀ el, P.underlying t = some (.slice el) → ∀ w, (execOp a.eval o).run P w = .ok (.value z) w
  | .cv s d m => ∀ u k', P.underlying s = some u → P.underlying d = some (.int k') → ∀ w, (execOp a.eval o).run P w = .ok (.value (.int k' (k'.wrap m))) w
  | .x => True

theorem St.ok_x {o : Oper} : St.ok P a o .x := trivial
theorem ok_p {o : Oper} {ob : Prop} {z : Value} (h : ob → ∀ w, (execOp a.eval o).run P w = .ok (.value z) w) : St.ok P a o (.p ob z) := h
theorem ok_v {o : Oper} {s : Sem Value} (h : execOp a.eval o = (do pure (.value (← s)))) : St.ok P a o (.v s) := by
  intro w z w' hr
  rw [h]
  simp [hr]
theorem ok_u {o : Oper} {s : Sem Unit} (h : execOp a.eval o = (do s; pure .skip)) : St.ok P a o (.u s) := by
  intro w w' hr
  rw [h]
  simp [hr]
theorem intSt_ok {o : Oper} (op : BinOp) (t : TypeId) (x y : Operand) (k : IntKind) (m : Int) (k' : IntKind) (j : Int)
    (h : execOp a.eval o = (do pure (.value (← (do eqGuard op t x y (.int k m) (.int k' j); binOp op t (.int k m) (.int k' j)))))) : St.ok P a o (intSt op k m k' j) := by
  cases op <;> simp only [intSt] <;> (refine ok_p ?_; intro hob w; rw [h]; simp [eqGuard, binOp, Op.intArith, Op.intDiv, Op.intBits, Op.intCmp, Op.shift, hob]; try (first | omega | rfl | (simp only [bne]; rfl)))

theorem beq_dec (x y : List UInt8) : (x == y) = decide (x = y) := by rw [Bool.eq_iff_iff]; simp
theorem strSt_ok {o : Oper} (op : BinOp) (t : TypeId) (x y : Operand) (s u : ByteArray)
    (h : execOp a.eval o = (do pure (.value (← (do eqGuard op t x y (.string s) (.string u); binOp op t (.string s) (.string u)))))) : St.ok P a o (strSt op s u) := by
  have hb : (s.toList == u.toList) = decide (bs s = bs u) := by rw [ByteArray.toList_eq, ByteArray.toList_eq]; exact beq_dec _ _
  have hc : s.toList = bs s := ByteArray.toList_eq s
  have hd : u.toList = bs u := ByteArray.toList_eq u
  cases op <;> simp only [strSt] <;> try exact St.ok_x
  all_goals (refine ok_p ?_; intro hob w; rw [h])
  case add =>
    have e1 : s ++ u = sOf (bs s ++ bs u) := by
      rw [← sOf_bs (s ++ u)]; unfold bs; simp
    have h2 : ¬ (((s.size + u.size : Nat) : Int) > IntKind.i64.max) := by
      rw [size_bs, size_bs]; have : IntKind.i64.max = 9223372036854775807 := by decide
      rw [this]; omega
    simp only [Sem.run_bind, eqGuard, binOp, Op.stringOp, if_neg h2, e1]
    simp
  all_goals (simp only [Sem.run_bind, eqGuard, binOp, Op.stringOp, hb, hc, hd]; simp [hc, hd, beq_dec])
theorem binSt_ok {o : Oper} (op : BinOp) (t : TypeId) (x y : Operand) (u v : Value)
    (h : execOp a.eval o = (do pure (.value (← (do eqGuard op t x y u v; binOp op t u v))))) : St.ok P a o (binSt op t x y u v) := by
  unfold binSt
  split
  · exact intSt_ok op t x y _ _ _ _ h
  · exact strSt_ok op t x y _ _ h
  · exact ok_v h
theorem unSt_ok {o : Oper} (op : UnOp) (u : Value) (h : execOp a.eval o = (do pure (.value (← Op.unary op u)))) : St.ok P a o (unSt op u) := by
  unfold unSt
  split
  · exact ok_p fun _ w => by rw [h]; simp [Op.unary]
  · exact ok_p fun _ w => by rw [h]; simp [Op.unary, Op.intArith]
  · exact ok_v h
theorem idxSt_ok {o : Oper} (t : TypeId) (u v : Value) (h : execOp a.eval o = (do pure (.value (← Instr.index t u v)))) : St.ok P a o (idxSt t u v) := by
  unfold idxSt
  split
  · rename_i s k j
    rintro ht ⟨h0, h1⟩ w
    rw [h]
    have hj : j.toNat < s.size := by rw [size_bs]; omega
    have e1 : s[j.toNat]? = some ((bs s).getD j.toNat 0) := by
      have h2 : s[j.toNat]? = some s[j.toNat] := by simp [getElem?_def, hj]
      rw [h2]
      have h3 : (bs s).getD j.toNat 0 = s[j.toNat] := by
        have h4 : j.toNat < (bs s).length := by rw [← size_bs]; exact hj
        simp [List.getD_eq_getElem?_getD, List.getElem?_eq_getElem h4]
        rfl
      rw [h3]
    simp [Instr.index, asIntOf, underlying, ht, h0, e1]
  · exact ok_v h
theorem lenSt_ok {o : Oper} (ts : Array TypeId) (ty : TypeId) (vs : List Value) (h : execOp a.eval o = (do pure (.value (← Builtin.len_ ts ty vs.toArray)))) : St.ok P a o (lenSt ts ty vs) := by
  unfold lenSt
  split
  · rename_i t s hts
    obtain rfl : ts = #[t] := by rw [← Array.toArray_toList (xs := ts), hts]
    rintro ht - w
    rw [h]
    simp [Builtin.len_, underlying, ht, goInt, size_bs]
  · rename_i t p m c hts
    obtain rfl : ts = #[t] := by rw [← Array.toArray_toList (xs := ts), hts]
    rintro el ht w
    rw [h]
    simp [Builtin.len_, underlying, ht, goInt]
  · exact ok_v h
theorem bs_extract (s : ByteArray) (l h : Nat) : bs (s.extract l h) = ((bs s).take h).drop l := by
  unfold bs
  rw [ByteArray.data_extract, Array.toList_extract]
  simp [List.extract_eq_take_drop, List.drop_take]
theorem extract_sOf (s : ByteArray) (l h : Nat) : s.extract l h = sOf (((bs s).take h).drop l) := by
  rw [← bs_extract, sOf_bs]
theorem subSt_ok {o : Oper} (t : TypeId) (u : Value) (l h m : Option Value) (hh : execOp a.eval o = (do pure (.value (← Instr.sliceAt t u l h m)))) : St.ok P a o (subSt t u l h m) := by
  unfold subSt
  split
  · rename_i s k j
    rintro ht ⟨h0, h1⟩ w
    rw [hh]
    have e1 : s.extract 0 j.toNat = sOf ((bs s).take j.toNat) := by rw [extract_sOf]; simp
    have h1' : j ≤ (s.size : Int) := by rw [size_bs]; exact h1
    simp [Instr.sliceAt, Instr.slice, underlying, ht, Instr.sliceBounds, Instr.sliceBound, asIntOf, h0, h1', e1]
  · rename_i s k j
    rintro ht ⟨h0, h1⟩ w
    rw [hh]
    have e1 : s.extract j.toNat s.size = sOf ((bs s).drop j.toNat) := by rw [extract_sOf, size_bs, List.take_length]
    have h1' : j ≤ (s.size : Int) := by rw [size_bs]; exact h1
    simp [Instr.sliceAt, Instr.slice, underlying, ht, Instr.sliceBounds, Instr.sliceBound, asIntOf, h0, h1', e1]
  · rename_i s k j k' j'
    rintro ht ⟨h0, h1, h2⟩ w
    rw [hh]
    have e1 := extract_sOf s j.toNat j'.toNat
    have h2' : j' ≤ (s.size : Int) := by rw [size_bs]; exact h2
    have h3 : 0 ≤ j' := Int.le_trans h0 h1
    have h4 : j ≤ (j'.toNat : Int) := by omega
    simp [Instr.sliceAt, Instr.slice, underlying, ht, Instr.sliceBounds, Instr.sliceBound, asIntOf, h0, h2', h3, h4, e1]
    omega
  · exact ok_v hh
theorem extSt_ok {o : Oper} (u : Value) (i : Nat) (h : execOp a.eval o = (do pure (.value (← Instr.extract u i)))) : St.ok P a o (extSt u i) := by
  unfold extSt
  split
  · split
    · rename_i vs v hv
      exact ok_p fun _ w => by rw [h]; simp [Instr.extract]; simp at hv; simp [hv]
    · exact St.ok_x
  · exact St.ok_x
theorem convSt_ok {o : Oper} (s d : TypeId) (u : Value) (h : execOp a.eval o = (do pure (.value (← convert s d u)))) : St.ok P a o (convSt s d u) := by
  unfold convSt
  split
  · rintro us k' hs hd w
    rw [h]
    simp [convert, underlying, hs, hd, Conv.intToInt]
  · exact ok_v h
theorem callSt_ok {o : Oper} (f : Value) (vs : List Value) (h : execOp a.eval o = (do let d ← Deferred.ofValue f vs.toArray; invoke d.target d.args)) : St.ok P a o (callSt f vs) := by
  unfold callSt
  split
  · rename_i g first cap
    rintro ⟨fn, hf, hn, hb⟩ w
    rw [h]
    have hn' : fn.name ≠ "runtime.NumGoroutine" := by simpa using hn
    have hb' : fn.body ≠ none := by intro h0; rw [h0] at hb; cases hb
    simp [Deferred.ofValue, invoke, callFunc, hf, hn', hb']
  · exact St.ok_x

theorem evo_ok (h : Sat n e a) {x : Option Operand} {v : Option Value} (hx : evo e x = some v) : x.map a.eval = v := by
  cases x with
  | none => simp [evo] at hx; subst hx; rfl
  | some x =>
    simp only [evo] at hx
    split at hx
    · rename_i u hu
      cases hx
      simp [h.ev hu]
    · cases hx
theorem map_arr {α β : Type} (f : α → β) (xs : Array α) : xs.map f = (xs.toList.map f).toArray := by cases xs; exact List.map_toArray
set_option maxHeartbeats 1000000 in
theorem opSt_ok (h : Sat n e a) (o : Oper) : (opSt P e o).ok P a o := by
  obtain ⟨dst, op, type, pos, after, guard⟩ := o
  unfold opSt
  dsimp only
  split
  case h_1 x =>
    split
    · rename_i v hv
      exact ok_p fun _ w => by simp [execOp, h.ev hv]
    · exact St.ok_x
  case h_2 x =>
    split
    · rename_i v hv
      exact ok_p fun _ w => by simp [execOp, h.ev hv]
    · exact St.ok_x
  case h_3 c x y =>
    split
    · rename_i hc
      split
      · rename_i v hv
        exact ok_p fun _ w => by simp [execOp, h.ev hv, h.ev hc, asBool]
      · exact St.ok_x
    · rename_i hc
      split
      · rename_i v hv
        exact ok_p fun _ w => by simp [execOp, h.ev hv, h.ev hc, asBool]
      · exact St.ok_x
    · exact St.ok_x
  case h_4 op t x y yt =>
    split
    · rename_i u v hu hv
      exact binSt_ok op t x y u v (by simp only [execOp, h.ev hu, h.ev hv])
    · exact St.ok_x
  case h_5 op t x =>
    split
    · rename_i u hu
      exact unSt_ok op u (by simp only [execOp, h.ev hu])
    · exact St.ok_x
  case h_6 t x i =>
    split
    · rename_i u v hu hv
      exact idxSt_ok t u v (by simp only [execOp, h.ev hu, h.ev hv])
    · exact St.ok_x
  case h_7 t x lo hi mx =>
    split
    · rename_i u l hh m hu hl hhh hm
      exact subSt_ok t u l hh m (by simp only [execOp, h.ev hu, evo_ok h hl, evo_ok h hhh, evo_ok h hm])
    · exact St.ok_x
  case h_8 x i =>
    split
    · rename_i u hu
      exact extSt_ok u i (by simp only [execOp, h.ev hu])
    · exact St.ok_x
  case h_9 s d x =>
    split
    · rename_i u hu
      exact convSt_ok s d u (by simp only [execOp, h.ev hu])
    · exact St.ok_x
  case h_10 x =>
    split
    · rename_i p hp
      exact ok_p fun _ w => by simp [execOp, h.ev hp]
    · exact St.ok_x
  case h_11 fn first cap =>
    split
    · rename_i us vs hu hv
      have h1 : first.map a.eval = us.toArray := by rw [← h.evs hu]; exact map_arr _ _
      have h2 : cap.map a.eval = vs.toArray := by rw [← h.evs hv]; exact map_arr _ _
      exact ok_p fun _ w => by simp only [execOp, h1, h2]; simp [Instr.makeFunc]
    · exact St.ok_x
  case h_12 t => exact ok_v (by simp only [execOp])
  case h_13 t x =>
    split
    · rename_i u hu
      exact ok_v (by simp only [execOp, h.ev hu])
    · exact St.ok_x
  case h_14 t ps =>
    split
    · rename_i vs hv
      have h1 : ps.map (fun p => (p.1, a.eval p.2)) = vs.toArray := by rw [← h.evp hv]; exact map_arr _ _
      exact ok_v (by simp only [execOp]; rw [← h1])
    · exact St.ok_x
  case h_15 t len ps =>
    split
    · rename_i vs hv
      have h1 : ps.map (fun p => (p.1, a.eval p.2)) = vs.toArray := by rw [← h.evp hv]; exact map_arr _ _
      exact ok_v (by simp only [execOp]; rw [← h1])
    · exact St.ok_x
  case h_16 t x =>
    split
    · rename_i u hu
      exact ok_v (by simp only [execOp, h.ev hu])
    · exact St.ok_x
  case h_17 t x y =>
    split
    · rename_i u v hu hv
      exact ok_u (by simp only [execOp, h.ev hu, h.ev hv])
    · exact St.ok_x
  case h_18 t => exact ok_v (by simp only [execOp, Option.map_none])
  case h_19 t x =>
    split
    · rename_i u hu
      exact ok_v (by simp only [execOp, Option.map_some, h.ev hu])
    · exact St.ok_x
  case h_20 t x y =>
    split
    · rename_i u v hu hv
      exact ok_v (by simp only [execOp, h.ev hu, h.ev hv])
    · exact St.ok_x
  case h_21 t x f =>
    split
    · rename_i u hu
      exact ok_v (by simp only [execOp, h.ev hu])
    · exact St.ok_x
  case h_22 t x f =>
    split
    · rename_i u hu
      exact ok_v (by simp only [execOp, h.ev hu])
    · exact St.ok_x
  case h_23 t x i =>
    split
    · rename_i u v hu hv
      exact ok_v (by simp only [execOp, h.ev hu, h.ev hv])
    · exact St.ok_x
  case h_24 t x i ok =>
    split
    · rename_i u v hu hv
      exact ok_v (by simp only [execOp, h.ev hu, h.ev hv])
    · exact St.ok_x
  case h_25 t m k x =>
    split
    · rename_i u v z hu hv hz
      exact ok_u (by simp only [execOp, h.ev hu, h.ev hv, h.ev hz])
    · exact St.ok_x
  case h_26 t m k x =>
    split
    · rename_i u v z hu hv hz
      exact ok_u (by simp only [execOp, h.ev hu, h.ev hv, h.ev hz])
    · exact St.ok_x
  case h_27 t m k =>
    split
    · rename_i u v hu hv
      exact ok_v (by simp only [execOp, h.ev hu, h.ev hv])
    · exact St.ok_x
  case h_28 t m s x =>
    split
    · rename_i u v z hu hv hz
      exact ok_u (by simp only [execOp, h.ev hu, h.ev hv, h.ev hz])
    · exact St.ok_x
  case h_29 t x =>
    split
    · rename_i u hu
      exact ok_v (by simp only [execOp, h.ev hu])
    · exact St.ok_x
  case h_30 it b =>
    split
    · rename_i u hu
      exact ok_v (by simp only [execOp, h.ev hu])
    · exact St.ok_x
  case h_31 it =>
    split
    · rename_i u hu
      exact ok_v (by simp only [execOp, h.ev hu])
    · exact St.ok_x
  case h_32 f as ts =>
    split
    · rename_i u vs hu hv
      have h1 : as.map a.eval = vs.toArray := by rw [← h.evs hv]; exact map_arr _ _
      exact callSt_ok u vs (by simp only [execOp, resolve, h1, h.ev hu])
    · exact St.ok_x
  case h_33 as ts =>
    split
    · rename_i vs hv
      have h1 : as.map a.eval = vs.toArray := by rw [← h.evs hv]; exact map_arr _ _
      exact lenSt_ok ts type vs (by simp only [execOp, resolve, h1]; rfl)
    · exact St.ok_x
  case h_41 => exact St.ok_x
  all_goals
    split
    · rename_i vs hv
      have h1 := (map_arr a.eval _).trans (congrArg List.toArray (h.evs hv))
      exact ok_v (by simp only [execOp, resolve, h1]; rfl)
    · exact St.ok_x
end Go.Proofs.YtkhlmpkodjoioaaDoor
