/- The logic over data: the step of an operation as a function. -/
import Derived.Test.YtemaanibghedlaaGreatAwC
import Derived.Great.FillDense
import Derived.Laws.Tables
namespace Go.Proofs.YtemaanibghedlaaGreat
open Go.RowKit

/-- Operations on bits: under a name, so that no search looks into them. -/
def bitI (op : BinOp) (k : IntKind) (a b : Int) : Int := match op with
  | .and => k.wrap (BitVec.ofInt k.bits a &&& BitVec.ofInt k.bits b).toNat
  | .or => k.wrap (BitVec.ofInt k.bits a ||| BitVec.ofInt k.bits b).toNat
  | .xor => k.wrap (BitVec.ofInt k.bits a ^^^ BitVec.ofInt k.bits b).toNat
  | .andNot => k.wrap (BitVec.ofInt k.bits a &&& ~~~BitVec.ofInt k.bits b).toNat
  | .shl => k.wrap (a * 2 ^ (min b.toNat k.bits))
  | _ => a.fdiv (2 ^ (min b.toNat k.bits))
theorem bitI_and (k : IntKind) (a b : Int) : bitI .and k a b = k.wrap (BitVec.ofInt k.bits a &&& BitVec.ofInt k.bits b).toNat := rfl
/-- An integer, string or bool operation. -/
def binD (P : Program) (op : BinOp) (t : TypeId) : Value → Value → Option Value
  | .int k a, .int k' b =>
    if op = .shl then (if 0 ≤ b then some (.int k (bitI .shl k a b)) else none)
    else if op = .shr then (if 0 ≤ b then some (.int k (bitI .shr k a b)) else none)
    else if k = k' then
      match op with
      | .and => some (.int k (bitI .and k a b))
      | .or => some (.int k (bitI .or k a b))
      | .xor => some (.int k (bitI .xor k a b))
      | .andNot => some (.int k (bitI .andNot k a b))
      | .add => some (.int k (k.wrap (a + b)))
      | .sub => some (.int k (k.wrap (a - b)))
      | .mul => some (.int k (k.wrap (a * b)))
      | .quo => if b = 0 then none else some (.int k (k.wrap (a.tdiv b)))
      | .rem => if b = 0 then none else some (.int k (a.tmod b))
      | .eql => some (.bool (a == b))
      | .neq => some (.bool (a != b))
      | .lss => some (.bool (decide (a < b)))
      | .leq => some (.bool (decide (a ≤ b)))
      | .gtr => some (.bool (decide (a > b)))
      | .geq => some (.bool (decide (a ≥ b)))
      | _ => none
    else none
  | .string a, .string b =>
    match op with
    | .add => if a.size + b.size ≤ 9223372036854775807 then some (.string (a ++ b)) else none
    | .eql => some (.bool (a.toList == b.toList))
    | .neq => some (.bool (!(a.toList == b.toList)))
    | .lss => some (.bool (Op.bytesLess a.toList b.toList))
    | .leq => some (.bool (Op.bytesLess a.toList b.toList || a.toList == b.toList))
    | .gtr => some (.bool (!(Op.bytesLess a.toList b.toList || a.toList == b.toList)))
    | .geq => some (.bool (!Op.bytesLess a.toList b.toList))
    | _ => none
  | .bool a, .bool b =>
    match op with
    | .eql => if isBool P t then some (.bool (a == b)) else none
    | .neq => if isBool P t then some (.bool (!(a == b))) else none
    | _ => none
  | _, _ => none

theorem isBool_ {P : Program} {t : TypeId} (h : isBool P t = true) : P.underlying t = some .bool := by
  unfold isBool at h
  split at h
  · assumption
  · cases h
theorem isStr_ {P : Program} {t : TypeId} (h : isStr P t = true) : P.underlying t = some .string := by
  unfold isStr at h
  split at h
  · assumption
  · cases h

theorem run_binD {P : Program} {op : BinOp} {t : TypeId} {x y v : Value} (h : binD P op t x y = some v) (X Y : Operand) (w : World) :
    (do eqGuard op t X Y x y; binOp op t x y).run P w = .ok v w ∧ v.oneCell' = true := by
  unfold binD at h
  split at h
  · rename_i k a k' b
    have hg : (eqGuard op t X Y (.int k a) (.int k' b)).run P w = .ok () w := by
      unfold eqGuard
      cases op <;> simp
    split at h
    · rename_i hop
      subst hop
      split at h
      · rename_i hb
        injection h with h
        subst h
        exact ⟨by simp [hg, binOp, Op.shift, Int.not_lt.2 hb, bitI], rfl⟩
      · cases h
    split at h
    · rename_i hop
      subst hop
      split at h
      · rename_i hb
        injection h with h
        subst h
        exact ⟨by simp [hg, binOp, Op.shift, Int.not_lt.2 hb, bitI], rfl⟩
      · cases h
    split at h
    · rename_i hk
      subst hk
      cases op <;> simp only [reduceCtorEq, Option.some.injEq] at h <;>
        first
        | (subst h; refine ⟨?_, rfl⟩; simp only [Sem.run_bind, hg, Result.andThen_ok, binOp, ne_eq, not_true_eq_false, if_false, Op.intBits, bitI, Sem.run_pure]; done)
        | (subst h; exact ⟨by simp [hg, binOp, Op.intArith, Op.intCmp], rfl⟩)
        | (split at h
           · cases h
           · rename_i hb
             injection h with h
             subst h
             exact ⟨by simp [hg, binOp, Op.intDiv, hb], rfl⟩)
        | contradiction
    · cases h
  · rename_i a b
    have hg : (eqGuard op t X Y (.string a) (.string b)).run P w = .ok () w := by
      unfold eqGuard
      cases op <;> simp
    cases op <;> simp only [reduceCtorEq, Option.some.injEq] at h <;>
      first
      | (subst h; exact ⟨by simp [hg, binOp, Op.stringOp], rfl⟩)
      | (split at h
         · rename_i hb
           injection h with h
           subst h
           refine ⟨?_, rfl⟩
           have hb' : ¬ ((a.size + b.size : Nat) : Int) > IntKind.i64.max := by simp [IntKind.max, IntKind.signed, IntKind.bits]; omega
           simp only [Sem.run_bind, hg, Result.andThen_ok, binOp, Op.stringOp, if_neg hb', Sem.run_pure]
         · cases h)
  · rename_i a b
    have hg : (eqGuard op t X Y (.bool a) (.bool b)).run P w = .ok () w := by
      unfold eqGuard
      cases op <;> simp
    cases op <;> simp only [reduceCtorEq] at h <;>
      (split at h
       · rename_i hb
         injection h with h
         subst h
         refine ⟨?_, rfl⟩
         have hu := isBool_ hb
         first
         | (have := run_eql_bool (P := P) w t a b hu; simp only [Sem.run_bind, hg, Result.andThen_ok]; exact this)
         | (have := run_neq_bool (P := P) w t a b hu; simp only [Sem.run_bind, hg, Result.andThen_ok]; rw [this])
       · cases h)
  · cases h

def unD (op : UnOp) : Value → Option Value
  | .bool b => match op with | .not => some (.bool (!b)) | _ => none
  | .int k n => match op with | .neg => some (.int k (k.wrap (0 - n))) | _ => none
  | _ => none
theorem run_unD {P : Program} {op : UnOp} {x v : Value} (h : unD op x = some v) (w : World) : (Op.unary op x).run P w = .ok v w ∧ v.oneCell' = true := by
  unfold unD at h
  split at h
  · split at h
    · injection h with h; subst h; exact ⟨by simp [Op.unary], rfl⟩
    · cases h
  · split at h
    · injection h with h; subst h; exact ⟨by simp [Op.unary, Op.intArith], rfl⟩
    · cases h
  · cases h

def pickD (t : Bool) (x y : D) : D := match x, y with | .sc (.bool p), .sc (.bool q) => .sc (.bool (cond t p q)) | x, y => if t then x else y
theorem pickD_eq (t : Bool) (x y : D) : pickD t x y = if t then x else y := by
  unfold pickD
  split
  · cases t <;> rfl
  · rfl

/-- The length of a slice or a string. -/
def lenD : D → Option Nat
  | .sl n _ => some n
  | .own _ _ n => some n
  | .sc (.string s) => some s.size
  | .sc (.slice _ n _) => some n
  | _ => none

def idxD (P : Program) (t : TypeId) (x : D) (i : D) : Option D :=
  match i, elemK P t with
  | .sc (.int _ k), some (_, size) =>
    match x with
    | .sl n cs => if 0 ≤ k ∧ k < (n : Int) ∧ k.toNat * size < cs.length then some (.cptr cs (k.toNat * size)) else none
    | .own j off n => if 0 ≤ k ∧ k < (n : Int) then some (.ptr j (off + k.toNat * size)) else none
    | _ => none
  | _, _ => none

def fldD (P : Program) (t : TypeId) (f : Nat) : D → Option D
  | .ptr i o => (fldK P t f).map fun off => .ptr i (o + off)
  | .cptr cs o => (fldK P t f).map fun off => .cptr cs (o + off)
  | _ => none

/-- len of one thing. -/
def lenOp (P : Program) (s : St) (xs : Array Operand) (ts : Array TypeId) : Option D :=
  match xs.toList, ts.toList with
  | [x], [t] => match s.ev x with
    | .sc (.string b) => if isStr P t then some (.sc (.int .i64 b.size)) else none
    | d => match lenD d, elemK P t with | some n, some _ => some (.sc (.int .i64 n)) | _, _ => none
  | _, _ => none
theorem val_move {X : Ctx} {P : Program} {o : Oper} {s : St} {x : Operand} (ho : o.op = .move x ∨ o.op = .assign x) : ValAt X P o s (s.ev x) :=
  fun E a w hr => ⟨a.eval x, hr.ev x, fun w' _ => by rcases ho with ho | ho <;> simp [execOp, ho]⟩

theorem awop_alloc {X : Ctx} {P : Program} {o : Oper} {s : St} {t : TypeId} (ho : o.op = .alloc t) {z : Value} (hz : zeroK P t = some z) (h1 : z.cells.toList.all Value.oneCell' = true) :
    AwOp X P o s ((s.newOb ⟨t, z.cells.size, 1, z.cells.toList.map .sc⟩).put o.dst (.ptr s.nb 0)) := by
  refine awop_new (sc_nt _) fun E a w hr => ⟨z.cells, 1, .pointer (some ⟨w.heap.size, 0, none⟩), ?_, by simp, Nat.le_refl _, by unfold maxLen; omega, by simp, fun j d hd => ?_, ⟨_, Env.with_at, rfl⟩⟩
  · unfold zeroK at hz
    cases hi : P.info? t with
    | none => rw [hi] at hz; cases hz
    | some i =>
      rw [hi] at hz
      have hz' : i.zero = some z := hz
      simp [execOp, ho, Instr.alloc, zeroValue, run_typeInfo w hi, hz', newVar, newRow]
  · rw [List.getElem?_map] at hd
    cases hj : z.cells.toList[j]? with
    | none => rw [hj] at hd; cases hd
    | some u =>
      rw [hj] at hd
      have : D.sc u = d := by simpa using hd
      subst this
      rw [Array.getElem?_toList] at hj
      have hu : u.oneCell' = true := by
        have hm : u ∈ z.cells.toList := by simpa using Array.mem_of_getElem? hj
        exact List.all_eq_true.1 h1 u hm
      exact ⟨u, hj, hu, rfl, hu⟩

theorem awop_box {X : Ctx} {P : Program} {o : Oper} {s : St} {t : TypeId} {x : Operand} (ho : o.op = .box t x) (hk : (s.ev x).known = true) :
    AwOp X P o s ((s.newOb ⟨t, (s.ev x).cells.length, 1, (s.ev x).cells⟩).put o.dst (.ptr s.nb 0)) := by
  refine awop_new (known_nt hk) fun E a w hr => ?_
  obtain ⟨h1, h2⟩ := rep_cells (hr.ev x) hk
  refine ⟨(a.eval x).cells, 1, .pointer (some ⟨w.heap.size, 0, none⟩), ?_, by simp, Nat.le_refl _, by unfold maxLen; omega, by simpa using h1, fun j d hd => h2 j d hd, ⟨_, Env.with_at, rfl⟩⟩
  simp [execOp, ho, Instr.box, newVar, newRow]

theorem run_fieldAt_of {P : Program} {t : TypeId} {f off : Nat} (h : fldK P t f = some off) (g o : Nat) (w : World) :
    (Instr.fieldAt t (.pointer (some ⟨g, o, none⟩)) f).run P w = .ok (.pointer (some ⟨g, o + off, none⟩)) w := by
  unfold fldK at h
  split at h
  · rename_i fs hu
    split at h
    · rename_i x hx
      split at h
      · rename_i i hi
        split at h
        · cases h
        · rename_i hne
          injection h with h
          subst h
          have hs : (Go.sizeOf x.type).run P w = .ok i.size w := by simp [Go.sizeOf, run_typeInfo w hi]
          simp [Instr.fieldAt, run_underlying hu, hx, Instr.sureAddr, fieldPlace, hs, hne, Addr.add_lit]
      · cases h
    · cases h
  · cases h

theorem val_field {X : Ctx} {P : Program} {o : Oper} {s : St} {t : TypeId} {x : Operand} {f : Nat} (ho : o.op = .fieldAddr t x f) {d : D} (h : fldD P t f (s.ev x) = some d) : ValAt X P o s d := by
  intro E a w hr
  have hx := hr.ev x
  cases hd : s.ev x with
  | ptr i k =>
    rw [hd] at h hx
    obtain ⟨l, hl, hp⟩ := hx
    simp only [fldD] at h
    cases hf : fldK P t f with
    | none => rw [hf] at h; cases h
    | some off =>
      rw [hf] at h
      injection h with h
      subst h
      exact ⟨.pointer (some ⟨l.g, k + off, none⟩), ⟨l, hl, rfl⟩, fun w' _ => by simp only [execOp, ho, hp]; simp [run_fieldAt_of hf]⟩
  | cptr cs k =>
    rw [hd] at h hx
    obtain ⟨b, oo, us, hp, h1, h2, h3, h4⟩ := hx
    simp only [fldD] at h
    cases hf : fldK P t f with
    | none => rw [hf] at h; cases h
    | some off =>
      rw [hf] at h
      injection h with h
      subst h
      exact ⟨.pointer (some ⟨b, oo + k + off, none⟩), ⟨b, oo, us, by rw [Nat.add_assoc], h1, h2, h3, h4⟩, fun w' _ => by simp only [execOp, ho, hp]; simp [run_fieldAt_of hf]⟩
  | _ => rw [hd] at h; cases h

theorem elemK_ {P : Program} {t : TypeId} {e size : Nat} (h : elemK P t = some (e, size)) : P.underlying t = some (.slice e) ∧ ∀ w, (Go.sizeOf e).run P w = .ok size w := by
  unfold elemK at h
  split at h
  · rename_i e' hu
    cases hi : P.info? e' with
    | none => rw [hi] at h; cases h
    | some i =>
      rw [hi] at h
      simp only [Option.map_some, Option.some.injEq, Prod.mk.injEq] at h
      obtain ⟨rfl, rfl⟩ := h
      exact ⟨hu, fun w => by simp [Go.sizeOf, run_typeInfo w hi]⟩
  · cases h

theorem run_indexAt_of {P : Program} {t e size : Nat} (h : elemK P t = some (e, size)) (g o n c : Nat) (q : IntKind) (k : Int) (h0 : 0 ≤ k) (h1 : k < (n : Int)) (w : World) :
    (Instr.indexAt t (.slice (some ⟨g, o, none⟩) n c) (.int q k)).run P w = .ok (.pointer (some ⟨g, o + k.toNat * size, none⟩)) w := by
  obtain ⟨hu, hs⟩ := elemK_ h
  simp [Instr.indexAt, asIntOf, run_underlying hu, h0, h1, hs, Addr.add_lit]

theorem val_index {X : Ctx} {P : Program} {o : Oper} {s : St} {t : TypeId} {x i : Operand} (ho : o.op = .indexAddr t x i) {d : D} (h : idxD P t (s.ev x) (s.ev i) = some d) : ValAt X P o s d := by
  intro E a w hr
  have hx := hr.ev x
  have hi := hr.ev i
  unfold idxD at h
  split at h
  · rename_i q k e size hd1 he
    rw [hd1] at hi
    have hi' : a.eval i = .int q k := hi.1
    split at h
    · rename_i n cs hd
      rw [hd] at hx
      split at h
      · rename_i hc
        injection h with h
        subst h
        cases hx' : a.eval x with
        | slice A n' c =>
          rw [hx'] at hx
          have hx2 : RepP E.ro w (.sl n cs) (.slice A n' c) := hx
          cases hx2 with
          | sl _ _ _ _ us hl hn hcm hcell hrep =>
            obtain ⟨b, oo, rfl, hb, _⟩ := hcell 0 (us[0]'(by omega)) (List.getElem?_eq_getElem _)
            refine ⟨.pointer (some ⟨b, oo + k.toNat * size, none⟩), ⟨b, oo, us, rfl, hb, hl, fun j v hv => ?_, hrep⟩, fun w' _ => by simp only [execOp, ho, hx', hi']; simp [run_indexAt_of he b oo n c q k hc.1 hc.2.1]⟩
            obtain ⟨b', o', e1, _, h5⟩ := hcell j v hv
            injection e1 with e1
            injection e1 with e1 e2
            subst e1; subst e2
            exact h5
        | _ => rw [hx'] at hx; cases hx
      · cases h
    · rename_i j off n hd
      rw [hd] at hx
      split at h
      · rename_i hc
        injection h with h
        subst h
        rcases hx with ⟨l, c, hl, hv, _⟩ | ⟨_, _, hn, _⟩
        · exact ⟨.pointer (some ⟨l.g, off + k.toNat * size, none⟩), ⟨l, hl, rfl⟩, fun w' _ => by simp only [execOp, ho, hv, hi']; simp [run_indexAt_of he l.g off n c q k hc.1 hc.2]⟩
        · omega
      · cases h
    · cases h
  · cases h

theorem val_len {X : Ctx} {P : Program} {o : Oper} {s : St} {xs : Array Operand} {ts : Array TypeId} (ho : o.op = .call { callee := .builtin .len, args := xs, argTypes := ts }) {d : D} (h : lenOp P s xs ts = some d) : ValAt X P o s d := by
  unfold lenOp at h
  split at h
  · rename_i x t hx ht
    obtain rfl : xs = #[x] := by rw [← Array.toArray_toList (xs := xs), hx]
    obtain rfl : ts = #[t] := by rw [← Array.toArray_toList (xs := ts), ht]
    intro E a w hr
    have h1 := hr.ev x
    have hex : ∀ w', (execOp a.eval o).run P w' = ((Builtin.len_ #[t] o.type #[a.eval x]).run P w').andThen fun v w => .ok (.value v) w := by
      intro w'
      simp [execOp, ho, resolve, invoke, builtin]
    split at h
    · rename_i b hb
      rw [hb] at h1
      have h3 : a.eval x = .string b := h1.1
      split at h
      · rename_i hst
        injection h with h; subst h
        refine ⟨_, ⟨rfl, rfl⟩, fun w' _ => ?_⟩
        rw [hex, h3, run_len_string w' t o.type b (isStr_ hst)]
        rfl
      · cases h
    · rename_i dd hdd
      split at h
      · rename_i n e hn he
        injection h with h; subst h
        obtain ⟨e, size⟩ := e
        obtain ⟨hu, _⟩ := elemK_ he
        have hsl : ∃ A c, a.eval x = .slice A n c := by
          cases hd : s.ev x with
          | sl m cs =>
            rw [hd] at hn h1
            injection hn with hn; subst hn
            cases hv : a.eval x with
            | slice A m' c =>
              rw [hv] at h1
              have h2 : RepP E.ro w (.sl m cs) (.slice A m' c) := h1
              cases h2
              exact ⟨_, _, rfl⟩
            | _ => rw [hv] at h1; cases h1
          | own i off m =>
            rw [hd] at hn h1
            injection hn with hn; subst hn
            rcases h1 with ⟨l, c, _, h2, _⟩ | ⟨_, _, rfl, h2⟩
            · exact ⟨_, _, h2⟩
            · exact ⟨_, _, h2⟩
          | sc v =>
            rw [hd] at hn h1
            cases v with
            | slice A m c =>
              injection hn with hn; subst hn
              exact ⟨_, _, h1.1⟩
            | string b => exact absurd hd (hdd b)
            | _ => cases hn
          | _ => rw [hd] at hn; cases hn
        obtain ⟨A, c, hv⟩ := hsl
        refine ⟨_, ⟨rfl, rfl⟩, fun w' _ => ?_⟩
        have hu' : P.underlying t = some (.slice (P.elem t)) := by rw [hu]; simp [Program.elem, hu]
        rw [hex, hv, run_len_slice w' t o.type A n c hu']
        rfl
      · cases h
  · cases h

def intK (P : Program) (t : TypeId) : Option IntKind := match P.underlying t with | some (.int k) => some k | _ => none
theorem intK_ {P : Program} {t : TypeId} {k : IntKind} (h : intK P t = some k) : P.underlying t = some (.int k) := by
  unfold intK at h
  split at h
  · rename_i hu
    injection h with h
    subst h
    exact hu
  · cases h
/-- Between numbers, or between strings. -/
def convD (P : Program) (src dst : TypeId) : D → Option D
  | .sc (.int _ n) => match intK P src, intK P dst with | some _, some k => some (.sc (.int k (k.wrap n))) | _, _ => none
  | .sc (.string b) => if isStr P src && isStr P dst then some (.sc (.string b)) else none
  | _ => none
theorem val_conv {X : Ctx} {P : Program} {o : Oper} {s : St} {src dst : TypeId} {x : Operand} (ho : o.op = .convert src dst x) {d : D} (h : convD P src dst (s.ev x) = some d) : ValAt X P o s d := by
  intro E a w hr
  have hx := hr.ev x
  unfold convD at h
  split at h
  · rename_i q n hd
    rw [hd] at hx
    have hx' : a.eval x = .int q n := hx.1
    split at h
    · rename_i k1 k2 h1 h2
      injection h with h
      subst h
      exact ⟨_, ⟨rfl, rfl⟩, fun w' _ => by simp [execOp, ho, hx', Go.convert, run_underlying (intK_ h1), run_underlying (intK_ h2), Conv.intToInt]⟩
    · cases h
  · rename_i b hd
    rw [hd] at hx
    have hx' : a.eval x = .string b := hx.1
    split at h
    · rename_i hs
      simp only [Bool.and_eq_true] at hs
      injection h with h
      subst h
      exact ⟨_, ⟨rfl, rfl⟩, fun w' _ => by simp [execOp, ho, hx', Go.convert, run_underlying (isStr_ hs.1), run_underlying (isStr_ hs.2)]⟩
    · cases h
  · cases h

attribute [irreducible] bitI
/-! Composite literals. -/
def placesK (P : Program) (t : TypeId) : Option (List (Nat × Nat)) := match P.underlying t with
  | some (.struct fields) => fields.toList.mapM (fun f => (P.info? f.type).map fun i => (f.offset, i.size))
  | _ => none
def fillD (place : Nat → Option (Nat × Nat)) : List D → List (Nat × D) → Option (List D)
  | cs, [] => some cs
  | cs, (i, d) :: rest => match place i with
    | some (off, size) => if d.known = true ∧ d.cells.length = size ∧ off + size ≤ cs.length then fillD place (setL cs off d.cells) rest else none
    | none => none
def zeroD (z : Value) : List D := z.cells.toList.map .sc
def buildD (P : Program) (s : St) (t : TypeId) (parts : Array (Nat × Operand)) : Option D :=
  match zeroK P t, placesK P t with
  | some z, some places => if z.cells.toList.all Value.oneCell' = true then (fillD (fun i => places[i]?) (zeroD z) (parts.toList.map fun p => (p.1, s.ev p.2))).map .agg else none
  | _, _ => none
theorem fill_sound {X : Ctx} {s : St} {E : Env} {a : Act} {w : World} (hr : Rel X s E a w) {place : Nat → Option (Nat × Nat)} : ∀ {parts : List (Nat × Operand)} {cs out : List D} {cells : Array Value},
    fillD place cs (parts.map fun p => (p.1, s.ev p.2)) = some out → cells.size = cs.length → (∀ (j : Nat) (d : D), cs[j]? = some d → ∃ v, cells[j]? = some v ∧ v.oneCell' = true ∧ Rep1 E w d v) →
    ∃ cells', Instr.fill place cells (parts.map fun p => (p.1, a.eval p.2)) = some cells' ∧ cells'.size = out.length ∧ ∀ (j : Nat) (d : D), out[j]? = some d → ∃ v, cells'[j]? = some v ∧ v.oneCell' = true ∧ Rep1 E w d v
  | [], cs, out, cells, h, hsz, hc => by
    injection h with h
    subst h
    exact ⟨cells, rfl, hsz, hc⟩
  | (i, x) :: parts, cs, out, cells, h, hsz, hc => by
    rw [List.map_cons] at h ⊢
    unfold fillD at h
    unfold Instr.fill
    simp only at h ⊢
    cases hp : place i with
    | none => rw [hp] at h; cases h
    | some os =>
      obtain ⟨off, size⟩ := os
      rw [hp] at h
      simp only at h ⊢
      split at h
      · rename_i hk
        obtain ⟨h1, h2, h3⟩ := hk
        obtain ⟨h4, h5⟩ := rep_cells (hr.ev x) h1
        rw [if_neg (by rw [h4, h2]; simp; omega)]
        obtain ⟨h6, h7⟩ := Great.foldl_set off (a.eval x).cells.toList 0 cells
        have he : ((a.eval x).cells.zipIdx.foldl (fun cs (c, j) => cs.setIfInBounds (off + j) c) cells) = (((a.eval x).cells.toList.zipIdx 0).foldl (fun cs (x : Value × Nat) => cs.setIfInBounds (off + x.2) x.1) cells) := by
          rw [← Array.foldl_toList, Array.toList_zipIdx]
        rw [he]
        refine fill_sound hr h (by rw [h6, setL_len, hsz]) fun j d hd => ?_
        rw [setL_at _ _ _ _ (by omega)] at hd
        rw [h7]
        have hl : (a.eval x).cells.toList.length = (s.ev x).cells.length := by simpa using h4
        by_cases hj : off ≤ j ∧ j < off + (s.ev x).cells.length
        · rw [if_pos hj] at hd
          rw [if_pos (by omega), Nat.add_zero]
          obtain ⟨v, h8, h9⟩ := h5 _ _ hd
          exact ⟨v, by rw [Array.getElem?_toList]; exact h8, h9⟩
        · rw [if_neg hj] at hd
          rw [if_neg (by omega)]
          exact hc j d hd
      · cases h
theorem zero_cells {E : Env} {w : World} {z : Value} (h1 : z.cells.toList.all Value.oneCell' = true) : z.cells.size = (zeroD z).length ∧ ∀ (j : Nat) (d : D), (zeroD z)[j]? = some d → ∃ v, z.cells[j]? = some v ∧ v.oneCell' = true ∧ Rep1 E w d v := by
  refine ⟨by simp [zeroD], fun j d hd => ?_⟩
  unfold zeroD at hd
  rw [List.getElem?_map] at hd
  cases hj : z.cells.toList[j]? with
  | none => rw [hj] at hd; cases hd
  | some u =>
    rw [hj] at hd
    have : D.sc u = d := by simpa using hd
    subst this
    rw [Array.getElem?_toList] at hj
    have hu : u.oneCell' = true := by
      have hm : u ∈ z.cells.toList := by simpa using Array.mem_of_getElem? hj
      exact List.all_eq_true.1 h1 u hm
    exact ⟨u, hj, hu, rfl, hu⟩
theorem val_build {X : Ctx} {P : Program} {o : Oper} {s : St} {t : TypeId} {parts : Array (Nat × Operand)} (ho : o.op = .build t parts) {d : D} (h : buildD P s t parts = some d) : ValAt X P o s d := by
  intro E a w hr
  unfold buildD at h
  split at h
  · rename_i z places hz hpl
    split at h
    · rename_i h1
      cases hf : fillD (fun i => places[i]?) (zeroD z) (parts.toList.map fun p => (p.1, s.ev p.2)) with
      | none => rw [hf] at h; cases h
      | some out =>
        rw [hf] at h
        injection h with h
        subst h
        obtain ⟨h2, h3⟩ := zero_cells (E := E) (w := w) h1
        obtain ⟨cells', h4, h5, h6⟩ := fill_sound hr hf h2 h3
        have hb : P.built t (parts.map fun (i, x) => (i, a.eval x)).toList = some cells' := by
          unfold zeroK at hz
          unfold placesK at hpl
          cases hi : P.info? t with
          | none => rw [hi] at hz; cases hz
          | some it =>
            rw [hi] at hz
            have hz' : it.zero = some z := hz
            split at hpl
            · rename_i fields hu
              unfold Program.built
              simp only [hi, hu, hz', hpl]
              rw [Array.toList_map]
              simpa using h4
            · cases hpl
        refine ⟨.agg cells', ⟨cells'.toList, by simp, by simpa using h5, fun j d v hd hv => ?_⟩, fun w' _ => by simp only [execOp, ho, Sem.run_bind, run_build w' t _ _ hb, Result.andThen_ok]; rfl⟩
        obtain ⟨v', h7, h8, h9⟩ := h6 j d hd
        rw [Array.getElem?_toList, h7] at hv
        injection hv with hv
        subst hv
        exact ⟨h9, h8⟩
    · cases h
  · cases h

def rowD (zs : List D) : Nat → List D
  | 0 => []
  | n + 1 => zs ++ rowD zs n
theorem rowD_len (zs : List D) : ∀ n, (rowD zs n).length = n * zs.length
  | 0 => by simp [rowD]
  | n + 1 => by rw [rowD, List.length_append, rowD_len zs n, Nat.add_mul, Nat.one_mul, Nat.add_comm]
theorem rowD_at (zs : List D) : ∀ n k, k < n * zs.length → (rowD zs n)[k]? = zs[k % zs.length]?
  | 0, k, h => by simp at h
  | n + 1, k, h => by
    rw [rowD]
    by_cases hk : k < zs.length
    · rw [List.getElem?_append_left hk, Nat.mod_eq_of_lt hk]
    · rw [List.getElem?_append_right (by omega), rowD_at zs n (k - zs.length) (by rw [Nat.add_mul] at h; omega), ← Nat.mod_eq_sub_mod (by omega)]
def buildSliceD (P : Program) (s : St) (t : TypeId) (len : Nat) (parts : Array (Nat × Operand)) : Option Ob :=
  match elemK P t with
  | some (e, size) => match zeroK P e with
    | some z => if z.cells.toList.all Value.oneCell' = true ∧ (zeroD z).length = size ∧ 0 < size ∧ len * size ≤ 16777216 then (fillD (fun i => some (i * size, size)) (rowD (zeroD z) len) (parts.toList.map fun p => (p.1, s.ev p.2))).map fun cs => ⟨e, size, len, cs⟩ else none
    | none => none
  | none => none
theorem fillD_len {place : Nat → Option (Nat × Nat)} : ∀ {parts : List (Nat × D)} {cs out : List D}, fillD place cs parts = some out → out.length = cs.length
  | [], cs, out, h => by injection h with h; rw [h]
  | (i, d) :: parts, cs, out, h => by
    unfold fillD at h
    split at h
    · split at h
      · rw [fillD_len h, setL_len]
      · cases h
    · cases h
theorem setL_nt : ∀ (ds cs : List D) (o : Nat), cs.all D.nt = true → ds.all D.nt = true → (setL cs o ds).all D.nt = true
  | [], _, _, h, _ => h
  | d :: ds, cs, o, h, hd => by
    rw [List.all_cons, Bool.and_eq_true] at hd
    rw [setL]
    refine setL_nt ds _ _ ?_ hd.2
    refine List.all_eq_true.2 fun e he => ?_
    rcases List.mem_or_eq_of_mem_set he with h1 | h1
    · exact List.all_eq_true.1 h e h1
    · rw [h1]; exact hd.1
theorem rowD_nt {zs : List D} (h : zs.all D.nt = true) : ∀ n, (rowD zs n).all D.nt = true
  | 0 => rfl
  | n + 1 => by rw [rowD, List.all_append, h, rowD_nt h n]; rfl
theorem fillD_nt {place : Nat → Option (Nat × Nat)} : ∀ {parts : List (Nat × D)} {cs out : List D}, cs.all D.nt = true → fillD place cs parts = some out → out.all D.nt = true
  | [], cs, out, h0, h => by injection h with h; rw [← h]; exact h0
  | (i, d) :: parts, cs, out, h0, h => by
    unfold fillD at h
    split at h
    · split at h
      · rename_i hc
        exact fillD_nt (setL_nt _ _ _ h0 (known_nt hc.1)) h
      · cases h
    · cases h
theorem awop_buildSlice {X : Ctx} {P : Program} {o : Oper} {s : St} {t : TypeId} {len : Nat} {parts : Array (Nat × Operand)} (ho : o.op = .buildSlice t len parts) {x : Ob} (h : buildSliceD P s t len parts = some x) :
    AwOp X P o s ((s.newOb x).put o.dst (.own s.nb 0 len)) := by
  unfold buildSliceD at h
  split at h
  · rename_i e size he
    split at h
    · rename_i z hz
      split at h
      · rename_i hc
        obtain ⟨h1, h2, h3, h4⟩ := hc
        cases hf : fillD (fun i => some (i * size, size)) (rowD (zeroD z) len) (parts.toList.map fun p => (p.1, s.ev p.2)) with
        | none => rw [hf] at h; cases h
        | some out =>
          rw [hf] at h
          injection h with h
          subst h
          refine awop_new (fillD_nt (rowD_nt (sc_nt _) _) hf) fun E a w hr => ?_
          obtain ⟨hu, hs⟩ := elemK_ he
          obtain ⟨h5, h6⟩ := zero_cells (E := E) (w := w) h1
          have hzl : z.cells.size = size := h5.trans h2
          have hzv : (zeroValue e).run P w = .ok z w := by
            unfold zeroK at hz
            cases hi : P.info? e with
            | none => rw [hi] at hz; cases hz
            | some it =>
              rw [hi] at hz
              have hz' : it.zero = some z := hz
              simp [zeroValue, run_typeInfo w hi, hz']
          have hcells : ∀ (j : Nat) (d : D), (rowD (zeroD z) len)[j]? = some d → ∃ v, ((Array.range (len * size)).map fun k => z.cells[k % z.cells.size]!)[j]? = some v ∧ v.oneCell' = true ∧ Rep1 E w d v := by
            intro j d hd
            have hj : j < len * size := by
              have := (List.getElem?_eq_some_iff.1 hd).1
              rw [rowD_len, h2] at this
              exact this
            rw [rowD_at _ _ _ (by rw [h2]; exact hj), h2] at hd
            obtain ⟨v, h7, h8⟩ := h6 _ d hd
            refine ⟨v, ?_, h8⟩
            simp [hj, hzl, getElem!_def, h7]
          obtain ⟨cells', h7, h8, h9⟩ := fill_sound hr hf (cells := (Array.range (len * size)).map fun k => z.cells[k % z.cells.size]!) (by simp [rowD_len, h2]) hcells
          have hol : out.length = len * size := by rw [fillD_len hf, rowD_len, h2]
          refine ⟨cells', len, .slice (some ⟨w.heap.size, 0, none⟩) len len, ?_, hol, Nat.le_refl _, ?_, h8.trans hol, h9, .inl ⟨_, len, Env.with_at, rfl, Nat.le_refl _, ?_, fun _ => rfl⟩⟩
          · have hp : (parts.map fun (i, x) => (i, a.eval x)).toList = parts.toList.map fun p => (p.1, a.eval p.2) := by simp
            have hgo : (Instr.buildSlice t len (parts.map fun (i, x) => (i, a.eval x))).run P w = .ok (.slice (some ⟨w.heap.size, 0, none⟩) len len) (w.alloc (.cells cells' e)) := by
              unfold Instr.buildSlice
              simp only [Sem.run_bind, run_underlying hu, Result.andThen_ok, hs, hp]
              rw [if_neg (by omega)]
              by_cases h0 : len * size = 0
              · have hl0 : len = 0 := by
                  rcases Nat.mul_eq_zero.1 h0 with h | h
                  · exact h
                  · omega
                subst hl0
                simp only [Nat.zero_mul] at h7 ⊢
                simp only [if_true, Sem.run_bind, Sem.run_pure, Result.andThen_ok]
                have e1 : (Array.range 0).map (fun k => (#[] : Array Value)[k % (#[] : Array Value).size]!) = (Array.range 0).map fun k => z.cells[k % z.cells.size]! := by simp
                rw [e1, h7]
                simp [newRow]
              · simp only [if_neg h0, Sem.run_bind, hzv, Result.andThen_ok, Sem.run_pure, h7]
                simp [newRow]
            simp only [execOp, ho, Sem.run_bind, hgo, Result.andThen_ok]
            rfl
          · have : len ≤ len * size := Nat.le_mul_of_pos_right _ h3
            show len ≤ maxLen
            unfold maxLen
            omega
          · have : len ≤ len * size := Nat.le_mul_of_pos_right _ h3
            unfold maxLen
            omega
      · cases h
    · cases h
  · cases h

/-! Slice expressions. -/
def bndD (s : St) (dflt : Nat) : Option Operand → Option Nat
  | none => some dflt
  | some x => match s.ev x with | .sc (.int _ k) => if 0 ≤ k then some k.toNat else none | _ => none
def sliceD (P : Program) (s : St) (t : TypeId) (x : Operand) (lo hi : Option Operand) : Option D :=
  match s.ev x with
  | .sc (.string b) => match isStr P t, bndD s b.size hi, bndD s 0 lo with
    | true, some h, some l => if l ≤ h ∧ h ≤ b.size then some (.sc (.string (b.extract l h))) else none
    | _, _, _ => none
  | .own i off n => match elemK P t, bndD s n hi, bndD s 0 lo with
    | some (_, size), some h, some l => if l ≤ h ∧ h ≤ n ∧ 0 < size ∧ (l = 0 ∨ l < n) then some (.own i (off + l * size) (h - l)) else none
    | _, _, _ => none
  | .sl n cs => match elemK P t, bndD s n hi, bndD s 0 lo with
    | some (_, size), some h, some l => if l ≤ h ∧ h ≤ n ∧ 0 < size ∧ (l = 0 ∨ l < n) ∧ cs.length = n * size then some (.sl (h - l) ((cs.drop (l * size)).take ((h - l) * size))) else none
    | _, _, _ => none
  | _ => none
theorem bnd_run {X : Ctx} {s : St} {E : Env} {a : Act} {w : World} (hr : Rel X s E a w) {dflt n : Nat} {x : Option Operand} (h : bndD s dflt x = some n) :
    (x = none ∧ n = dflt) ∨ ∃ y q, x = some y ∧ a.eval y = .int q n := by
  cases x with
  | none => injection h with h; exact .inl ⟨rfl, h.symm⟩
  | some y =>
    right
    have h : (match s.ev y with | .sc (.int _ k) => if 0 ≤ k then some k.toNat else none | _ => none) = some n := h
    split at h
    · rename_i q k hd
      split at h
      · rename_i h0
        injection h with h
        subst h
        have hy := hr.ev y
        rw [hd] at hy
        exact ⟨y, q, rfl, by rw [hy.1, Int.toNat_of_nonneg h0]⟩
      · cases h
    · cases h
theorem bounds_run {X : Ctx} {P : Program} {s : St} {E : Env} {a : Act} {w : World} (hr : Rel X s E a w) {len cap h l : Nat} {lo hi : Option Operand} (hh : bndD s len hi = some h) (hl : bndD s 0 lo = some l) (h1 : l ≤ h) (h2 : h ≤ cap) (b : Bool) (w' : World) :
    (Instr.sliceBounds b len cap (lo.map a.eval) (hi.map a.eval) none).run P w' = .ok (l, h, cap) w' := by
  rcases bnd_run hr hh with ⟨rfl, rfl⟩ | ⟨y, q, rfl, hy⟩ <;> rcases bnd_run hr hl with ⟨rfl, rfl⟩ | ⟨z, q', rfl, hz⟩
  · simp [Instr.sliceBounds]
  · simp [Instr.sliceBounds, Instr.sliceBound, asIntOf, hz, h1]
  · simp [Instr.sliceBounds, Instr.sliceBound, asIntOf, hy, h2]
  · simp [Instr.sliceBounds, Instr.sliceBound, asIntOf, hy, hz, h1, h2]
theorem val_slice {X : Ctx} {P : Program} {o : Oper} {s : St} {t : TypeId} {x : Operand} {lo hi : Option Operand} (ho : o.op = .slice t x lo hi none) {d : D} (h : sliceD P s t x lo hi = some d) : ValAt X P o s d := by
  intro E a w hr
  have hx := hr.ev x
  unfold sliceD at h
  split at h
  · rename_i b hd
    rw [hd] at hx
    have hx' : a.eval x = .string b := hx.1
    split at h
    · rename_i hh ll hst h1 h2
      split at h
      · rename_i hc
        injection h with h
        subst h
        refine ⟨_, ⟨rfl, rfl⟩, fun w' _ => ?_⟩
        have hb := bounds_run (P := P) hr h1 h2 hc.1 hc.2 false w'
        simp [execOp, ho, hx', Instr.sliceAt, Instr.slice, run_underlying (isStr_ hst), hb]
      · cases h
    · cases h
  · rename_i i off n hd
    rw [hd] at hx
    split at h
    · rename_i e size hh ll he h1 h2
      split at h
      · rename_i hc
        obtain ⟨c1, c2, c3, c4⟩ := hc
        injection h with h
        subst h
        obtain ⟨hu, hs⟩ := elemK_ he
        rcases hx with ⟨l, c, hl, hv, hnc, hcm, hcc⟩ | ⟨hnone, h0, hn, hv⟩
        · have hb := fun w' => bounds_run (P := P) hr h1 h2 c1 (Nat.le_trans c2 hnc) true w'
          refine ⟨.slice (some ⟨l.g, off + ll * size, none⟩) (hh - ll) (c - ll), .inl ⟨l, c - ll, hl, rfl, by omega, by omega, fun h0 => ?_⟩, fun w' _ => ?_⟩
          · have : ll * size = 0 := by omega
            rcases Nat.mul_eq_zero.1 this with h5 | h5
            · rw [h5, Nat.sub_zero]
              exact hcc (by omega)
            · omega
          · have hlc : c = ll → off + ll * size = off := by
              intro e
              have : ll = 0 := by omega
              rw [this]; simp
            simp only [execOp, ho, hv, Instr.sliceAt, Instr.slice, Sem.run_bind, run_underlying hu, Result.andThen_ok, Option.map_none, hb, hs, Sem.run_pure]
            split
            · rename_i e
              rw [hlc e]
            · simp [Addr.add_lit]
        · subst hn
          have hl0 : ll = 0 := by omega
          have hh0 : hh = 0 := by omega
          subst hl0; subst hh0
          have hb := fun w' => bounds_run (P := P) hr h1 h2 (Nat.le_refl 0) (Nat.le_refl 0) true w'
          refine ⟨.slice none 0 0, .inr ⟨hnone, by simp [h0], rfl, rfl⟩, fun w' _ => ?_⟩
          simp only [execOp, ho, hv, Instr.sliceAt, Instr.slice, Sem.run_bind, run_underlying hu, Result.andThen_ok, Option.map_none, hb, hs, Sem.run_pure]
          rfl
      · cases h
    · cases h
  · rename_i n cs hd
    rw [hd] at hx
    split at h
    · rename_i e size hh ll he h1 h2
      split at h
      · rename_i hc
        obtain ⟨c1, c2, c3, c4, c5⟩ := hc
        injection h with h
        subst h
        obtain ⟨hu, hs⟩ := elemK_ he
        cases hv : a.eval x with
        | slice A n' c =>
          rw [hv] at hx
          have hx2 : RepP E.ro w (.sl n cs) (.slice A n' c) := hx
          cases hx2 with
          | sl _ _ _ _ us hul hnc hcm hcell hrep =>
            have hb := fun w' => bounds_run (P := P) hr h1 h2 c1 (Nat.le_trans c2 hnc) true w'
            refine ⟨.slice (if c = ll then A else A.map (·.add (ll * size))) (hh - ll) (c - ll), RepP.sl _ _ _ _ ((us.drop (ll * size)).take ((hh - ll) * size)) (by simp [hul]) (by omega) (by omega) (fun j u hu' => ?_) (fun j d u hd' hu' => ?_), fun w' _ => ?_⟩
            · rw [List.getElem?_take] at hu'
              split at hu'
              · rw [List.getElem?_drop] at hu'
                obtain ⟨b, oo, rfl, hb', h6⟩ := hcell _ u hu'
                by_cases e : c = ll
                · have h0 : ll = 0 := by omega
                  refine ⟨b, oo, by rw [if_pos e], hb', ?_⟩
                  rw [h0] at h6
                  simpa using h6
                · exact ⟨b, oo + ll * size, by rw [if_neg e]; simp [Addr.add_lit], hb', by rw [Nat.add_assoc]; exact h6⟩
              · cases hu'
            · rw [List.getElem?_take] at hd' hu'
              split at hd'
              · rename_i hj
                rw [if_pos hj] at hu'
                rw [List.getElem?_drop] at hd' hu'
                exact hrep _ d u hd' hu'
              · cases hd'
            · simp only [execOp, ho, hv, Instr.sliceAt, Instr.slice, Sem.run_bind, run_underlying hu, Result.andThen_ok, Option.map_none, hb, hs, Sem.run_pure]
        | _ => rw [hv] at hx; cases hx
      · cases h
    · cases h
  · cases h

/-- What an operation that only reads gives. -/
def valOp (P : Program) (s : St) (o : Oper) : Option D :=
  match o.op with
  | .move x => some (s.ev x)
  | .assign x => some (s.ev x)
  | .pick c a b => match s.ev c with | .sc (.bool t) => some (pickD t (s.ev a) (s.ev b)) | _ => none
  | .extract x i => match s.ev x with | .tup ds => ds[i]? | _ => none
  | .load t x => loadD P t s (s.ev x)
  | .fieldAddr t x f => fldD P t f (s.ev x)
  | .indexAddr t x i => idxD P t (s.ev x) (s.ev i)
  | .binOp op t x y _ => match s.ev x, s.ev y with | .sc a, .sc b => (binD P op t a b).map .sc | _, _ => none
  | .unOp op _ x => match s.ev x with | .sc a => (unD op a).map .sc | _ => none
  | .nilCheck x => match s.ev x with | .ptr i k => some (.ptr i k) | .cptr cs k => some (.cptr cs k) | _ => none
  | .index t x i => if isStr P t then match s.ev x, s.ev i with | .sc (.string b), .sc (.int _ k) => if h : 0 ≤ k ∧ k < (b.size : Int) then some (.sc (.int .u8 (b[k.toNat]'(by omega)).toNat)) else none | _, _ => none else none
  | .call { callee := .builtin .len, args := xs, argTypes := ts } => lenOp P s xs ts
  | .convert src dst x => convD P src dst (s.ev x)
  | .build t parts => buildD P s t parts
  | .slice t x lo hi none => sliceD P s t x lo hi
  | _ => none
/-- One operation as a function on states. none: it is none of those that are known here. -/
def stepOp (P : Program) (s : St) (o : Oper) : Option St :=
  match o.op with
  | .alloc t => match zeroK P t with | some z => if z.cells.toList.all Value.oneCell' then some ((s.newOb ⟨t, z.cells.size, 1, z.cells.toList.map .sc⟩).put o.dst (.ptr s.nb 0)) else none | none => none
  | .box t x => if (s.ev x).known then some ((s.newOb ⟨t, (s.ev x).cells.length, 1, (s.ev x).cells⟩).put o.dst (.ptr s.nb 0)) else none
  | .store t x y => if o.dst = none then storeD P t s (s.ev x) (s.ev y) else none
  | .buildSlice t len parts => match buildSliceD P s t len parts with | some x => some ((s.newOb x).put o.dst (.own s.nb 0 len)) | none => none
  | _ => (valOp P s o).map fun d => s.put o.dst d

theorem val_sound {X : Ctx} {P : Program} {o : Oper} {s : St} {d : D} (h : valOp P s o = some d) : ValAt X P o s d := by
  unfold valOp at h
  split at h
  · rename_i x ho
    injection h with h; subst h
    exact val_move (.inl ho)
  · rename_i x ho
    injection h with h; subst h
    exact val_move (.inr ho)
  · rename_i c x y ho
    split at h
    · rename_i t hc
      injection h with h; subst h
      intro E a w hr
      have hcc := hr.ev c
      rw [hc] at hcc
      have hcv : a.eval c = .bool t := hcc.1
      rw [pickD_eq]
      cases t
      · exact ⟨a.eval y, hr.ev y, fun w' _ => by simp [execOp, ho, hcv, asBool]⟩
      · exact ⟨a.eval x, hr.ev x, fun w' _ => by simp [execOp, ho, hcv, asBool]⟩
    · cases h
  · rename_i x i ho
    split at h
    · rename_i ds hx
      intro E a w hr
      have hxx := hr.ev x
      rw [hx] at hxx
      obtain ⟨us, h1, h2, h3⟩ := hxx
      have hi : i < us.length := by rw [h2]; exact (List.getElem?_eq_some_iff.1 h).1
      refine ⟨us[i], ?_, fun w' _ => by simp [execOp, ho, h1, Instr.extract, hi]⟩
      have h4 := h3 i d us[i] h (List.getElem?_eq_getElem hi)
      by_cases ht : ∀ cs, d ≠ .tup cs
      · rw [rep_of ht]; exact h4
      · obtain ⟨cs, ht⟩ := Classical.not_forall.1 ht
        obtain rfl := Classical.not_not.1 ht
        exact h4.elim
    · cases h
  · rename_i t x ho
    exact val_load ho h
  · rename_i t x f ho
    exact val_field ho h
  · rename_i t x i ho
    exact val_index ho h
  · rename_i op t x y yt ho
    split at h
    · rename_i p q hp hq
      cases hv : binD P op t p q with
      | none => rw [hv] at h; cases h
      | some v =>
        rw [hv] at h
        injection h with h; subst h
        intro E a w hr
        have h1 := hr.ev x
        have h2 := hr.ev y
        rw [hp] at h1
        rw [hq] at h2
        have h3 : a.eval x = p := h1.1
        have h4 : a.eval y = q := h2.1
        refine ⟨v, ⟨rfl, (run_binD hv x y w).2⟩, fun w' _ => ?_⟩
        have h7 : (execOp a.eval o).run P w' = ((do eqGuard op t x y p q; binOp op t p q).run P w').andThen fun v w => .ok (.value v) w := by
          simp only [execOp, ho, h3, h4, Sem.run_bind, Sem.run_pure]
        rw [h7, (run_binD hv x y w').1]
        rfl
    · cases h
  · rename_i op t x ho
    split at h
    · rename_i p hp
      cases hv : unD op p with
      | none => rw [hv] at h; cases h
      | some v =>
        rw [hv] at h
        injection h with h; subst h
        intro E a w hr
        have h1 := hr.ev x
        rw [hp] at h1
        have h3 : a.eval x = p := h1.1
        exact ⟨v, ⟨rfl, (run_unD (P := P) hv w).2⟩, fun w' _ => by simp [execOp, ho, h3, (run_unD (P := P) hv w').1]⟩
    · cases h
  · rename_i x ho
    split at h
    · rename_i i k hx
      injection h with h; subst h
      intro E a w hr
      have h1 := hr.ev x
      rw [hx] at h1
      obtain ⟨l, h2, h3⟩ := h1
      exact ⟨_, ⟨l, h2, rfl⟩, fun w' _ => by simp [execOp, ho, h3]⟩
    · rename_i cs k hx
      injection h with h; subst h
      intro E a w hr
      have h1 := hr.ev x
      rw [hx] at h1
      have h1' := h1
      obtain ⟨b, oo, us, h3, _⟩ := h1
      exact ⟨_, h1', fun w' _ => by simp only [execOp, ho, h3]; rfl⟩
    · cases h
  · rename_i t x i ho
    split at h
    · rename_i hst
      split at h
      · rename_i b q k hx hi
        split at h
        · rename_i hk
          injection h with h; subst h
          intro E a w hr
          have h1 := hr.ev x
          have h2 := hr.ev i
          rw [hx] at h1
          rw [hi] at h2
          have h3 : a.eval x = .string b := h1.1
          have h4 : a.eval i = .int q k := h2.1
          exact ⟨_, ⟨rfl, rfl⟩, fun w' _ => by simp only [execOp, ho, h3, h4]; simp [run_index_string w' t b q k (isStr_ hst), hk]⟩
        · cases h
      · cases h
    · cases h
  · rename_i xs ts ho
    exact val_len ho h
  · rename_i src dst x ho
    exact val_conv ho h
  · rename_i t parts ho
    exact val_build ho h
  · rename_i t x lo hi ho
    exact val_slice ho h
  · cases h

theorem oc_int (k : IntKind) (n : Int) : Value.oneCell' (.int k n) = true := rfl
theorem oc_str (b : ByteArray) : Value.oneCell' (.string b) = true := rfl
theorem oc_bool (b : Bool) : Value.oneCell' (.bool b) = true := rfl
theorem oc_slice (A : Option Addr) (n c : Nat) : Value.oneCell' (.slice A n c) = true := rfl
theorem vc_int (k : IntKind) (n : Int) : Value.cells (.int k n) = #[.int k n] := rfl
theorem vc_str (b : ByteArray) : Value.cells (.string b) = #[.string b] := rfl
theorem vc_bool (b : Bool) : Value.cells (.bool b) = #[.bool b] := rfl
theorem vc_slice (A : Option Addr) (n c : Nat) : Value.cells (.slice A n c) = #[.slice A n c] := rfl
theorem vc_agg (cs : Array Value) : Value.cells (.agg cs) = cs := rfl
theorem stepOp_sound {X : Ctx} {P : Program} {o : Oper} {s s' : St} (h : stepOp P s o = some s') : AwOp X P o s s' := by
  unfold stepOp at h
  split at h
  · rename_i t ho
    split at h
    · rename_i z hz
      split at h
      · rename_i h1
        injection h with h; subst h
        exact awop_alloc ho hz h1
      · cases h
    · cases h
  · rename_i t x ho
    split at h
    · rename_i hk
      injection h with h; subst h
      exact awop_box ho hk
    · cases h
  · rename_i t x y ho
    split at h
    · rename_i hn
      exact awop_store ho hn h
    · cases h
  · rename_i t len parts ho
    split at h
    · rename_i x hx
      injection h with h; subst h
      exact awop_buildSlice ho hx
    · cases h
  · cases hv : valOp P s o with
    | none => rw [hv] at h; cases h
    | some d =>
      rw [hv] at h
      injection h with h; subst h
      exact awop_val (val_sound hv)
end Go.Proofs.YtemaanibghedlaaGreat
