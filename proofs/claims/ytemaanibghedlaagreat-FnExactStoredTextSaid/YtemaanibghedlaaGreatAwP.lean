/- The logic over data: append, bytes to string, make, each with its premise as a function. -/
import Derived.Test.YtemaanibghedlaaGreatAwO
namespace Go.Proofs.YtemaanibghedlaaGreat
open Go.RowKit

/-- What the element type says to append. -/
def appK (P : Program) (e : TypeId) (size : Nat) : Option Nat := match P.info? e with
  | some i => match i.zero with | some z => if i.size = size ∧ z.cells.size = size ∧ 0 < size then some i.bytes else none | none => none
  | none => none
theorem appK_ {P : Program} {e size bytes : Nat} (h : appK P e size = some bytes) : ∃ z : Value, (P.info? e).map (fun i => (i.zero, i.size, i.bytes)) = some (some z, size, bytes) ∧ z.cells.size = size ∧ 0 < size := by
  unfold appK at h
  cases hi : P.info? e with
  | none => rw [hi] at h; cases h
  | some i =>
    rw [hi] at h
    cases hz : i.zero with
    | none => simp [hz] at h
    | some z =>
      simp only [hz] at h
      split at h
      · rename_i h1
        injection h with h
        exact ⟨z, by simp [hz, h1.1, h], h1.2.1, h1.2.2⟩
      · cases h
def obOk (s : St) (i : Option Nat) (e size : Nat) : Bool := match i with
  | some k => match s.ob k with | some q => q.ty == e && q.size == size | none => true
  | none => true
def appD (P : Program) (s : St) (t : TypeId) (x y : D) : Option (Option Nat × Ob) :=
  match elemK P t with
  | some (e, size) => match appK P e size, baseD s x, srcD s y with
    | some bytes, some (i, n, cs), some (m, ds) => if obOk s i e size = true ∧ srcNt s y = true ∧ ds.length = m * size ∧ n + m ≤ 9223372036854775807 ∧ (n + m) * bytes ≤ 140737488355328 then some (i, ⟨e, size, n + m, cs ++ ds⟩) else none
    | _, _, _ => none
  | none => none
def wrOk (wr : List Nat) (nb : Nat) : Option Nat → Bool
  | some k => wr.contains k || Nat.ble nb k
  | none => true
theorem awappF {X : Ctx} {P : Program} {o : Oper} {s : St} {wr : List Nat} {nb : Nat} {x y : Operand} {t : TypeId} {K : St → Prop} (ho : o.op = .call { callee := .builtin .append, args := #[x, y], argTypes := #[t, t] })
    {i : Option Nat} {ob : Ob} (h : appD P s t (s.ev x) (s.ev y) = some (i, ob)) (hwr : wrOk wr nb i = true) (hk : K ((s.app i ob).put o.dst (.own s.nb 0 ob.len))) : AwStepF X P o s wr nb K := by
  unfold appD at h
  split at h
  · rename_i e size he
    split at h
    · rename_i bytes i' n cs m ds h1 h2 h3
      split at h
      · rename_i hg
        obtain ⟨g1, g0, g2, g3, g4⟩ := hg
        injection h with h
        injection h with h4 h5
        subst h4; subst h5
        obtain ⟨z, h6, h7, h8⟩ := appK_ h1
        refine awappendF ho he h6 h7 h8 h2 (fun k hk' q hq => ?_) h3 g2 g0 (by unfold maxLen; omega) g4 hk fun k hk' => ?_
        · subst hk'
          simp only [obOk, hq] at g1
          simpa using g1
        · subst hk'
          simp only [wrOk, Bool.or_eq_true] at hwr
          rcases hwr with h9 | h9
          · exact .inl h9
          · exact .inr (Nat.le_of_ble_eq_true h9)
      · cases h
    · cases h
  · cases h
theorem awapp {X : Ctx} {P : Program} {o : Oper} {s : St} {x y : Operand} {t : TypeId} {K : St → Prop} (ho : o.op = .call { callee := .builtin .append, args := #[x, y], argTypes := #[t, t] })
    {i : Option Nat} {ob : Ob} (h : appD P s t (s.ev x) (s.ev y) = some (i, ob)) (hk : K ((s.app i ob).put o.dst (.own s.nb 0 ob.len))) : AwStep X P o s K :=
  (awappF (wr := []) (nb := 0) ho h (by cases i <;> simp [wrOk]) hk).plain

def u8s : List D → Option (List Int)
  | [] => some []
  | .sc (.int .u8 b) :: r => match u8s r with | some l => some (b :: l) | none => none
  | _ => none
theorem u8s_ : ∀ {cs : List D} {ns : List Int}, u8s cs = some ns → cs = u8D ns
  | [], ns, h => by injection h with h; subst h; rfl
  | d :: r, ns, h => by
    unfold u8s at h
    split at h
    · rename_i heq; cases heq
    · rename_i b r' heq
      injection heq with h1 h2
      subst h1; subst h2
      split at h
      · rename_i l hl
        injection h with h
        subst h
        rw [u8s_ hl]
        rfl
      · cases h
    · cases h
theorem u8s_u8D : ∀ ns : List Int, u8s (u8D ns) = some ns
  | [] => rfl
  | b :: r => by
    show (match u8s (u8D r) with | some l => some (b :: l) | none => none) = _
    rw [u8s_u8D r]
theorem u8s_cons (b : Int) (r : List D) : u8s (.sc (.int .u8 b) :: r) = (match u8s r with | some l => some (b :: l) | none => none) := rfl
theorem u8s_nil : u8s [] = some [] := rfl
def u8Ty (P : Program) (src dst : TypeId) : Bool := isStr P dst && (match P.underlying src with | some (.slice e) => (match P.underlying e with | some (.int .u8) => true | _ => false) | _ => false)
def bytD (P : Program) (s : St) (src dst : TypeId) (x : D) : Option ByteArray := if u8Ty P src dst = true then match srcD s x with
  | some (n, cs) => match u8s cs with | some ns => if n = ns.length then some (strOf ns) else none | none => none
  | none => none else none
theorem awbytF {X : Ctx} {P : Program} {o : Oper} {s : St} {wr : List Nat} {nb : Nat} {src dst : TypeId} {x : Operand} {K : St → Prop} (ho : o.op = .convert src dst x) {b : ByteArray} (h : bytD P s src dst (s.ev x) = some b) (hk : K (s.put o.dst (.sc (.string b)))) : AwStepF X P o s wr nb K := by
  unfold bytD at h
  split at h
  · rename_i ht
    split at h
    · rename_i n cs h1
      split at h
      · rename_i ns h2
        split at h
        · rename_i h3
          injection h with h
          subst h3; subst h
          rw [u8s_ h2] at h1
          unfold u8Ty at ht
          simp only [Bool.and_eq_true] at ht
          obtain ⟨h4, h5⟩ := ht
          split at h5
          · rename_i e h6
            split at h5
            · rename_i h7
              exact awbytes ho h6 h7 h4 ns h1 hk
            · cases h5
          · cases h5
        · cases h
      · cases h
    · cases h
  · cases h
theorem awbyt {X : Ctx} {P : Program} {o : Oper} {s : St} {src dst : TypeId} {x : Operand} {K : St → Prop} (ho : o.op = .convert src dst x) {b : ByteArray} (h : bytD P s src dst (s.ev x) = some b) (hk : K (s.put o.dst (.sc (.string b)))) : AwStep X P o s K := (awbytF (wr := []) (nb := 0) ho h hk).plain
/-! make. -/
def mkD (P : Program) (t : TypeId) (x y : D) : Option Ob := match x, y with
  | .sc (.int _ n), .sc (.int _ m) => match elemK P t with
    | some (e, size) => match appK P e size, zeroK P e with
      | some bytes, some z => if z.cells.toList.all Value.oneCell' = true ∧ n = m ∧ 0 ≤ n ∧ n.toNat * size ≤ 16777216 ∧ (bytes : Int) * n ≤ 281474976710656 ∧ n ≤ 9223372036854775807 then some ⟨e, size, n.toNat, rowD (zeroD z) n.toNat⟩ else none
      | _, _ => none
    | none => none
  | _, _ => none
theorem mk_sound {X : Ctx} {P : Program} {o : Oper} {s : St} {t : TypeId} {l c : Operand} (ho : o.op = .makeSlice t l c) {x : Ob} (h : mkD P t (s.ev l) (s.ev c) = some x) : AwOp X P o s ((s.newOb x).put o.dst (.own s.nb 0 x.len)) := by
  unfold mkD at h
  split at h
  · rename_i k n k' m hl hc
    split at h
    · rename_i e size he
      split at h
      · rename_i bytes z hb hz
        split at h
        · rename_i hg
          obtain ⟨g1, rfl, g3, g4, g5, g6⟩ := hg
          injection h with h
          subst h
          have hn : ((n.toNat : Nat) : Int) = n := Int.toNat_of_nonneg g3
          obtain ⟨z', h1, h2, h3⟩ := appK_ hb
          have hzz : z' = z := by
            unfold zeroK at hz
            cases hi : P.info? e with
            | none => rw [hi] at hz; cases hz
            | some i =>
              rw [hi] at hz h1
              simp only [Option.map_some, Option.some.injEq, Prod.mk.injEq] at h1
              rw [Option.bind_some, h1.1] at hz
              exact Option.some.inj hz
          subst hzz
          exact awop_make ho (by rw [hn]; exact hl) (by rw [hn]; exact hc) he h1 g1 (by simpa [zeroD] using h2) g4 (by rw [hn]; exact g5) (by unfold maxLen; omega)
        · cases h
      · cases h
    · cases h
  · cases h
def mkS (P : Program) (s : St) (o : Oper) (t : TypeId) (x y : D) : Option St := match mkD P t x y with | some ob => some ((s.newOb ob).put o.dst (.own s.nb 0 ob.len)) | none => none
theorem mkGF {X : Ctx} {P : Program} {o : Oper} {s : St} {wr : List Nat} {nb : Nat} {t : TypeId} {l c : Operand} {K : St → Prop} (ho : o.op = .makeSlice t l c) (h : stepK (mkS P s o t (s.ev l) (s.ev c)) K False) : AwStepF X P o s wr nb K := by
  unfold mkS at h
  cases h1 : mkD P t (s.ev l) (s.ev c) with
  | none => rw [h1] at h; exact h.elim
  | some p => rw [h1] at h; exact AwOp.step (mk_sound ho h1) (by simp [tgt, ho]) h
theorem mkG {X : Ctx} {P : Program} {o : Oper} {s : St} {t : TypeId} {l c : Operand} {K : St → Prop} (ho : o.op = .makeSlice t l c) (h : stepK (mkS P s o t (s.ev l) (s.ev c)) K False) : AwStep X P o s K := (mkGF (wr := []) (nb := 0) ho h).plain
/-- make of length 0 with room. -/
def mk0D (P : Program) (t : TypeId) (y : D) : Option Ob := match y with
  | .sc (.int _ m) => match elemK P t with
    | some (e, size) => match appK P e size with
      | some bytes => if 0 ≤ m ∧ m.toNat * size ≤ 16777216 ∧ (bytes : Int) * m ≤ 281474976710656 ∧ m ≤ 9223372036854775807 then some ⟨e, size, 0, []⟩ else none
      | _ => none
    | none => none
  | _ => none
theorem mk0_sound {X : Ctx} {P : Program} {o : Oper} {s : St} {t : TypeId} {k : IntKind} {c : Operand} (ho : o.op = .makeSlice t (.const (.int k 0)) c) {x : Ob} (h : mk0D P t (s.ev c) = some x) : AwOp X P o s ((s.newOb x).put o.dst (.own s.nb 0 0)) := by
  unfold mk0D at h
  split at h
  · rename_i k' m hc
    split at h
    · rename_i e size he
      split at h
      · rename_i bytes hb
        split at h
        · rename_i hg
          obtain ⟨g3, g4, g5, g6⟩ := hg
          injection h with h
          subst h
          have hm : ((m.toNat : Nat) : Int) = m := Int.toNat_of_nonneg g3
          obtain ⟨z, h1, h2, h3⟩ := appK_ hb
          obtain ⟨hu, _⟩ := elemK_ he
          obtain ⟨inf, hi, hz, hsize, hby⟩ := info_parts h1
          refine awop_new rfl fun E a w hr => ?_
          have hc' : a.eval c = .int k' m := by have := hr.ev c; rw [hc] at this; exact this.1
          have hrun := run_makeSlice (P := P) (w := w) t e inf z hu hi hz k k' 0 m (by omega) g3 (by rw [hsize]; exact g4) (by rw [hby]; exact g5) (by omega)
          refine ⟨madeCells z.cells (m.toNat * size), m.toNat, .slice (some ⟨w.heap.size, 0, none⟩) 0 m.toNat, ?_, ?_, Nat.zero_le _, by unfold maxLen; omega, ?_, fun j d hd => by simp at hd, .inl ⟨_, m.toNat, Env.with_at, rfl, Nat.zero_le _, by unfold maxLen; omega, fun _ => rfl⟩⟩
          · have hl' : a.eval (.const (.int k 0)) = .int k 0 := rfl
            simp only [execOp, ho, hl', hc', Sem.run_bind, hrun, Result.andThen_ok, hsize]
            rfl
          · simp
          · simp [madeCells]
        · cases h
      · cases h
    · cases h
  · cases h
def mk0S (P : Program) (s : St) (o : Oper) (t : TypeId) (y : D) : Option St := match mk0D P t y with | some ob => some ((s.newOb ob).put o.dst (.own s.nb 0 0)) | none => none
theorem mk0GF {X : Ctx} {P : Program} {o : Oper} {s : St} {wr : List Nat} {nb : Nat} {t : TypeId} {k : IntKind} {c : Operand} {K : St → Prop} (ho : o.op = .makeSlice t (.const (.int k 0)) c) (h : stepK (mk0S P s o t (s.ev c)) K False) : AwStepF X P o s wr nb K := by
  unfold mk0S at h
  cases h1 : mk0D P t (s.ev c) with
  | none => rw [h1] at h; exact h.elim
  | some p => rw [h1] at h; exact AwOp.step (mk0_sound ho h1) (by simp [tgt, ho]) h
theorem mk0G {X : Ctx} {P : Program} {o : Oper} {s : St} {t : TypeId} {k : IntKind} {c : Operand} {K : St → Prop} (ho : o.op = .makeSlice t (.const (.int k 0)) c) (h : stepK (mk0S P s o t (s.ev c)) K False) : AwStep X P o s K := (mk0GF (wr := []) (nb := 0) ho h).plain
/-! The same as one goal. -/
def appS (P : Program) (s : St) (o : Oper) (t : TypeId) (x y : D) : Option St := match appD P s t x y with | some (i, ob) => some ((s.app i ob).put o.dst (.own s.nb 0 ob.len)) | none => none
def appSF (P : Program) (s : St) (o : Oper) (wr : List Nat) (nb : Nat) (t : TypeId) (x y : D) : Option St := match appD P s t x y with | some (i, ob) => if wrOk wr nb i = true then some ((s.app i ob).put o.dst (.own s.nb 0 ob.len)) else none | none => none
def bytS (P : Program) (s : St) (o : Oper) (src dst : TypeId) (x : D) : Option St := match bytD P s src dst x with | some b => some (s.put o.dst (.sc (.string b))) | none => none
theorem appG {X : Ctx} {P : Program} {o : Oper} {s : St} {x y : Operand} {t : TypeId} {K : St → Prop} (ho : o.op = .call { callee := .builtin .append, args := #[x, y], argTypes := #[t, t] })
    (h : stepK (appS P s o t (s.ev x) (s.ev y)) K False) : AwStep X P o s K := by
  unfold appS at h
  cases h1 : appD P s t (s.ev x) (s.ev y) with
  | none => rw [h1] at h; exact h.elim
  | some p => rw [h1] at h; exact awapp ho h1 h
theorem appGF {X : Ctx} {P : Program} {o : Oper} {s : St} {wr : List Nat} {nb : Nat} {x y : Operand} {t : TypeId} {K : St → Prop} (ho : o.op = .call { callee := .builtin .append, args := #[x, y], argTypes := #[t, t] })
    (h : stepK (appSF P s o wr nb t (s.ev x) (s.ev y)) K False) : AwStepF X P o s wr nb K := by
  unfold appSF at h
  cases h1 : appD P s t (s.ev x) (s.ev y) with
  | none => rw [h1] at h; exact h.elim
  | some p =>
    rw [h1] at h
    simp only at h
    split at h
    · rename_i h2; exact awappF ho h1 h2 h
    · exact h.elim
theorem bytG {X : Ctx} {P : Program} {o : Oper} {s : St} {src dst : TypeId} {x : Operand} {K : St → Prop} (ho : o.op = .convert src dst x) (h : stepK (bytS P s o src dst (s.ev x)) K False) : AwStep X P o s K := by
  unfold bytS at h
  cases h1 : bytD P s src dst (s.ev x) with
  | none => rw [h1] at h; exact h.elim
  | some p => rw [h1] at h; exact awbyt ho h1 h
theorem bytGF {X : Ctx} {P : Program} {o : Oper} {s : St} {wr : List Nat} {nb : Nat} {src dst : TypeId} {x : Operand} {K : St → Prop} (ho : o.op = .convert src dst x) (h : stepK (bytS P s o src dst (s.ev x)) K False) : AwStepF X P o s wr nb K := by
  unfold bytS at h
  cases h1 : bytD P s src dst (s.ev x) with
  | none => rw [h1] at h; exact h.elim
  | some p => rw [h1] at h; exact awbytF ho h1 h
end Go.Proofs.YtemaanibghedlaaGreat
