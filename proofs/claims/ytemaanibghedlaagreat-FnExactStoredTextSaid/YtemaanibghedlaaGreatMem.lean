/- Words for memory: a slice in memory that reads as a list of data, element by element; what a call owns. Plain lemmas, no program. -/
import Derived.WalkKit
import Derived.WalkSpells
import Derived.WalkLawsBesides
import Derived.Lib.Hide
import Derived.Handy
import Derived.Deep.QuietTactic
import Derived.BigQuiet
namespace Go.Proofs.YtemaanibghedlaaGreat
open Go.RowKit

/-- Cells o, o+1, .. of block b are just cs. -/
def CellsAt (w : World) (b o : Nat) (cs : List Value) : Prop := ∀ j, j < cs.length → w.cell? ⟨b, o + j, none⟩ = cs[j]?

theorem CellsAt.keep {w w' : World} {b o : Nat} {cs : List Value} (h : CellsAt w b o cs) (hk : w'.heap[b]? = w.heap[b]?) : CellsAt w' b o cs :=
  fun j hj => (World.cell?_of_block (a := ⟨b, o + j, none⟩) hk).trans (h j hj)

theorem CellsAt.c0 {w : World} {b o : Nat} {x : Value} {cs : List Value} (h : CellsAt w b o (x :: cs)) : w.cell? ⟨b, o, none⟩ = some x := by
  have := h 0 (by simp)
  simpa using this
theorem CellsAt.c1 {w : World} {b o : Nat} {x y : Value} {cs : List Value} (h : CellsAt w b o (x :: y :: cs)) : w.cell? ⟨b, o + 1, none⟩ = some y := by
  have := h 1 (by simp)
  simpa using this
theorem CellsAt.c2 {w : World} {b o : Nat} {x y z : Value} {cs : List Value} (h : CellsAt w b o (x :: y :: z :: cs)) : w.cell? ⟨b, o + 2, none⟩ = some z := by
  have := h 2 (by simp)
  simpa using this
theorem CellsAt.at_ {w : World} {b o : Nat} {cs : List Value} (h : CellsAt w b o cs) (j : Nat) {x : Value} (hx : cs[j]? = some x) : w.cell? ⟨b, o + j, none⟩ = some x :=
  (h j (List.getElem?_eq_some_iff.1 hx).1).trans hx

/-- The slice value v reads as the list xs: each element's cells (size many) stand below block B and read as the element by R. -/
def SlR {α : Type} (size : Nat) (R : World → Nat → List Value → α → Prop) (w : World) (B : Nat) (v : Value) (xs : List α) : Prop :=
  ∃ (A : Option Addr) (c : Nat), v = .slice A xs.length c ∧ xs.length ≤ c ∧ c ≤ maxLen ∧
    ∀ (i : Nat) (h : i < xs.length), ∃ b o cs, A = some ⟨b, o, none⟩ ∧ b < B ∧ cs.length = size ∧ CellsAt w b (o + i * size) cs ∧ R w B cs xs[i]

theorem SlR.mono {α : Type} {size : Nat} {R R' : World → Nat → List Value → α → Prop} {w w' : World} {B B' : Nat} {v : Value} {xs : List α} (h : SlR size R w B v xs)
    (hB : B ≤ B') (hw : ∀ b, b < B → w'.heap[b]? = w.heap[b]?) (hR : ∀ cs x, x ∈ xs → R w B cs x → R' w' B' cs x) : SlR size R' w' B' v xs := by
  obtain ⟨A, c, hv, hc, hm, h⟩ := h
  refine ⟨A, c, hv, hc, hm, fun i hi => ?_⟩
  obtain ⟨b, o, cs, hA, hb, hl, hcs, hx⟩ := h i hi
  exact ⟨b, o, cs, hA, by omega, hl, hcs.keep (hw b hb), hR _ _ (List.getElem_mem hi) hx⟩

theorem SlR.nil {α : Type} {size : Nat} {R : World → Nat → List Value → α → Prop} (w : World) (B : Nat) : SlR size R w B (.slice none 0 0) ([] : List α) :=
  ⟨none, 0, rfl, by simp, by simp, fun i hi => by simp at hi⟩

/-- A relation that asks nothing of memory: the cells are a function of the datum, which is well formed. -/
def Flat {α : Type} (cells : α → List Value) (ok : α → Prop) : World → Nat → List Value → α → Prop := fun _ _ cs x => cs = cells x ∧ ok x

theorem SlR.below {α : Type} {size : Nat} {cells : α → List Value} {ok : α → Prop} {w w' : World} {B B' B0 : Nat} {v : Value} {xs : List α} (h : SlR size (Flat cells ok) w B v xs)
    (hb : Below B0 w w') (h0 : B ≤ B0) (hB : B ≤ B') : SlR size (Flat cells ok) w' B' v xs :=
  h.mono hB (fun b hb' => hb.block b (by omega)) fun _ _ _ hx => hx

theorem flatMap_len {α : Type} (cells : α → List Value) (size : Nat) (hs : ∀ x, (cells x).length = size) (xs : List α) : (xs.flatMap cells).length = xs.length * size := by
  induction xs with
  | nil => simp
  | cons x xs ih => simp [ih, hs, Nat.add_mul]; omega

theorem flatMap_at {α : Type} (cells : α → List Value) (size : Nat) (hs : ∀ x, (cells x).length = size) : ∀ (xs : List α) (i j : Nat) (hi : i < xs.length), j < size →
    (xs.flatMap cells)[i * size + j]? = (cells xs[i])[j]?
  | [], i, j, hi, _ => by simp at hi
  | x :: xs, 0, j, _, hj => by
    simp only [List.flatMap_cons, Nat.zero_mul, Nat.zero_add, List.getElem_cons_zero]
    rw [List.getElem?_append_left (by rw [hs]; exact hj)]
  | x :: xs, i + 1, j, hi, hj => by
    simp only [List.flatMap_cons, List.getElem_cons_succ]
    rw [List.getElem?_append_right (by rw [hs, Nat.add_mul]; omega), hs, show (i + 1) * size + j - size = i * size + j by rw [Nat.add_mul]; omega]
    exact flatMap_at cells size hs xs i j (by simpa using hi) hj

/-- What a call owns reads as the list. -/
theorem own_reads {α : Type} {cells : α → List Value} {ok : α → Prop} {size : Nat} (hs : ∀ x, (cells x).length = size) {w : World} {base B : Nat} {e : TypeId} {v : Value} {xs : List α} (h : w.ownsRow base e size v xs.length (xs.flatMap cells))
    (hB : w.heap.size ≤ B) (hok : ∀ x ∈ xs, ok x) : SlR size (Flat cells ok) w B v xs := by
  rcases h.2 with ⟨rfl, hn⟩ | ⟨g, cap, cur, rfl, hb, hg, hnc, hcm, hcs, htake⟩
  · have : xs = [] := List.eq_nil_of_length_eq_zero hn
    subst this
    exact SlR.nil w B
  · have hlt : g < w.heap.size := (Array.getElem?_eq_some_iff.1 hg).1
    refine ⟨_, cap, rfl, hnc, hcm, fun i hi => ⟨g, 0, cells xs[i], rfl, by omega, hs _, fun j hj => ?_, rfl, hok _ (List.getElem_mem hi)⟩⟩
    rw [hs] at hj
    rw [cell_of_row w g _ cur e (0, 0) hg, Nat.zero_add, ← flatMap_at cells size hs xs i j hi hj, ← htake, List.getElem?_take, if_pos (by
      have : i * size + size ≤ xs.length * size := by rw [← Nat.succ_mul]; exact Nat.mul_le_mul_right _ hi
      omega)]
    simp

theorem ownsRow_below {w w' : World} {base : Nat} {e : TypeId} {size : Nat} {v : Value} {n : Nat} {xs : List Value} {B : Nat} (h : w.ownsRow base e size v n xs) (hb : Below B w w') (hB : w.heap.size ≤ B) : w'.ownsRow base e size v n xs := by
  refine ⟨h.1, ?_⟩
  rcases h.2 with h' | ⟨g, cap, cur, hv, hg, hh, r⟩
  · exact .inl h'
  · exact .inr ⟨g, cap, cur, hv, hg, by rw [hb.block g (by have := (Array.getElem?_eq_some_iff.1 hh).1; omega)]; exact hh, r⟩

theorem ownsRow_base {w : World} {base base' : Nat} {e : TypeId} {size : Nat} {v : Value} {n : Nat} {xs : List Value} (h : w.ownsRow base e size v n xs) (hB : base' ≤ base) : w.ownsRow base' e size v n xs := by
  refine ⟨h.1, ?_⟩
  rcases h.2 with h' | ⟨g, cap, cur, hv, hg, hh, r⟩
  · exact .inl h'
  · exact .inr ⟨g, cap, cur, hv, by omega, hh, r⟩

theorem ret_i64 {a b : Int} (h : a = b) : Ending.returned (.int .i64 a) = .returned (.int .i64 b) := by rw [h]
theorem int_i64 {a b : Int} (h : a = b) : Value.int .i64 a = .int .i64 b := by rw [h]

theorem str_eq {a b : ByteArray} : (a.toList == b.toList) = true ↔ a = b := by
  rw [beq_iff_eq, ByteArray.toList_eq, ByteArray.toList_eq]
  constructor
  · intro h
    cases a
    cases b
    simpa [Array.toList_inj] using h
  · rintro rfl
    rfl
theorem str_ne {a b : ByteArray} : (a.toList == b.toList) = false ↔ a ≠ b := by
  rw [← Bool.not_eq_true, str_eq]
theorem str_self (a : ByteArray) : (a.toList == a.toList) = true := str_eq.2 rfl

theorem quiet_left {P : Program} {f : FuncId} {args : Array Value} {w : World} {n : Nat} {v : Value}
    (h : Calls P f args (w.drewN n) fun e w' => e = .returned v ∧ w.drewN n = w') : Calls P f args (w.drewN n) fun e w' => e = .returned v ∧ ∃ m, w' = w.drewN m :=
  h.mono fun _ _ ⟨he, hm⟩ => ⟨he, n, hm.symm⟩

theorem bool_of (p : Prop) : ∃ b : Bool, b = true ↔ p := by
  rcases Classical.em p with h | h
  · exact ⟨true, by simp [h]⟩
  · exact ⟨false, by simp [h]⟩

/- Closers for 'below the heap's size at the call nothing has changed'. -/
theorem bel0 (w : World) : Below w.heap.size w w := Below.refl _ _
theorem box {a w : World} (h : Below a.heap.size a w) (o : Obj) : Below a.heap.size a (w.alloc o) := h.alloc h.size o
theorem stp {a w w' : World} (h : Below a.heap.size a w) (h' : Below w.heap.size w w') : Below a.heap.size a w' := h.trans (h'.mono h.size)
theorem put {a w : World} (h : Below a.heap.size a w) {p : Addr} (hp : a.heap.size ≤ p.block) (u : Value) : Below a.heap.size a (w.setCell p u) := h.setCell hp u
theorem drw {a w : World} (h : Below a.heap.size a w) : Below a.heap.size a w.drew := h.drew
theorem drwN {B : Nat} {a w : World} (h : Below B a w) (n : Nat) : Below B a (w.drewN n) := ⟨h.os, h.tape, h.output, h.size, h.block⟩

theorem own_form {w : World} {base n size : Nat} {e : TypeId} {v : Value} {xs : List Value} (h : w.ownsRow base e size v n xs) : ∃ A c, v = .slice A n c := by
  rcases h.2 with ⟨rfl, rfl⟩ | ⟨g, cap, cur, rfl, _⟩
  · exact ⟨_, _, rfl⟩
  · exact ⟨_, _, rfl⟩

theorem own_some {w : World} {base n c size : Nat} {e : TypeId} {A : Option Addr} {xs : List Value} (h : w.ownsRow base e size (.slice A n c) n xs) (hn : 0 < n) : ∃ g, A = some ⟨g, 0, none⟩ ∧ base ≤ g ∧ g < w.heap.size := by
  rcases h.2 with ⟨h', rfl⟩ | ⟨g, cap, cur, h', hb, hg, _⟩
  · omega
  · simp only [Value.slice.injEq] at h'
    exact ⟨g, h'.1, hb, (Array.getElem?_eq_some_iff.1 hg).1⟩
theorem own_grown {w w' : World} {base n size : Nat} {e : TypeId} {v : Value} {xs : List Value} {row : Option Nat} (h : w.ownsRow base e size v n xs) (hg : w.grownBy w' row) (hne : v.ownBlock = none ∨ v.ownBlock ≠ row) : w'.ownsRow base e size v n xs :=
  h.kept hg hne
theorem grown_of_below {w w' : World} (h : Below w.heap.size w w') (row : Option Nat) : w.grownBy w' row := ⟨h.os, h.tape, h.output, h.size, fun k hk _ => h.block k hk⟩
theorem grown_trans {a b c : World} {row : Option Nat} (h : a.grownBy b row) (k : b.grownBy c row) : a.grownBy c row :=
  ⟨k.os.trans h.os, k.tape.trans h.tape, k.output.trans h.output, Nat.le_trans h.size k.size, fun i hi hr => (k.block i (Nat.lt_of_lt_of_le hi h.size) hr).trans (h.block i hi hr)⟩
theorem grown_set {a w : World} {g : Nat} (h : a.grownBy w (some g)) (o : Nat) (u : Value) : a.grownBy (w.setCell ⟨g, o, none⟩ u) (some g) :=
  ⟨h.os, h.tape, h.output, by simpa using h.size, fun k hk hr => (heap_setCell_other w ⟨g, o, none⟩ k u (fun e => hr (by simp [e]))).trans (h.block k hk hr)⟩

/-- Behind a call that left all that was there: the walk's two rules. -/
theorem seen {W w1 : World} (hb : Below W.heap.size W w1) : (∀ b o, b < W.heap.size → w1.cell? ⟨b, o, none⟩ = W.cell? ⟨b, o, none⟩) ∧ (∀ b o, b < W.heap.size → w1.frozen? ⟨b, o, none⟩ = W.frozen? ⟨b, o, none⟩) ∧ W.heap.size ≤ w1.heap.size :=
  ⟨fun b o h => hb.cell (p := ⟨b, o, none⟩) h, fun b o h => hb.frozen (p := ⟨b, o, none⟩) h, hb.size⟩

theorem keepc {W W' : World} (hb : Below W.heap.size W W') {a : Addr} {v : Value} (h : W.cell? a = some v) : W'.cell? a = some v := (hb.cell (World.block_lt_of_cell? W a h)).trans h
theorem lt_of_cell {W : World} {a : Addr} {v : Value} (h : W.cell? a = some v) : a.block < W.heap.size := World.block_lt_of_cell? W a h

theorem SlR.go {α : Type} {size : Nat} {cells : α → List Value} {ok : α → Prop} {w w' : World} {v : Value} {xs : List α} (h : SlR size (Flat cells ok) w w.heap.size v xs)
    (hb : Below w.heap.size w w') : SlR size (Flat cells ok) w' w'.heap.size v xs := h.below hb (Nat.le_refl _) hb.size
theorem SlR.to {α : Type} {size : Nat} {cells : α → List Value} {ok : α → Prop} {w : World} {B B' : Nat} {v : Value} {xs : List α} (h : SlR size (Flat cells ok) w B v xs)
    (hB : B ≤ B') : SlR size (Flat cells ok) w B' v xs := h.mono hB (fun _ _ => rfl) fun _ _ _ hx => hx

theorem own_cell {w : World} {base g n cap size : Nat} {e : TypeId} {xs : List Value} (h : w.ownsRow base e size (.slice (some ⟨g, 0, none⟩) n cap) n xs) (j : Nat) (hj : j < n * size) : ∃ u, w.cell? ⟨g, j, none⟩ = some u := by
  rw [h.cellAt j hj]
  exact ⟨_, List.getElem?_eq_getElem (by rw [h.1]; exact hj)⟩

/-- Cells written one behind the other into a list. -/
def setRun : List Value → Nat → List Value → List Value
  | xs, _, [] => xs
  | xs, o, c :: cs => setRun (xs.set o c) (o + 1) cs
theorem setRun_length : ∀ (cs xs : List Value) (o : Nat), (setRun xs o cs).length = xs.length
  | [], _, _ => rfl
  | c :: cs, xs, o => by rw [setRun, setRun_length cs]; simp
theorem setRun_take : ∀ (cs xs : List Value) (o : Nat), o + cs.length ≤ xs.length → (setRun xs o cs).take (o + cs.length) = xs.take o ++ cs
  | [], xs, o, _ => by simp [setRun]
  | c :: cs, xs, o, h => by
    simp only [List.length_cons] at h ⊢
    rw [setRun, show o + (cs.length + 1) = (o + 1) + cs.length by omega, setRun_take cs (xs.set o c) (o + 1) (by simp; omega), List.take_succ_eq_append_getElem (by simp; omega)]
    simp [List.take_set_of_le]
/-- The next element's cells are written behind k elements. -/
theorem setRun_next {α : Type} (cells : α → List Value) (size : Nat) (hs : ∀ x, (cells x).length = size) (xs : List Value) (fs : List α) (k : Nat) (hk : k < fs.length) (hl : xs.length = fs.length * size)
    (h : xs.take (k * size) = (fs.take k).flatMap cells) : (setRun xs (k * size) (cells fs[k])).take ((k + 1) * size) = (fs.take (k + 1)).flatMap cells := by
  have h1 : k * size + size ≤ fs.length * size := by rw [← Nat.succ_mul]; exact Nat.mul_le_mul_right _ hk
  rw [show (k + 1) * size = k * size + (cells fs[k]).length by rw [hs, Nat.succ_mul], setRun_take _ _ _ (by rw [hs]; omega), h, List.take_succ_eq_append_getElem hk, List.flatMap_append]
  simp

theorem make_rows {P : Program} (t e : TypeId) (z : Value) (size bytes : Nat) (ht : P.underlying t = some (.slice e)) (hi : (P.info? e).map (fun i => (i.zero, i.size, i.bytes)) = some (some z, size, bytes))
    (n : Nat) (hb : bytes * n ≤ 281474976710656) (h63 : n ≤ 9223372036854775807) (w : World) :
    (Instr.makeSlice t (.int .i64 (n : Int)) (.int .i64 (n : Int))).run P w = .ok (.slice (some ⟨w.heap.size, 0, none⟩) n n) (w.alloc (.cells (madeCells z.cells (n * size)) e)) := by
  obtain ⟨i, h1, h2, h3, h4⟩ := info_parts hi
  have hr := run_make (P := P) w t e i z ht h1 h2 .i64 .i64 n n (by omega) (by omega) (by rw [h4]; have : ((bytes * n : Nat) : Int) ≤ 281474976710656 := by omega
                                                                                          rwa [Int.natCast_mul] at this) (by omega)
  rw [Int.toNat_natCast, h3] at hr
  exact hr

end Go.Proofs.YtemaanibghedlaaGreat
