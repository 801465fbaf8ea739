/- append onto a row of the call's own: the source any slice that reads as data, nil or not. -/
import Derived.Test.YtemaanibghedlaaGreatMem
import Derived.Maps.AppendAt
import Derived.Deep.AppendLies
import Derived.RegionTactic
namespace Go.Proofs.YtemaanibghedlaaGreat
open Go.RowKit

/-- The value's elements stand one behind the other: n elements of size cells, all cells news. -/
def FlatAt (w : World) (v : Value) (n : Nat) (news : List Value) : Prop :=
  ∃ A c, v = .slice A n c ∧ (0 < n → ∃ b o, A = some ⟨b, o, none⟩ ∧ b < w.heap.size ∧ ∀ j u, news[j]? = some u → w.cell? ⟨b, o + j, none⟩ = some u)

theorem SlR.flat {α : Type} {cells : α → List Value} {ok : α → Prop} {size : Nat} (hs : ∀ x, (cells x).length = size) (h0 : 0 < size) {w : World} {v : Value} {xs : List α} (h : SlR size (Flat cells ok) w w.heap.size v xs) :
    FlatAt w v xs.length (xs.flatMap cells) := by
  obtain ⟨A, c, rfl, _, _, h⟩ := h
  refine ⟨A, c, rfl, fun hn => ?_⟩
  obtain ⟨b, o, _, rfl, hb, _⟩ := h 0 hn
  refine ⟨b, o, rfl, hb, fun j u hu => ?_⟩
  have hj : j < xs.length * size := by rw [← flatMap_len cells size hs xs]; exact (List.getElem?_eq_some_iff.1 hu).1
  have hi : j / size < xs.length := by rw [Nat.div_lt_iff_lt_mul h0]; exact hj
  have hr : j % size < size := Nat.mod_lt _ h0
  have hd : j / size * size + j % size = j := by rw [Nat.mul_comm]; exact Nat.div_add_mod j size
  obtain ⟨b', o', cs, e, _, hl, hcs, rfl, _⟩ := h (j / size) hi
  obtain ⟨rfl, rfl⟩ : b = b' ∧ o = o' := by simpa using e
  have h1 := flatMap_at cells size hs xs (j / size) (j % size) hi hr
  rw [hd, hu] at h1
  have h2 := hcs (j % size) (by omega)
  rw [Nat.add_assoc, hd, ← h1] at h2
  exact h2

theorem own_flat {w : World} {base : Nat} {e : TypeId} {size n : Nat} {v : Value} {xs : List Value} (h : w.ownsRow base e size v n xs) : FlatAt w v n xs := by
  rcases h.2 with ⟨rfl, rfl⟩ | ⟨g, cap, cur, rfl, hb, hg, hnc, hcm, hcs, htake⟩
  · exact ⟨none, 0, rfl, fun h => by omega⟩
  · refine ⟨_, cap, rfl, fun _ => ⟨g, 0, rfl, (Array.getElem?_eq_some_iff.1 hg).1, fun j u hu => ?_⟩⟩
    rw [cell_of_row w g _ cur e (0, 0) hg, Nat.zero_add]
    rw [← htake, List.getElem?_take] at hu
    split at hu
    · simpa using hu
    · cases hu

theorem FlatAt.go {w w' : World} {v : Value} {n : Nat} {xs : List Value} (h : FlatAt w v n xs) (hb : Below w.heap.size w w') : FlatAt w' v n xs := by
  obtain ⟨A, c, hv, h⟩ := h
  refine ⟨A, c, hv, fun hn => ?_⟩
  obtain ⟨b, o, hA, hlt, hc⟩ := h hn
  exact ⟨b, o, hA, Nat.lt_of_lt_of_le hlt hb.size, fun j u hj => (hb.cell (p := ⟨b, o + j, none⟩) hlt).trans (hc j u hj)⟩

theorem own_empty {W : World} {g base : Nat} {e : TypeId} {size : Nat} (hg : g = W.heap.size) (hb : base ≤ g) : (W.alloc (.cells #[] e)).ownsRow base e size (.slice (some ⟨g, 0, none⟩) 0 0) 0 [] := by
  subst hg
  exact World.ownsRow_lit W #[] 0 hb (by simp) (by simp)

/-- A cell that holds v and may be written. -/
def Kc (W : World) (a : Addr) (v : Value) : Prop := W.cell? a = some v ∧ W.frozen? a = false
theorem Kc.lt {W : World} {a : Addr} {v : Value} (h : Kc W a v) : a.block < W.heap.size := lt_of_cell h.1
theorem Kc.go {W W' : World} {a : Addr} {v : Value} (h : Kc W a v) (hb : Below W.heap.size W W') : Kc W' a v := ⟨keepc hb h.1, (hb.frozen h.lt).trans h.2⟩
theorem Kc.bx {W : World} {a : Addr} {v : Value} (h : Kc W a v) (o : Obj) : Kc (W.alloc o) a v := Kc.go h (box (bel0 W) o)
theorem Kc.new {W : World} {g i : Nat} {cs : Array Value} {t : TypeId} {v : Value} (hg : g = W.heap.size) (hv : cs[i]? = some v) : Kc (W.alloc (.cells cs t)) ⟨g, i, none⟩ v := by
  subst hg
  exact ⟨(World.cell?_alloc_new W cs t i).trans hv, frozen_of_row _ _ i cs t (heap_alloc_new W _)⟩
theorem Kc.same {W : World} {a : Addr} {v : Value} (h : Kc W a v) (u : Value) : Kc (W.setCell a u) a u := by
  obtain ⟨g, o, sp⟩ := a
  obtain ⟨h1, h2⟩ := h
  have hs : sp = none := by
    unfold World.cell? at h1
    cases sp with
    | none => rfl
    | some q => split at h1 <;> simp at h1
  subst hs
  exact ⟨by simp [World.cell?_setCell_same, h1], by simpa [World.frozen?_setCell] using h2⟩
theorem Kc.other {W : World} {a b : Addr} {v : Value} (h : Kc W a v) (hne : a.block ≠ b.block) (u : Value) : Kc (W.setCell b u) a v :=
  ⟨(World.cell?_of_block (Below.heap_setCell W b u a.block hne)).trans h.1, (World.frozen?_of_block (Below.heap_setCell W b u a.block hne)).trans h.2⟩

section
variable {P : Program} (w : World)
theorem run_app (base : Nat) (t ty e : TypeId) (i : TypeInfo) (z : Value) (size bytes : Nat) (ht : P.underlying t = some (.slice e)) (hi : P.info? e = some i) (hz : i.zero = some z)
    (hsize : i.size = size) (hby : i.bytes = bytes) (hzs : z.cells.size = size) (hsz : 0 < size)
    (v : Value) (n : Nat) (xs : List Value) (hown : w.ownsRow base e size v n xs)
    (u : Value) (m : Nat) (news : List Value) (hl : news.length = m * size) (hu : FlatAt w u m news) (h1 : ∀ u ∈ news, u.oneCell' = true)
    (h63 : n + m ≤ maxLen) (hbytes : (n + m) * bytes ≤ 140737488355328) (hbase : base ≤ w.heap.size) :
    ∃ v' w', (Builtin.append_ #[t, t] ty #[v, u]).run P w = .ok v' w' ∧ w'.ownsRow base e size v' (n + m) (xs ++ news) ∧ w.grownBy w' v.ownBlock := by
  obtain ⟨A, c, rfl, hu⟩ := hu
  have hnil : m = 0 → news = [] := fun h => List.eq_nil_of_length_eq_zero (by rw [hl, h, Nat.zero_mul])
  rcases A with _ | ad
  · have hm : m = 0 := by
      rcases Nat.eq_zero_or_pos m with h | h
      · exact h
      · obtain ⟨_, _, h, _⟩ := hu h
        cases h
    have hn := hnil hm
    subst hm hn
    refine ⟨v, w, ?_, by simpa using hown, World.grownBy.refl w _⟩
    rcases hown.2 with ⟨rfl, rfl⟩ | ⟨g, cap, cur, rfl, _, _, hnc, _⟩
    · simp [Builtin.append_, run_underlying ht, sizeOf, typeInfo, hi, Builtin.lenOf, Builtin.firstCells]
    · simp [Builtin.append_, run_underlying ht, sizeOf, typeInfo, hi, Builtin.lenOf, Builtin.firstCells, hnc, storeCells]
  · have hcells : ∀ j u, news[j]? = some u → w.cell? (ad.add j) = some u := by
      intro j u hj
      rcases Nat.eq_zero_or_pos m with h | h
      · rw [hnil h] at hj
        simp at hj
      · obtain ⟨b, o, e, _, hc⟩ := hu h
        obtain rfl : ad = ⟨b, o, none⟩ := by simpa using e
        rw [Addr.add_lit]
        exact hc j u hj
    obtain ⟨v', w', h2, h3, h4, _⟩ := run_append_own (P := P) w base t ty e i z size bytes ht hi hz hsize hby hzs hsz v n xs hown ad m c news hl hcells h1 h63 hbytes hbase
    exact ⟨v', w', h2, h3, h4⟩

theorem wpList_app {ops : Array Oper} {rest : List Oper} {o : Oper} {a : Act} {Q : Exit → Act → World → Prop} (hgd : o.guard = none) (s x : Operand) (t : TypeId)
    (ho : o.op = .call { callee := .builtin .append, args := #[s, x], argTypes := #[t, t] })
    (base : Nat) (e : TypeId) (z : Value) (size bytes : Nat) (ht : P.underlying t = some (.slice e)) (hinfo : (P.info? e).map (fun i => (i.zero, i.size, i.bytes)) = some (some z, size, bytes))
    (hzs : z.cells.size = size) (hsz : 0 < size)
    (v : Value) (n : Nat) (xs : List Value) (hs : a.eval s = v) (hown : w.ownsRow base e size v n xs)
    (u : Value) (m : Nat) (news : List Value) (hx : a.eval x = u) (hl : news.length = m * size) (hu : FlatAt w u m news) (h1 : ∀ u ∈ news, u.oneCell' = true)
    (h63 : n + m ≤ maxLen) (hbytes : (n + m) * bytes ≤ 140737488355328) (hbase : base ≤ w.heap.size)
    (h : ∀ v' w', w'.ownsRow base e size v' (n + m) (xs ++ news) → w.grownBy w' v.ownBlock → wpList P ops Q rest (a.put o.dst v') w') : wpList P ops Q (o :: rest) a w := by
  obtain ⟨i, hi, hz, hsize, hby⟩ := info_parts hinfo
  obtain ⟨v', w', hrun, h2, h3⟩ := run_app (P := P) w base t o.type e i z size bytes ht hi hz hsize hby hzs hsz v n xs hown u m news hl hu h1 h63 hbytes hbase
  refine wpList_plain hgd fun _ hK => ?_
  unfold Oper.wp execOp
  simp only [ho, resolve, invoke, builtin, Sem.run_bind, Sem.run_pure, Result.andThen_ok, List.map_toArray, List.map_cons, List.map_nil, hs, hx, hrun]
  exact hK _ _ (h v' w' h2 h3)
end
end Go.Proofs.YtemaanibghedlaaGreat
