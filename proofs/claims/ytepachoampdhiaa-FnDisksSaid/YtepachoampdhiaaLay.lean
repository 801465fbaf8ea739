/- A file laid at its place: l29Lay of the reference. -/
import Derived.Test.YtepachoampdhiaaRemoveFile
import Derived.Test.YtepachoampdhiaaFallen
import Derived.Deep.DeepCutAuto
namespace Go.Proofs.Ytepachoampdhiaa
open Go.RowKit

/-- The first place whose name is not before nm. -/
def layAt (fs : List FileD) (nm : ByteArray) : Nat := fs.findIdx fun x => !Op.bytesLess x.name.toList nm.toList
def layEq (fs : List FileD) (nm : ByteArray) : Nat := match fs[layAt fs nm]? with | some x => if x.name = nm then 1 else 0 | none => 0
def layR (fs : List FileD) (f : FileD) : List FileD := fs.take (layAt fs f.name) ++ f :: fs.drop (layAt fs f.name + layEq fs f.name)

theorem layAt_le (fs : List FileD) (nm : ByteArray) : layAt fs nm ≤ fs.length := List.findIdx_le_length
theorem layAt_lt {fs : List FileD} {nm : ByteArray} {j : Nat} (h : j < layAt fs nm) : Op.bytesLess (fs[j]'(Nat.lt_of_lt_of_le h (layAt_le fs nm))).name.toList nm.toList = true := by
  have := List.not_of_lt_findIdx h
  simpa using this
theorem layAt_at {fs : List FileD} {nm : ByteArray} (h : layAt fs nm < fs.length) : Op.bytesLess (fs[layAt fs nm]'h).name.toList nm.toList = false := by
  have := List.findIdx_getElem (w := h)
  simp only [Bool.not_eq_true'] at this
  exact this
theorem layEq_one {fs : List FileD} {nm : ByteArray} (h : layAt fs nm < fs.length) (he : (fs[layAt fs nm]'h).name = nm) : layEq fs nm = 1 := by
  unfold layEq
  rw [List.getElem?_eq_getElem h]
  simp [he]
theorem layEq_ne {fs : List FileD} {nm : ByteArray} (h : layAt fs nm < fs.length) (he : (fs[layAt fs nm]'h).name ≠ nm) : layEq fs nm = 0 := by
  unfold layEq
  rw [List.getElem?_eq_getElem h]
  simp [he]
theorem layEq_end {fs : List FileD} {nm : ByteArray} (h : layAt fs nm = fs.length) : layEq fs nm = 0 := by
  unfold layEq
  rw [h, List.getElem?_eq_none (Nat.le_refl _)]
theorem layEq_le (fs : List FileD) (nm : ByteArray) : layAt fs nm + layEq fs nm ≤ fs.length := by
  rcases Nat.lt_or_eq_of_le (layAt_le fs nm) with h | h
  · by_cases he : (fs[layAt fs nm]'h).name = nm
    · rw [layEq_one h he]; omega
    · rw [layEq_ne h he]; omega
  · rw [layEq_end h]; omega
theorem layR_len (fs : List FileD) (f : FileD) : (layR fs f).length ≤ fs.length + 1 := by
  unfold layR
  have := layAt_le fs f.name
  simp only [List.length_append, List.length_take, List.length_cons, List.length_drop]
  omega
theorem layR_ok (fs : List FileD) (f : FileD) (h : ∀ x ∈ fs, x.ok) (hf : f.ok) : ∀ x ∈ layR fs f, x.ok := by
  intro x hx
  unfold layR at hx
  rcases List.mem_append.1 hx with h1 | h1
  · exact h x (List.mem_of_mem_take h1)
  · rcases List.mem_cons.1 h1 with rfl | h1
    · exact hf
    · exact h x (List.mem_of_mem_drop h1)

theorem file_one1 (nm tx : ByteArray) (sy : Int) : ∀ u ∈ [Value.string nm, Value.string tx, Value.int .i64 sy], u.oneCell' = true := by
  intro u hu
  simp at hu
  rcases hu with rfl | rfl | rfl <;> rfl
theorem flat_lit {w : World} {g : Nat} (hg : g = w.heap.size) (e : TypeId) (a b c : Value) : FlatAt (w.alloc (.cells #[a, b, c] e)) (.slice (some ⟨g, 0, none⟩) 1 1) 1 [a, b, c] := by
  subst hg
  exact own_flat (World.ownsRow_lit (size := 3) (base := 0) w #[a, b, c] 1 (Nat.zero_le _) (by unfold maxLen; omega) rfl)
theorem flat_far {W W' : World} {g n c : Nat} {xs : List Value} {row : Option Nat} (h : FlatAt W (.slice (some ⟨g, 0, none⟩) n c) n xs) (hg : W.grownBy W' row) (hne : ∀ k, row = some k → g ≠ k) : FlatAt W' (.slice (some ⟨g, 0, none⟩) n c) n xs := by
  obtain ⟨A, c', e, h⟩ := h
  refine ⟨A, c', e, fun hn => ?_⟩
  obtain ⟨b, o, rfl, hb, hc⟩ := h hn
  obtain rfl : g = b := by simp at e; exact e.1.1
  refine ⟨g, o, rfl, Nat.lt_of_lt_of_le hb hg.size, fun j u hu => ?_⟩
  have hbk : W'.heap[g]? = W.heap[g]? := hg.block g hb (fun e => hne g e.symm rfl)
  exact (World.cell?_of_block (a := ⟨g, o + j, none⟩) hbk).trans (hc j u hu)
theorem lay_own {w : World} {base : Nat} {e : TypeId} {v : Value} {p : Nat} {fs : List FileD} {nm tx : ByteArray} {sy : Int}
    (h : w.ownsRow base e 3 v (0 + p + 1) ([] ++ (fs.take p).flatMap FileD.cells ++ [.string nm, .string tx, .int .i64 sy])) : w.ownsRow base e 3 v (p + 1) ((fs.take p ++ [(⟨nm, tx, sy⟩ : FileD)]).flatMap FileD.cells) := by
  rw [Nat.zero_add, List.nil_append] at h
  rw [List.flatMap_append]
  exact h
theorem flat_nil {w : World} (A : Option Addr) (c : Nat) : FlatAt w (.slice A 0 c) 0 [] := ⟨A, c, rfl, fun h => by omega⟩

theorem lay_end {w : World} {base : Nat} {e : TypeId} {v : Value} {p kk m : Nat} {fs : List FileD} {nm tx : ByteArray} {sy : Int} (hpp : layAt fs nm = p) (hk : layAt fs nm + layEq fs nm = kk) (hm : m = fs.length - kk) (hp : p ≤ fs.length)
    (h : w.ownsRow base e 3 v (p + 1 + m) ((fs.take p ++ [(⟨nm, tx, sy⟩ : FileD)]).flatMap FileD.cells ++ (fs.drop kk).flatMap FileD.cells)) : w.ownsRow base e 3 v (layR fs ⟨nm, tx, sy⟩).length ((layR fs ⟨nm, tx, sy⟩).flatMap FileD.cells) := by
  have e1 : layR fs ⟨nm, tx, sy⟩ = fs.take p ++ [(⟨nm, tx, sy⟩ : FileD)] ++ fs.drop kk := by
    unfold layR
    rw [hk, hpp, List.append_assoc, List.singleton_append]
  rw [e1, List.flatMap_append]
  have e2 : (fs.take p ++ [(⟨nm, tx, sy⟩ : FileD)] ++ fs.drop kk).length = p + 1 + m := by
    simp only [List.length_append, List.length_take, List.length_singleton, List.length_drop]
    omega
  rw [e2]
  exact h

set_option maxRecDepth 100000 in
set_option maxHeartbeats 4000000 in
theorem l29Lay_any (v : Value) (fs : List FileD) (nm tx : ByteArray) (sy : Int) (w : World) (h : FilesR w w.heap.size v fs) (hn : fs.length ≤ 1048576) :
    Calls Try.prog 81 #[.agg #[v], .agg #[.string nm, .string tx, .int .i64 sy]] w fun e w' => (∃ u, e = .returned (.agg #[u]) ∧ GivesD w (layR fs ⟨nm, tx, sy⟩) u w') ∧ Below w.heap.size w w' := by
  have HN := Lib.hid hn
  have HF := Lib.hid (h.flat FileD.len (by omega))
  obtain ⟨A, c, rfl, hc, hm, hx⟩ := h
  have HX := Lib.hid hx
  unfold maxLen at hm
  have hp := layAt_le fs nm
  go_enter Try.func81, Try.ntmps81
  go_wp2
  go_loopw [5] (fun i wr => ∃ k : Nat, k ≤ layAt fs nm ∧ i = .int .i64 k ∧ Kc wr ⟨w.heap.size, 0, none⟩ (.slice A fs.length c) ∧ Kc wr ⟨w.heap.size + 1, 0, none⟩ (.string nm) ∧ Kc wr ⟨w.heap.size + 1, 1, none⟩ (.string tx) ∧ Kc wr ⟨w.heap.size + 1, 2, none⟩ (.int .i64 sy) ∧ Kc wr ⟨w.heap.size + 1 + 1, 0, none⟩ (.slice none 0 0) ∧ Below w.heap.size w wr) (fun i _ => layAt fs nm - (intOf i).toNat)
  case atStart =>
    refine ⟨0, by omega, rfl, ?_, ?_, ?_, ?_, ?_, box (box (box (bel0 w) _) _) _⟩
    · exact ((Kc.new rfl rfl).bx _).bx _
    · exact (Kc.new (by simp) rfl).bx _
    · exact (Kc.new (by simp) rfl).bx _
    · exact (Kc.new (by simp) rfl).bx _
    · exact Kc.new (by simp) rfl
  case round =>
    obtain ⟨k, hk, rfl, k0, k1, k2, k3, k4, hb⟩ := hrel
    by_cases hlt : k < layAt fs nm
    · obtain ⟨b, o, cs, rfl, hbb, hl, hcs, rfl, hok⟩ := HX.out k (by omega)
      have g0 := (hcs.keep (hb.block b hbb)).c0
      have hless := layAt_lt hlt
      have q1 : (k : Int) < (fs.length : Int) := by omega
      have q2 : (0 : Int) ≤ (k : Int) := by omega
      have c0 := k0.1
      have c1 := k1.1
      have hl0 := k0.lt
      have hl1 := k1.lt
      clear hcs
      go_wp2
      go_quiet (fail)
      go_wp2
      go_roundw
      case rel => exact ⟨k + 1, by omega, by go_num, k0.dn _, k1.dn _, k2.dn _, k3.dn _, k4.dn _, drwN hb _⟩
      case measure => simp [intOf]; omega
    · obtain rfl : k = layAt fs nm := by omega
      clear hlt hk
      -- WAYS
      rcases Nat.lt_or_eq_of_le hp with hlt | hend
      · obtain ⟨b, o, cs, rfl, hbb, hl, hcs, rfl, hok⟩ := HX.out (layAt fs nm) hlt
        have g0 := (hcs.keep (hb.block b hbb)).c0
        have hless := layAt_at hlt
        have q1 : (layAt fs nm : Int) < (fs.length : Int) := by omega
        have q2 : (0 : Int) ≤ (layAt fs nm : Int) := by omega
        have c0 := k0.1
        have c1 := k1.1
        have hl0 := k0.lt
        have hl1 := k1.lt
        have HC := Lib.hid hcs
        have q1' : FlatAt w (.slice (some ⟨b, o, none⟩) (layAt fs nm) c) (layAt fs nm) ((fs.take (layAt fs nm)).flatMap FileD.cells) := by
          have := flat_sub FileD.len HF.out 0 (layAt fs nm) c (by omega)
          simpa using this
        have Q1 := Lib.hid q1'
        have L1 : Hid (((fs.take (layAt fs nm)).flatMap FileD.cells).length = (layAt fs nm) * 3) := by unfold Hid; rw [flen, List.length_take]; congr 1; omega
        clear hcs q1' hx hl hok
        have hE1 : fs[layAt fs nm].name = nm → layEq fs nm = 1 := layEq_one hlt
        have hE0 : fs[layAt fs nm].name ≠ nm → layEq fs nm = 0 := layEq_ne hlt
        generalize hpp : layAt fs nm = p at *
        have HP := Lib.hid hpp
        clear hpp
        by_cases he : fs[p].name = nm
        · have HE : Hid (layAt fs nm + layEq fs nm = p + 1) := by unfold Hid; rw [hE1 he, HP.out]
          have HQ := Lib.hid he
          clear he hE1 hE0
          by_cases hcap : c = p + 1
          · subst hcap
            have ed : fs.drop (p + 1) = [] := List.drop_of_length_le (by omega)
            have L2 : Hid (((fs.drop (p + 1)).flatMap FileD.cells).length = 0 * 3) := by unfold Hid; rw [ed]; rfl
            have Q2 := Lib.hid (by rw [ed]; exact flat_nil : ∀ A' c', FlatAt w (.slice A' 0 c') 0 ((fs.drop (p + 1)).flatMap FileD.cells))
            clear ed
            have r4 : (p : Int) ≤ (p : Int) + 1 := by omega
            have r5 : (fs.length : Int) ≤ (p : Int) + 1 := by omega
            have r8 : (0 : Int) ≤ (fs.length : Int) := by omega
            have r9 : (p : Int) ≤ (fs.length : Int) := by omega
            go_wp2
            go_quiet (fail)
            have m0 := k0.1; have m1 := k1.1; have m2 := k2.1; have m3 := k3.1; have m4 := k4.1; have m5 := k4.2; have l4 : w.heap.size + 1 + 1 < wr.heap.size := k4.lt; have hbs := hb.size
            go_upto_region 4 with fail
            go_cut [6] (fun s6 wx => ∃ A2 p2, s6 = .slice A2 (p + 1) p2 ∧ wx.ownsRow wr.heap.size 66 3 (.slice A2 (p + 1) p2) (p + 1) ((fs.take p ++ [(⟨nm, tx, sy⟩ : FileD)]).flatMap FileD.cells) ∧ Kc wx ⟨w.heap.size, 0, none⟩ (.slice (some ⟨b, o, none⟩) fs.length (p + 1)) ∧ Kc wx ⟨w.heap.size + 1, 0, none⟩ (.string nm) ∧ Kc wx ⟨w.heap.size + 1, 1, none⟩ (.string tx) ∧ Kc wx ⟨w.heap.size + 1, 2, none⟩ (.int .i64 sy) ∧ Kc wx ⟨w.heap.size + 1 + 1, 0, none⟩ (.slice none 0 0) ∧ Below w.heap.size w wx ∧ wr.heap.size ≤ wx.heap.size)
            case first =>
              go_region_held3 (fun W => W.cell? ⟨w.heap.size, 0, none⟩ = some (.slice (some ⟨b, o, none⟩) fs.length (p + 1)) ∧ W.cell? ⟨w.heap.size + 1, 0, none⟩ = some (.string nm) ∧ W.cell? ⟨w.heap.size + 1, 1, none⟩ = some (.string tx) ∧ W.cell? ⟨w.heap.size + 1, 2, none⟩ = some (.int .i64 sy)) (first | exact ⟨d1, d2, d3, d4⟩ | exact ⟨a1, a2, a3, a4⟩ | exact ⟨m0, m1, m2, m3⟩ | go_keep)
                (first | (refine step_app _ rfl (.tmp 25) (.tmp 29) 27 rfl wr.heap.size 66 _ 3 40 Try.underlying27 infoFile rfl (by omega) (.slice (some ⟨wr.heap.size, 0, none⟩) 0 0) 0 [] rfl (own_empty rfl (Nat.le_refl _)) _ (p) _ rfl L1.out (Q1.out.go (box (drwN hb _) _)) (file_one _) (by unfold maxLen; omega) (by omega) (by first | omega | (simp; done) | (simp; omega)) ?_; intro v1 w1 ho1 hg1; have n0 := Kc.grown ((k0.dn _).bx _) hg1 (by intro j hj; simp [Value.ownBlock] at hj; omega); have n1 := Kc.grown ((k1.dn _).bx _) hg1 (by intro j hj; simp [Value.ownBlock] at hj; omega); have n2 := Kc.grown ((k2.dn _).bx _) hg1 (by intro j hj; simp [Value.ownBlock] at hj; omega); have n3 := Kc.grown ((k3.dn _).bx _) hg1 (by intro j hj; simp [Value.ownBlock] at hj; omega); have n4 := Kc.grown ((k4.dn _).bx _) hg1 (by intro j hj; simp [Value.ownBlock] at hj; omega); have a1 := n0.1; have a2 := n1.1; have a3 := n2.1; have a4 := n3.1; have HB1 := Lib.hid (bel_grown (box (drwN hb _) _) hg1 (by intro j hj; simp [Value.ownBlock] at hj; omega)); have z1 : wr.heap.size + 1 ≤ w1.heap.size := (by have := hg1.size; simp at this; omega)) | (refine step_app _ rfl (.tmp 25) (.tmp 29) 27 rfl wr.heap.size 66 _ 3 40 Try.underlying27 infoFile rfl (by omega) (.slice (some ⟨wr.heap.size, 0, none⟩) 0 0) 0 [] rfl ((own_empty rfl (Nat.le_refl _)).alloc _) _ (p) _ rfl L1.out (Q1.out.go (box (box (drwN hb _) _) _)) (file_one _) (by unfold maxLen; omega) (by omega) (by first | omega | (simp; done) | (simp; omega)) ?_; intro v1 w1 ho1 hg1; have n0 := Kc.grown (((k0.dn _).bx _).bx _) hg1 (by intro j hj; simp [Value.ownBlock] at hj; omega); have n1 := Kc.grown (((k1.dn _).bx _).bx _) hg1 (by intro j hj; simp [Value.ownBlock] at hj; omega); have n2 := Kc.grown (((k2.dn _).bx _).bx _) hg1 (by intro j hj; simp [Value.ownBlock] at hj; omega); have n3 := Kc.grown (((k3.dn _).bx _).bx _) hg1 (by intro j hj; simp [Value.ownBlock] at hj; omega); have n4 := Kc.grown (((k4.dn _).bx _).bx _) hg1 (by intro j hj; simp [Value.ownBlock] at hj; omega); have a1 := n0.1; have a2 := n1.1; have a3 := n2.1; have a4 := n3.1; have HB1 := Lib.hid (bel_grown (box (box (drwN hb _) _) _) hg1 (by intro j hj; simp [Value.ownBlock] at hj; omega)); have z1 : wr.heap.size + 1 ≤ w1.heap.size := (by have := hg1.size; simp at this; omega); have HL := Lib.hid (flat_far (flat_lit (g := wr.heap.size + 1) (by simp) _ _ _ _) hg1 (by intro j hj; simp [Value.ownBlock] at hj; omega))) | (refine step_app _ rfl (.tmp 25) (.tmp 29) 27 rfl wr.heap.size 66 _ 3 40 Try.underlying27 infoFile rfl (by omega) (.slice (some ⟨wr.heap.size + 1, 0, none⟩) 0 0) 0 [] rfl (own_empty (by simp) (by omega)) _ (p) _ rfl L1.out (Q1.out.go (box (box (drwN hb _) _) _)) (file_one _) (by unfold maxLen; omega) (by omega) (by first | omega | (simp; done) | (simp; omega)) ?_; intro v1 w1 ho1 hg1; have n0 := Kc.grown (((k0.dn _).bx _).bx _) hg1 (by intro j hj; simp [Value.ownBlock] at hj; omega); have n1 := Kc.grown (((k1.dn _).bx _).bx _) hg1 (by intro j hj; simp [Value.ownBlock] at hj; omega); have n2 := Kc.grown (((k2.dn _).bx _).bx _) hg1 (by intro j hj; simp [Value.ownBlock] at hj; omega); have n3 := Kc.grown (((k3.dn _).bx _).bx _) hg1 (by intro j hj; simp [Value.ownBlock] at hj; omega); have n4 := Kc.grown (((k4.dn _).bx _).bx _) hg1 (by intro j hj; simp [Value.ownBlock] at hj; omega); have a1 := n0.1; have a2 := n1.1; have a3 := n2.1; have a4 := n3.1; have HB1 := Lib.hid (bel_grown (box (box (drwN hb _) _) _) hg1 (by intro j hj; simp [Value.ownBlock] at hj; omega)); have z1 : wr.heap.size + 1 ≤ w1.heap.size := (by have := hg1.size; simp at this; omega); have HL := Lib.hid (flat_far ((flat_lit (g := wr.heap.size) (by rfl) _ _ _ _).go (box (bel0 _) _)) hg1 (by intro j hj; simp [Value.ownBlock] at hj; omega))) | (refine step_app _ rfl (.tmp 30) (.tmp 32) 27 rfl wr.heap.size 66 _ 3 40 Try.underlying27 infoFile rfl (by omega) v1 _ _ rfl (ho1.alloc _) _ 1 [.string nm, .string tx, .int .i64 sy] rfl rfl (flat_lit rfl _ _ _ _) (file_one1 nm tx sy) (by unfold maxLen; omega) (by omega) (by first | omega | (simp; done) | (simp; omega)) ?_; intro v2 w2 ho2 hg2; have b0 := Kc.grown (n0.bx _) hg2 (by intro j hj; have := World.ownsRow.lt ho1 j hj; omega); have b1 := Kc.grown (n1.bx _) hg2 (by intro j hj; have := World.ownsRow.lt ho1 j hj; omega); have b2 := Kc.grown (n2.bx _) hg2 (by intro j hj; have := World.ownsRow.lt ho1 j hj; omega); have b3 := Kc.grown (n3.bx _) hg2 (by intro j hj; have := World.ownsRow.lt ho1 j hj; omega); have b4 := Kc.grown (n4.bx _) hg2 (by intro j hj; have := World.ownsRow.lt ho1 j hj; omega); have d1 := b0.1; have d2 := b1.1; have d3 := b2.1; have d4 := b3.1; have HB2 := Lib.hid (bel_grown (box HB1.out _) hg2 (by intro j hj; have := World.ownsRow.lt ho1 j hj; omega)); have z2 : wr.heap.size ≤ w2.heap.size := (by have := hg2.size; first | omega | (simp at this; omega)); have ho3 := lay_own ho2; obtain ⟨A2, p2, e2⟩ := own_form ho3; subst e2) | (refine step_app _ rfl (.tmp 30) (.tmp 32) 27 rfl wr.heap.size 66 _ 3 40 Try.underlying27 infoFile rfl (by omega) v1 _ _ rfl ho1 _ 1 [.string nm, .string tx, .int .i64 sy] rfl rfl HL.out (file_one1 nm tx sy) (by unfold maxLen; omega) (by omega) (by first | omega | (simp; done) | (simp; omega)) ?_; intro v2 w2 ho2 hg2; have b0 := Kc.grown n0 hg2 (by intro j hj; have := World.ownsRow.lt ho1 j hj; omega); have b1 := Kc.grown n1 hg2 (by intro j hj; have := World.ownsRow.lt ho1 j hj; omega); have b2 := Kc.grown n2 hg2 (by intro j hj; have := World.ownsRow.lt ho1 j hj; omega); have b3 := Kc.grown n3 hg2 (by intro j hj; have := World.ownsRow.lt ho1 j hj; omega); have b4 := Kc.grown n4 hg2 (by intro j hj; have := World.ownsRow.lt ho1 j hj; omega); have d1 := b0.1; have d2 := b1.1; have d3 := b2.1; have d4 := b3.1; have HB2 := Lib.hid (bel_grown HB1.out hg2 (by intro j hj; have := World.ownsRow.lt ho1 j hj; omega)); have z2 : wr.heap.size ≤ w2.heap.size := (by have := hg2.size; first | omega | (simp at this; omega)); have ho3 := lay_own ho2; obtain ⟨A2, p2, e2⟩ := own_form ho3; subst e2))
              all_goals (go_wp2_with fail; go_meet; exact ⟨_, _, rfl, ho3, b0, b1, b2, b3, b4, HB2.out, z2⟩)
            case rest =>
              obtain ⟨A2, p2, rfl, ho, y0, y1, y2, y3, y4, hbx, hsx⟩ := hcut
              have g1 := (HC.out.keep (hbx.block b hbb)).c0
              have e0 := y0.1; have e1 := y1.1; have le0 := y0.lt; have le1 := y1.lt; have f4 := y4.2; have e4 := y4.1; have le4 := y4.lt
              clear k0 k1 k2 k3 k4 m0 m1 m2 m3 m4 m5 c0 c1 hl0 hl1 hb hbs
              clear g0
              have hq : (fs[p].name.toList == nm.toList) = true := str_eq.2 HQ.out
              have r10 : IntKind.i64.wrap ((p : Int) + 1) = (p : Int) + 1 := IntWalk.i64_in _ (by omega)
              have r11 : (0 : Int) ≤ (p : Int) + 1 := by omega
              have r12 : ((p : Int) + 1).toNat = p + 1 := by omega
              have r13 : (p : Int) + 1 ≤ (fs.length : Int) := by omega
              go_wp2
              go_quiet (fail)
              go_wp2_with (at_builtin; refine wpList_app _ rfl (.tmp 52) (.tmp 56) 27 rfl wr.heap.size 66 _ 3 40 Try.underlying27 infoFile rfl (by omega) (.slice A2 (p + 1) p2) (p + 1) _ rfl (own_dn ho _) _ (0) ((fs.drop (p + 1)).flatMap FileD.cells) rfl L2.out ((Q2.out _ _).go (drwN hbx _)) (file_one _) (by unfold maxLen; omega) (by omega) hsx ?_; intro v3 w3 ho3 hg3; have t := Kc.grown (y4.dn _) hg3 (by intro j hj; have := World.ownsRow.lt ho j hj; omega); have t1 := t.1; have t2 := t.2; have t3 := t.lt; have HB3 := Lib.hid (bel_grown (drwN hbx _) hg3 (by intro j hj; have := World.ownsRow.lt ho j hj; omega)); obtain ⟨A3, p3, e3⟩ := own_form ho3; subst e3)
              refine bodyPost_ret (v := .agg #[.slice A3 (p + 1 + (0)) p3]) (by simp [results, Try.results81, go_sem, t1]) rfl ⟨⟨_, rfl, ?_⟩, put HB3.out (by simp; omega) _⟩
              exact ownsRow_base (ownsRow_setCell_below (lay_end HP.out HE.out (by omega) (by omega) ho3) (by simp; omega) _) (by omega)
          · have L2 : Hid (((fs.drop (p + 1)).flatMap FileD.cells).length = (fs.length - (p + 1)) * 3) := by unfold Hid; rw [flen, List.length_drop]
            have Q2 := Lib.hid (by
              have := flat_sub FileD.len HF.out (p + 1) (fs.length - (p + 1)) (c - (p + 1)) (by omega)
              rwa [List.take_of_length_le (by rw [List.length_drop]; exact Nat.le_refl _)] at this : FlatAt w (.slice (some ⟨b, o + (p + 1) * 3, none⟩) (fs.length - (p + 1)) (c - (p + 1))) (fs.length - (p + 1)) ((fs.drop (p + 1)).flatMap FileD.cells))
            have r4 : (p : Int) ≤ (c : Int) := by omega
            have r5 : (fs.length : Int) ≤ (c : Int) := by omega
            have r8 : (0 : Int) ≤ (fs.length : Int) := by omega
            have r9 : (p : Int) ≤ (fs.length : Int) := by omega
            go_wp2
            go_quiet (fail)
            have m0 := k0.1; have m1 := k1.1; have m2 := k2.1; have m3 := k3.1; have m4 := k4.1; have m5 := k4.2; have l4 : w.heap.size + 1 + 1 < wr.heap.size := k4.lt; have hbs := hb.size
            go_upto_region 4 with fail
            go_cut [6] (fun s6 wx => ∃ A2 p2, s6 = .slice A2 (p + 1) p2 ∧ wx.ownsRow wr.heap.size 66 3 (.slice A2 (p + 1) p2) (p + 1) ((fs.take p ++ [(⟨nm, tx, sy⟩ : FileD)]).flatMap FileD.cells) ∧ Kc wx ⟨w.heap.size, 0, none⟩ (.slice (some ⟨b, o, none⟩) fs.length c) ∧ Kc wx ⟨w.heap.size + 1, 0, none⟩ (.string nm) ∧ Kc wx ⟨w.heap.size + 1, 1, none⟩ (.string tx) ∧ Kc wx ⟨w.heap.size + 1, 2, none⟩ (.int .i64 sy) ∧ Kc wx ⟨w.heap.size + 1 + 1, 0, none⟩ (.slice none 0 0) ∧ Below w.heap.size w wx ∧ wr.heap.size ≤ wx.heap.size)
            case first =>
              go_region_held3 (fun W => W.cell? ⟨w.heap.size, 0, none⟩ = some (.slice (some ⟨b, o, none⟩) fs.length c) ∧ W.cell? ⟨w.heap.size + 1, 0, none⟩ = some (.string nm) ∧ W.cell? ⟨w.heap.size + 1, 1, none⟩ = some (.string tx) ∧ W.cell? ⟨w.heap.size + 1, 2, none⟩ = some (.int .i64 sy)) (first | exact ⟨d1, d2, d3, d4⟩ | exact ⟨a1, a2, a3, a4⟩ | exact ⟨m0, m1, m2, m3⟩ | go_keep)
                (first | (refine step_app _ rfl (.tmp 25) (.tmp 29) 27 rfl wr.heap.size 66 _ 3 40 Try.underlying27 infoFile rfl (by omega) (.slice (some ⟨wr.heap.size, 0, none⟩) 0 0) 0 [] rfl (own_empty rfl (Nat.le_refl _)) _ (p) _ rfl L1.out (Q1.out.go (box (drwN hb _) _)) (file_one _) (by unfold maxLen; omega) (by omega) (by first | omega | (simp; done) | (simp; omega)) ?_; intro v1 w1 ho1 hg1; have n0 := Kc.grown ((k0.dn _).bx _) hg1 (by intro j hj; simp [Value.ownBlock] at hj; omega); have n1 := Kc.grown ((k1.dn _).bx _) hg1 (by intro j hj; simp [Value.ownBlock] at hj; omega); have n2 := Kc.grown ((k2.dn _).bx _) hg1 (by intro j hj; simp [Value.ownBlock] at hj; omega); have n3 := Kc.grown ((k3.dn _).bx _) hg1 (by intro j hj; simp [Value.ownBlock] at hj; omega); have n4 := Kc.grown ((k4.dn _).bx _) hg1 (by intro j hj; simp [Value.ownBlock] at hj; omega); have a1 := n0.1; have a2 := n1.1; have a3 := n2.1; have a4 := n3.1; have HB1 := Lib.hid (bel_grown (box (drwN hb _) _) hg1 (by intro j hj; simp [Value.ownBlock] at hj; omega)); have z1 : wr.heap.size + 1 ≤ w1.heap.size := (by have := hg1.size; simp at this; omega)) | (refine step_app _ rfl (.tmp 25) (.tmp 29) 27 rfl wr.heap.size 66 _ 3 40 Try.underlying27 infoFile rfl (by omega) (.slice (some ⟨wr.heap.size, 0, none⟩) 0 0) 0 [] rfl ((own_empty rfl (Nat.le_refl _)).alloc _) _ (p) _ rfl L1.out (Q1.out.go (box (box (drwN hb _) _) _)) (file_one _) (by unfold maxLen; omega) (by omega) (by first | omega | (simp; done) | (simp; omega)) ?_; intro v1 w1 ho1 hg1; have n0 := Kc.grown (((k0.dn _).bx _).bx _) hg1 (by intro j hj; simp [Value.ownBlock] at hj; omega); have n1 := Kc.grown (((k1.dn _).bx _).bx _) hg1 (by intro j hj; simp [Value.ownBlock] at hj; omega); have n2 := Kc.grown (((k2.dn _).bx _).bx _) hg1 (by intro j hj; simp [Value.ownBlock] at hj; omega); have n3 := Kc.grown (((k3.dn _).bx _).bx _) hg1 (by intro j hj; simp [Value.ownBlock] at hj; omega); have n4 := Kc.grown (((k4.dn _).bx _).bx _) hg1 (by intro j hj; simp [Value.ownBlock] at hj; omega); have a1 := n0.1; have a2 := n1.1; have a3 := n2.1; have a4 := n3.1; have HB1 := Lib.hid (bel_grown (box (box (drwN hb _) _) _) hg1 (by intro j hj; simp [Value.ownBlock] at hj; omega)); have z1 : wr.heap.size + 1 ≤ w1.heap.size := (by have := hg1.size; simp at this; omega); have HL := Lib.hid (flat_far (flat_lit (g := wr.heap.size + 1) (by simp) _ _ _ _) hg1 (by intro j hj; simp [Value.ownBlock] at hj; omega))) | (refine step_app _ rfl (.tmp 25) (.tmp 29) 27 rfl wr.heap.size 66 _ 3 40 Try.underlying27 infoFile rfl (by omega) (.slice (some ⟨wr.heap.size + 1, 0, none⟩) 0 0) 0 [] rfl (own_empty (by simp) (by omega)) _ (p) _ rfl L1.out (Q1.out.go (box (box (drwN hb _) _) _)) (file_one _) (by unfold maxLen; omega) (by omega) (by first | omega | (simp; done) | (simp; omega)) ?_; intro v1 w1 ho1 hg1; have n0 := Kc.grown (((k0.dn _).bx _).bx _) hg1 (by intro j hj; simp [Value.ownBlock] at hj; omega); have n1 := Kc.grown (((k1.dn _).bx _).bx _) hg1 (by intro j hj; simp [Value.ownBlock] at hj; omega); have n2 := Kc.grown (((k2.dn _).bx _).bx _) hg1 (by intro j hj; simp [Value.ownBlock] at hj; omega); have n3 := Kc.grown (((k3.dn _).bx _).bx _) hg1 (by intro j hj; simp [Value.ownBlock] at hj; omega); have n4 := Kc.grown (((k4.dn _).bx _).bx _) hg1 (by intro j hj; simp [Value.ownBlock] at hj; omega); have a1 := n0.1; have a2 := n1.1; have a3 := n2.1; have a4 := n3.1; have HB1 := Lib.hid (bel_grown (box (box (drwN hb _) _) _) hg1 (by intro j hj; simp [Value.ownBlock] at hj; omega)); have z1 : wr.heap.size + 1 ≤ w1.heap.size := (by have := hg1.size; simp at this; omega); have HL := Lib.hid (flat_far ((flat_lit (g := wr.heap.size) (by rfl) _ _ _ _).go (box (bel0 _) _)) hg1 (by intro j hj; simp [Value.ownBlock] at hj; omega))) | (refine step_app _ rfl (.tmp 30) (.tmp 32) 27 rfl wr.heap.size 66 _ 3 40 Try.underlying27 infoFile rfl (by omega) v1 _ _ rfl (ho1.alloc _) _ 1 [.string nm, .string tx, .int .i64 sy] rfl rfl (flat_lit rfl _ _ _ _) (file_one1 nm tx sy) (by unfold maxLen; omega) (by omega) (by first | omega | (simp; done) | (simp; omega)) ?_; intro v2 w2 ho2 hg2; have b0 := Kc.grown (n0.bx _) hg2 (by intro j hj; have := World.ownsRow.lt ho1 j hj; omega); have b1 := Kc.grown (n1.bx _) hg2 (by intro j hj; have := World.ownsRow.lt ho1 j hj; omega); have b2 := Kc.grown (n2.bx _) hg2 (by intro j hj; have := World.ownsRow.lt ho1 j hj; omega); have b3 := Kc.grown (n3.bx _) hg2 (by intro j hj; have := World.ownsRow.lt ho1 j hj; omega); have b4 := Kc.grown (n4.bx _) hg2 (by intro j hj; have := World.ownsRow.lt ho1 j hj; omega); have d1 := b0.1; have d2 := b1.1; have d3 := b2.1; have d4 := b3.1; have HB2 := Lib.hid (bel_grown (box HB1.out _) hg2 (by intro j hj; have := World.ownsRow.lt ho1 j hj; omega)); have z2 : wr.heap.size ≤ w2.heap.size := (by have := hg2.size; first | omega | (simp at this; omega)); have ho3 := lay_own ho2; obtain ⟨A2, p2, e2⟩ := own_form ho3; subst e2) | (refine step_app _ rfl (.tmp 30) (.tmp 32) 27 rfl wr.heap.size 66 _ 3 40 Try.underlying27 infoFile rfl (by omega) v1 _ _ rfl ho1 _ 1 [.string nm, .string tx, .int .i64 sy] rfl rfl HL.out (file_one1 nm tx sy) (by unfold maxLen; omega) (by omega) (by first | omega | (simp; done) | (simp; omega)) ?_; intro v2 w2 ho2 hg2; have b0 := Kc.grown n0 hg2 (by intro j hj; have := World.ownsRow.lt ho1 j hj; omega); have b1 := Kc.grown n1 hg2 (by intro j hj; have := World.ownsRow.lt ho1 j hj; omega); have b2 := Kc.grown n2 hg2 (by intro j hj; have := World.ownsRow.lt ho1 j hj; omega); have b3 := Kc.grown n3 hg2 (by intro j hj; have := World.ownsRow.lt ho1 j hj; omega); have b4 := Kc.grown n4 hg2 (by intro j hj; have := World.ownsRow.lt ho1 j hj; omega); have d1 := b0.1; have d2 := b1.1; have d3 := b2.1; have d4 := b3.1; have HB2 := Lib.hid (bel_grown HB1.out hg2 (by intro j hj; have := World.ownsRow.lt ho1 j hj; omega)); have z2 : wr.heap.size ≤ w2.heap.size := (by have := hg2.size; first | omega | (simp at this; omega)); have ho3 := lay_own ho2; obtain ⟨A2, p2, e2⟩ := own_form ho3; subst e2))
              all_goals (go_wp2_with fail; go_meet; exact ⟨_, _, rfl, ho3, b0, b1, b2, b3, b4, HB2.out, z2⟩)
            case rest =>
              obtain ⟨A2, p2, rfl, ho, y0, y1, y2, y3, y4, hbx, hsx⟩ := hcut
              have g1 := (HC.out.keep (hbx.block b hbb)).c0
              have e0 := y0.1; have e1 := y1.1; have le0 := y0.lt; have le1 := y1.lt; have f4 := y4.2; have e4 := y4.1; have le4 := y4.lt
              clear k0 k1 k2 k3 k4 m0 m1 m2 m3 m4 m5 c0 c1 hl0 hl1 hb hbs
              clear g0
              have hq : (fs[p].name.toList == nm.toList) = true := str_eq.2 HQ.out
              have r10 : IntKind.i64.wrap ((p : Int) + 1) = (p : Int) + 1 := IntWalk.i64_in _ (by omega)
              have r11 : (0 : Int) ≤ (p : Int) + 1 := by omega
              have r12 : ((p : Int) + 1).toNat = p + 1 := by omega
              have r13 : (p : Int) + 1 ≤ (fs.length : Int) := by omega
              go_wp2
              go_quiet (fail)
              go_wp2_with (at_builtin; refine wpList_app _ rfl (.tmp 52) (.tmp 56) 27 rfl wr.heap.size 66 _ 3 40 Try.underlying27 infoFile rfl (by omega) (.slice A2 (p + 1) p2) (p + 1) _ rfl (own_dn ho _) _ (fs.length - (p + 1)) ((fs.drop (p + 1)).flatMap FileD.cells) rfl L2.out (Q2.out.go (drwN hbx _)) (file_one _) (by unfold maxLen; omega) (by omega) hsx ?_; intro v3 w3 ho3 hg3; have t := Kc.grown (y4.dn _) hg3 (by intro j hj; have := World.ownsRow.lt ho j hj; omega); have t1 := t.1; have t2 := t.2; have t3 := t.lt; have HB3 := Lib.hid (bel_grown (drwN hbx _) hg3 (by intro j hj; have := World.ownsRow.lt ho j hj; omega)); obtain ⟨A3, p3, e3⟩ := own_form ho3; subst e3)
              refine bodyPost_ret (v := .agg #[.slice A3 (p + 1 + (fs.length - (p + 1))) p3]) (by simp [results, Try.results81, go_sem, t1]) rfl ⟨⟨_, rfl, ?_⟩, put HB3.out (by simp; omega) _⟩
              exact ownsRow_base (ownsRow_setCell_below (lay_end HP.out HE.out (by omega) (by omega) ho3) (by simp; omega) _) (by omega)
        · have HE : Hid (layAt fs nm + layEq fs nm = p) := by unfold Hid; rw [hE0 he, HP.out]; rfl
          have HQ := Lib.hid he
          clear he hE1 hE0
          have hcap : ¬ c = p := by omega
          have L2 : Hid (((fs.drop (p)).flatMap FileD.cells).length = (fs.length - p) * 3) := by unfold Hid; rw [flen, List.length_drop]
          have Q2 := Lib.hid (by
            have := flat_sub FileD.len HF.out (p) (fs.length - p) (c - (p)) (by omega)
            rwa [List.take_of_length_le (by rw [List.length_drop]; exact Nat.le_refl _)] at this : FlatAt w (.slice (some ⟨b, o + (p) * 3, none⟩) (fs.length - p) (c - (p))) (fs.length - p) ((fs.drop (p)).flatMap FileD.cells))
          have r4 : (p : Int) ≤ (c : Int) := by omega
          have r5 : (fs.length : Int) ≤ (c : Int) := by omega
          have r8 : (0 : Int) ≤ (fs.length : Int) := by omega
          have r9 : (p : Int) ≤ (fs.length : Int) := by omega
          go_wp2
          go_quiet (fail)
          have m0 := k0.1; have m1 := k1.1; have m2 := k2.1; have m3 := k3.1; have m4 := k4.1; have m5 := k4.2; have l4 : w.heap.size + 1 + 1 < wr.heap.size := k4.lt; have hbs := hb.size
          go_upto_region 4 with fail
          go_cut [6] (fun s6 wx => ∃ A2 p2, s6 = .slice A2 (p + 1) p2 ∧ wx.ownsRow wr.heap.size 66 3 (.slice A2 (p + 1) p2) (p + 1) ((fs.take p ++ [(⟨nm, tx, sy⟩ : FileD)]).flatMap FileD.cells) ∧ Kc wx ⟨w.heap.size, 0, none⟩ (.slice (some ⟨b, o, none⟩) fs.length c) ∧ Kc wx ⟨w.heap.size + 1, 0, none⟩ (.string nm) ∧ Kc wx ⟨w.heap.size + 1, 1, none⟩ (.string tx) ∧ Kc wx ⟨w.heap.size + 1, 2, none⟩ (.int .i64 sy) ∧ Kc wx ⟨w.heap.size + 1 + 1, 0, none⟩ (.slice none 0 0) ∧ Below w.heap.size w wx ∧ wr.heap.size ≤ wx.heap.size)
          case first =>
            go_region_held3 (fun W => W.cell? ⟨w.heap.size, 0, none⟩ = some (.slice (some ⟨b, o, none⟩) fs.length c) ∧ W.cell? ⟨w.heap.size + 1, 0, none⟩ = some (.string nm) ∧ W.cell? ⟨w.heap.size + 1, 1, none⟩ = some (.string tx) ∧ W.cell? ⟨w.heap.size + 1, 2, none⟩ = some (.int .i64 sy)) (first | exact ⟨d1, d2, d3, d4⟩ | exact ⟨a1, a2, a3, a4⟩ | exact ⟨m0, m1, m2, m3⟩ | go_keep)
              (first | (refine step_app _ rfl (.tmp 25) (.tmp 29) 27 rfl wr.heap.size 66 _ 3 40 Try.underlying27 infoFile rfl (by omega) (.slice (some ⟨wr.heap.size, 0, none⟩) 0 0) 0 [] rfl (own_empty rfl (Nat.le_refl _)) _ (p) _ rfl L1.out (Q1.out.go (box (drwN hb _) _)) (file_one _) (by unfold maxLen; omega) (by omega) (by first | omega | (simp; done) | (simp; omega)) ?_; intro v1 w1 ho1 hg1; have n0 := Kc.grown ((k0.dn _).bx _) hg1 (by intro j hj; simp [Value.ownBlock] at hj; omega); have n1 := Kc.grown ((k1.dn _).bx _) hg1 (by intro j hj; simp [Value.ownBlock] at hj; omega); have n2 := Kc.grown ((k2.dn _).bx _) hg1 (by intro j hj; simp [Value.ownBlock] at hj; omega); have n3 := Kc.grown ((k3.dn _).bx _) hg1 (by intro j hj; simp [Value.ownBlock] at hj; omega); have n4 := Kc.grown ((k4.dn _).bx _) hg1 (by intro j hj; simp [Value.ownBlock] at hj; omega); have a1 := n0.1; have a2 := n1.1; have a3 := n2.1; have a4 := n3.1; have HB1 := Lib.hid (bel_grown (box (drwN hb _) _) hg1 (by intro j hj; simp [Value.ownBlock] at hj; omega)); have z1 : wr.heap.size + 1 ≤ w1.heap.size := (by have := hg1.size; simp at this; omega)) | (refine step_app _ rfl (.tmp 25) (.tmp 29) 27 rfl wr.heap.size 66 _ 3 40 Try.underlying27 infoFile rfl (by omega) (.slice (some ⟨wr.heap.size, 0, none⟩) 0 0) 0 [] rfl ((own_empty rfl (Nat.le_refl _)).alloc _) _ (p) _ rfl L1.out (Q1.out.go (box (box (drwN hb _) _) _)) (file_one _) (by unfold maxLen; omega) (by omega) (by first | omega | (simp; done) | (simp; omega)) ?_; intro v1 w1 ho1 hg1; have n0 := Kc.grown (((k0.dn _).bx _).bx _) hg1 (by intro j hj; simp [Value.ownBlock] at hj; omega); have n1 := Kc.grown (((k1.dn _).bx _).bx _) hg1 (by intro j hj; simp [Value.ownBlock] at hj; omega); have n2 := Kc.grown (((k2.dn _).bx _).bx _) hg1 (by intro j hj; simp [Value.ownBlock] at hj; omega); have n3 := Kc.grown (((k3.dn _).bx _).bx _) hg1 (by intro j hj; simp [Value.ownBlock] at hj; omega); have n4 := Kc.grown (((k4.dn _).bx _).bx _) hg1 (by intro j hj; simp [Value.ownBlock] at hj; omega); have a1 := n0.1; have a2 := n1.1; have a3 := n2.1; have a4 := n3.1; have HB1 := Lib.hid (bel_grown (box (box (drwN hb _) _) _) hg1 (by intro j hj; simp [Value.ownBlock] at hj; omega)); have z1 : wr.heap.size + 1 ≤ w1.heap.size := (by have := hg1.size; simp at this; omega); have HL := Lib.hid (flat_far (flat_lit (g := wr.heap.size + 1) (by simp) _ _ _ _) hg1 (by intro j hj; simp [Value.ownBlock] at hj; omega))) | (refine step_app _ rfl (.tmp 25) (.tmp 29) 27 rfl wr.heap.size 66 _ 3 40 Try.underlying27 infoFile rfl (by omega) (.slice (some ⟨wr.heap.size + 1, 0, none⟩) 0 0) 0 [] rfl (own_empty (by simp) (by omega)) _ (p) _ rfl L1.out (Q1.out.go (box (box (drwN hb _) _) _)) (file_one _) (by unfold maxLen; omega) (by omega) (by first | omega | (simp; done) | (simp; omega)) ?_; intro v1 w1 ho1 hg1; have n0 := Kc.grown (((k0.dn _).bx _).bx _) hg1 (by intro j hj; simp [Value.ownBlock] at hj; omega); have n1 := Kc.grown (((k1.dn _).bx _).bx _) hg1 (by intro j hj; simp [Value.ownBlock] at hj; omega); have n2 := Kc.grown (((k2.dn _).bx _).bx _) hg1 (by intro j hj; simp [Value.ownBlock] at hj; omega); have n3 := Kc.grown (((k3.dn _).bx _).bx _) hg1 (by intro j hj; simp [Value.ownBlock] at hj; omega); have n4 := Kc.grown (((k4.dn _).bx _).bx _) hg1 (by intro j hj; simp [Value.ownBlock] at hj; omega); have a1 := n0.1; have a2 := n1.1; have a3 := n2.1; have a4 := n3.1; have HB1 := Lib.hid (bel_grown (box (box (drwN hb _) _) _) hg1 (by intro j hj; simp [Value.ownBlock] at hj; omega)); have z1 : wr.heap.size + 1 ≤ w1.heap.size := (by have := hg1.size; simp at this; omega); have HL := Lib.hid (flat_far ((flat_lit (g := wr.heap.size) (by rfl) _ _ _ _).go (box (bel0 _) _)) hg1 (by intro j hj; simp [Value.ownBlock] at hj; omega))) | (refine step_app _ rfl (.tmp 30) (.tmp 32) 27 rfl wr.heap.size 66 _ 3 40 Try.underlying27 infoFile rfl (by omega) v1 _ _ rfl (ho1.alloc _) _ 1 [.string nm, .string tx, .int .i64 sy] rfl rfl (flat_lit rfl _ _ _ _) (file_one1 nm tx sy) (by unfold maxLen; omega) (by omega) (by first | omega | (simp; done) | (simp; omega)) ?_; intro v2 w2 ho2 hg2; have b0 := Kc.grown (n0.bx _) hg2 (by intro j hj; have := World.ownsRow.lt ho1 j hj; omega); have b1 := Kc.grown (n1.bx _) hg2 (by intro j hj; have := World.ownsRow.lt ho1 j hj; omega); have b2 := Kc.grown (n2.bx _) hg2 (by intro j hj; have := World.ownsRow.lt ho1 j hj; omega); have b3 := Kc.grown (n3.bx _) hg2 (by intro j hj; have := World.ownsRow.lt ho1 j hj; omega); have b4 := Kc.grown (n4.bx _) hg2 (by intro j hj; have := World.ownsRow.lt ho1 j hj; omega); have d1 := b0.1; have d2 := b1.1; have d3 := b2.1; have d4 := b3.1; have HB2 := Lib.hid (bel_grown (box HB1.out _) hg2 (by intro j hj; have := World.ownsRow.lt ho1 j hj; omega)); have z2 : wr.heap.size ≤ w2.heap.size := (by have := hg2.size; first | omega | (simp at this; omega)); have ho3 := lay_own ho2; obtain ⟨A2, p2, e2⟩ := own_form ho3; subst e2) | (refine step_app _ rfl (.tmp 30) (.tmp 32) 27 rfl wr.heap.size 66 _ 3 40 Try.underlying27 infoFile rfl (by omega) v1 _ _ rfl ho1 _ 1 [.string nm, .string tx, .int .i64 sy] rfl rfl HL.out (file_one1 nm tx sy) (by unfold maxLen; omega) (by omega) (by first | omega | (simp; done) | (simp; omega)) ?_; intro v2 w2 ho2 hg2; have b0 := Kc.grown n0 hg2 (by intro j hj; have := World.ownsRow.lt ho1 j hj; omega); have b1 := Kc.grown n1 hg2 (by intro j hj; have := World.ownsRow.lt ho1 j hj; omega); have b2 := Kc.grown n2 hg2 (by intro j hj; have := World.ownsRow.lt ho1 j hj; omega); have b3 := Kc.grown n3 hg2 (by intro j hj; have := World.ownsRow.lt ho1 j hj; omega); have b4 := Kc.grown n4 hg2 (by intro j hj; have := World.ownsRow.lt ho1 j hj; omega); have d1 := b0.1; have d2 := b1.1; have d3 := b2.1; have d4 := b3.1; have HB2 := Lib.hid (bel_grown HB1.out hg2 (by intro j hj; have := World.ownsRow.lt ho1 j hj; omega)); have z2 : wr.heap.size ≤ w2.heap.size := (by have := hg2.size; first | omega | (simp at this; omega)); have ho3 := lay_own ho2; obtain ⟨A2, p2, e2⟩ := own_form ho3; subst e2))
            all_goals (go_wp2_with fail; go_meet; exact ⟨_, _, rfl, ho3, b0, b1, b2, b3, b4, HB2.out, z2⟩)
          case rest =>
            obtain ⟨A2, p2, rfl, ho, y0, y1, y2, y3, y4, hbx, hsx⟩ := hcut
            have g1 := (HC.out.keep (hbx.block b hbb)).c0
            have e0 := y0.1; have e1 := y1.1; have le0 := y0.lt; have le1 := y1.lt; have f4 := y4.2; have e4 := y4.1; have le4 := y4.lt
            clear k0 k1 k2 k3 k4 m0 m1 m2 m3 m4 m5 c0 c1 hl0 hl1 hb hbs
            clear g0
            have hq : (fs[p].name.toList == nm.toList) = false := str_ne.2 HQ.out
            go_wp2
            go_quiet (fail)
            go_wp2_with (at_builtin; refine wpList_app _ rfl (.tmp 52) (.tmp 56) 27 rfl wr.heap.size 66 _ 3 40 Try.underlying27 infoFile rfl (by omega) (.slice A2 (p + 1) p2) (p + 1) _ rfl (own_dn ho _) _ (fs.length - p) ((fs.drop (p)).flatMap FileD.cells) rfl L2.out (Q2.out.go (drwN hbx _)) (file_one _) (by unfold maxLen; omega) (by omega) hsx ?_; intro v3 w3 ho3 hg3; have t := Kc.grown (y4.dn _) hg3 (by intro j hj; have := World.ownsRow.lt ho j hj; omega); have t1 := t.1; have t2 := t.2; have t3 := t.lt; have HB3 := Lib.hid (bel_grown (drwN hbx _) hg3 (by intro j hj; have := World.ownsRow.lt ho j hj; omega)); obtain ⟨A3, p3, e3⟩ := own_form ho3; subst e3)
            refine bodyPost_ret (v := .agg #[.slice A3 (p + 1 + (fs.length - p)) p3]) (by simp [results, Try.results81, go_sem, t1]) rfl ⟨⟨_, rfl, ?_⟩, put HB3.out (by simp; omega) _⟩
            exact ownsRow_base (ownsRow_setCell_below (lay_end HP.out HE.out (by omega) (by omega) ho3) (by simp; omega) _) (by omega)
      · have hE2 := layEq_end hend
        generalize hpp : layAt fs nm = p at *
        have HP := Lib.hid hpp
        clear hpp
        subst hend
        have HE : Hid (layAt fs nm + layEq fs nm = fs.length) := by unfold Hid; rw [hE2, HP.out]; rfl
        clear hE2
        have c0 := k0.1
        have c1 := k1.1
        have hl0 := k0.lt
        have hl1 := k1.lt
        have q1' : FlatAt w (.slice A fs.length c) fs.length ((fs.take fs.length).flatMap FileD.cells) := by rw [List.take_length]; exact HF.out
        have Q1 := Lib.hid q1'
        have L1 : Hid (((fs.take fs.length).flatMap FileD.cells).length = fs.length * 3) := by unfold Hid; rw [List.take_length, flen]
        clear q1' hx
        have ed : fs.drop (fs.length) = [] := List.drop_of_length_le (by omega)
        have L2 : Hid (((fs.drop (fs.length)).flatMap FileD.cells).length = 0 * 3) := by unfold Hid; rw [ed]; rfl
        have Q2 := Lib.hid (by rw [ed]; exact flat_nil : ∀ A' c', FlatAt w (.slice A' 0 c') 0 ((fs.drop (fs.length)).flatMap FileD.cells))
        clear ed
        rcases A with _ | ad
        · skip
          have r4 : (fs.length : Int) ≤ (c : Int) := by omega
          have r5 : (fs.length : Int) ≤ (c : Int) := by omega
          have r8 : (0 : Int) ≤ (fs.length : Int) := by omega
          have r9 : (fs.length : Int) ≤ (fs.length : Int) := by omega
          go_wp2
          go_quiet (fail)
          have m0 := k0.1; have m1 := k1.1; have m2 := k2.1; have m3 := k3.1; have m4 := k4.1; have m5 := k4.2; have l4 : w.heap.size + 1 + 1 < wr.heap.size := k4.lt; have hbs := hb.size
          go_upto_region 4 with fail
          go_cut [6] (fun s6 wx => ∃ A2 p2, s6 = .slice A2 (fs.length + 1) p2 ∧ wx.ownsRow wr.heap.size 66 3 (.slice A2 (fs.length + 1) p2) (fs.length + 1) ((fs.take fs.length ++ [(⟨nm, tx, sy⟩ : FileD)]).flatMap FileD.cells) ∧ Kc wx ⟨w.heap.size, 0, none⟩ (.slice none fs.length c) ∧ Kc wx ⟨w.heap.size + 1, 0, none⟩ (.string nm) ∧ Kc wx ⟨w.heap.size + 1, 1, none⟩ (.string tx) ∧ Kc wx ⟨w.heap.size + 1, 2, none⟩ (.int .i64 sy) ∧ Kc wx ⟨w.heap.size + 1 + 1, 0, none⟩ (.slice none 0 0) ∧ Below w.heap.size w wx ∧ wr.heap.size ≤ wx.heap.size)
          case first =>
            go_region_held3 (fun W => W.cell? ⟨w.heap.size, 0, none⟩ = some (.slice none fs.length c) ∧ W.cell? ⟨w.heap.size + 1, 0, none⟩ = some (.string nm) ∧ W.cell? ⟨w.heap.size + 1, 1, none⟩ = some (.string tx) ∧ W.cell? ⟨w.heap.size + 1, 2, none⟩ = some (.int .i64 sy)) (first | exact ⟨d1, d2, d3, d4⟩ | exact ⟨a1, a2, a3, a4⟩ | exact ⟨m0, m1, m2, m3⟩ | go_keep)
              (first | (refine step_app _ rfl (.tmp 25) (.tmp 29) 27 rfl wr.heap.size 66 _ 3 40 Try.underlying27 infoFile rfl (by omega) (.slice (some ⟨wr.heap.size, 0, none⟩) 0 0) 0 [] rfl (own_empty rfl (Nat.le_refl _)) _ (fs.length) _ rfl L1.out (Q1.out.go (box (drwN hb _) _)) (file_one _) (by unfold maxLen; omega) (by omega) (by first | omega | (simp; done) | (simp; omega)) ?_; intro v1 w1 ho1 hg1; have n0 := Kc.grown ((k0.dn _).bx _) hg1 (by intro j hj; simp [Value.ownBlock] at hj; omega); have n1 := Kc.grown ((k1.dn _).bx _) hg1 (by intro j hj; simp [Value.ownBlock] at hj; omega); have n2 := Kc.grown ((k2.dn _).bx _) hg1 (by intro j hj; simp [Value.ownBlock] at hj; omega); have n3 := Kc.grown ((k3.dn _).bx _) hg1 (by intro j hj; simp [Value.ownBlock] at hj; omega); have n4 := Kc.grown ((k4.dn _).bx _) hg1 (by intro j hj; simp [Value.ownBlock] at hj; omega); have a1 := n0.1; have a2 := n1.1; have a3 := n2.1; have a4 := n3.1; have HB1 := Lib.hid (bel_grown (box (drwN hb _) _) hg1 (by intro j hj; simp [Value.ownBlock] at hj; omega)); have z1 : wr.heap.size + 1 ≤ w1.heap.size := (by have := hg1.size; simp at this; omega)) | (refine step_app _ rfl (.tmp 25) (.tmp 29) 27 rfl wr.heap.size 66 _ 3 40 Try.underlying27 infoFile rfl (by omega) (.slice (some ⟨wr.heap.size, 0, none⟩) 0 0) 0 [] rfl ((own_empty rfl (Nat.le_refl _)).alloc _) _ (fs.length) _ rfl L1.out (Q1.out.go (box (box (drwN hb _) _) _)) (file_one _) (by unfold maxLen; omega) (by omega) (by first | omega | (simp; done) | (simp; omega)) ?_; intro v1 w1 ho1 hg1; have n0 := Kc.grown (((k0.dn _).bx _).bx _) hg1 (by intro j hj; simp [Value.ownBlock] at hj; omega); have n1 := Kc.grown (((k1.dn _).bx _).bx _) hg1 (by intro j hj; simp [Value.ownBlock] at hj; omega); have n2 := Kc.grown (((k2.dn _).bx _).bx _) hg1 (by intro j hj; simp [Value.ownBlock] at hj; omega); have n3 := Kc.grown (((k3.dn _).bx _).bx _) hg1 (by intro j hj; simp [Value.ownBlock] at hj; omega); have n4 := Kc.grown (((k4.dn _).bx _).bx _) hg1 (by intro j hj; simp [Value.ownBlock] at hj; omega); have a1 := n0.1; have a2 := n1.1; have a3 := n2.1; have a4 := n3.1; have HB1 := Lib.hid (bel_grown (box (box (drwN hb _) _) _) hg1 (by intro j hj; simp [Value.ownBlock] at hj; omega)); have z1 : wr.heap.size + 1 ≤ w1.heap.size := (by have := hg1.size; simp at this; omega); have HL := Lib.hid (flat_far (flat_lit (g := wr.heap.size + 1) (by simp) _ _ _ _) hg1 (by intro j hj; simp [Value.ownBlock] at hj; omega))) | (refine step_app _ rfl (.tmp 25) (.tmp 29) 27 rfl wr.heap.size 66 _ 3 40 Try.underlying27 infoFile rfl (by omega) (.slice (some ⟨wr.heap.size + 1, 0, none⟩) 0 0) 0 [] rfl (own_empty (by simp) (by omega)) _ (fs.length) _ rfl L1.out (Q1.out.go (box (box (drwN hb _) _) _)) (file_one _) (by unfold maxLen; omega) (by omega) (by first | omega | (simp; done) | (simp; omega)) ?_; intro v1 w1 ho1 hg1; have n0 := Kc.grown (((k0.dn _).bx _).bx _) hg1 (by intro j hj; simp [Value.ownBlock] at hj; omega); have n1 := Kc.grown (((k1.dn _).bx _).bx _) hg1 (by intro j hj; simp [Value.ownBlock] at hj; omega); have n2 := Kc.grown (((k2.dn _).bx _).bx _) hg1 (by intro j hj; simp [Value.ownBlock] at hj; omega); have n3 := Kc.grown (((k3.dn _).bx _).bx _) hg1 (by intro j hj; simp [Value.ownBlock] at hj; omega); have n4 := Kc.grown (((k4.dn _).bx _).bx _) hg1 (by intro j hj; simp [Value.ownBlock] at hj; omega); have a1 := n0.1; have a2 := n1.1; have a3 := n2.1; have a4 := n3.1; have HB1 := Lib.hid (bel_grown (box (box (drwN hb _) _) _) hg1 (by intro j hj; simp [Value.ownBlock] at hj; omega)); have z1 : wr.heap.size + 1 ≤ w1.heap.size := (by have := hg1.size; simp at this; omega); have HL := Lib.hid (flat_far ((flat_lit (g := wr.heap.size) (by rfl) _ _ _ _).go (box (bel0 _) _)) hg1 (by intro j hj; simp [Value.ownBlock] at hj; omega))) | (refine step_app _ rfl (.tmp 30) (.tmp 32) 27 rfl wr.heap.size 66 _ 3 40 Try.underlying27 infoFile rfl (by omega) v1 _ _ rfl (ho1.alloc _) _ 1 [.string nm, .string tx, .int .i64 sy] rfl rfl (flat_lit rfl _ _ _ _) (file_one1 nm tx sy) (by unfold maxLen; omega) (by omega) (by first | omega | (simp; done) | (simp; omega)) ?_; intro v2 w2 ho2 hg2; have b0 := Kc.grown (n0.bx _) hg2 (by intro j hj; have := World.ownsRow.lt ho1 j hj; omega); have b1 := Kc.grown (n1.bx _) hg2 (by intro j hj; have := World.ownsRow.lt ho1 j hj; omega); have b2 := Kc.grown (n2.bx _) hg2 (by intro j hj; have := World.ownsRow.lt ho1 j hj; omega); have b3 := Kc.grown (n3.bx _) hg2 (by intro j hj; have := World.ownsRow.lt ho1 j hj; omega); have b4 := Kc.grown (n4.bx _) hg2 (by intro j hj; have := World.ownsRow.lt ho1 j hj; omega); have d1 := b0.1; have d2 := b1.1; have d3 := b2.1; have d4 := b3.1; have HB2 := Lib.hid (bel_grown (box HB1.out _) hg2 (by intro j hj; have := World.ownsRow.lt ho1 j hj; omega)); have z2 : wr.heap.size ≤ w2.heap.size := (by have := hg2.size; first | omega | (simp at this; omega)); have ho3 := lay_own ho2; obtain ⟨A2, p2, e2⟩ := own_form ho3; subst e2) | (refine step_app _ rfl (.tmp 30) (.tmp 32) 27 rfl wr.heap.size 66 _ 3 40 Try.underlying27 infoFile rfl (by omega) v1 _ _ rfl ho1 _ 1 [.string nm, .string tx, .int .i64 sy] rfl rfl HL.out (file_one1 nm tx sy) (by unfold maxLen; omega) (by omega) (by first | omega | (simp; done) | (simp; omega)) ?_; intro v2 w2 ho2 hg2; have b0 := Kc.grown n0 hg2 (by intro j hj; have := World.ownsRow.lt ho1 j hj; omega); have b1 := Kc.grown n1 hg2 (by intro j hj; have := World.ownsRow.lt ho1 j hj; omega); have b2 := Kc.grown n2 hg2 (by intro j hj; have := World.ownsRow.lt ho1 j hj; omega); have b3 := Kc.grown n3 hg2 (by intro j hj; have := World.ownsRow.lt ho1 j hj; omega); have b4 := Kc.grown n4 hg2 (by intro j hj; have := World.ownsRow.lt ho1 j hj; omega); have d1 := b0.1; have d2 := b1.1; have d3 := b2.1; have d4 := b3.1; have HB2 := Lib.hid (bel_grown HB1.out hg2 (by intro j hj; have := World.ownsRow.lt ho1 j hj; omega)); have z2 : wr.heap.size ≤ w2.heap.size := (by have := hg2.size; first | omega | (simp at this; omega)); have ho3 := lay_own ho2; obtain ⟨A2, p2, e2⟩ := own_form ho3; subst e2))
            all_goals (go_wp2_with fail; go_meet; exact ⟨_, _, rfl, ho3, b0, b1, b2, b3, b4, HB2.out, z2⟩)
          case rest =>
            obtain ⟨A2, p2, rfl, ho, y0, y1, y2, y3, y4, hbx, hsx⟩ := hcut
            have e0 := y0.1; have e1 := y1.1; have le0 := y0.lt; have le1 := y1.lt; have f4 := y4.2; have e4 := y4.1; have le4 := y4.lt
            clear k0 k1 k2 k3 k4 m0 m1 m2 m3 m4 m5 c0 c1 hl0 hl1 hb hbs
            go_wp2
            go_quiet (fail)
            go_wp2_with (at_builtin; refine wpList_app _ rfl (.tmp 52) (.tmp 56) 27 rfl wr.heap.size 66 _ 3 40 Try.underlying27 infoFile rfl (by omega) (.slice A2 (fs.length + 1) p2) (fs.length + 1) _ rfl (own_dn ho _) _ (0) ((fs.drop (fs.length)).flatMap FileD.cells) rfl L2.out ((Q2.out _ _).go (drwN hbx _)) (file_one _) (by unfold maxLen; omega) (by omega) hsx ?_; intro v3 w3 ho3 hg3; have t := Kc.grown (y4.dn _) hg3 (by intro j hj; have := World.ownsRow.lt ho j hj; omega); have t1 := t.1; have t2 := t.2; have t3 := t.lt; have HB3 := Lib.hid (bel_grown (drwN hbx _) hg3 (by intro j hj; have := World.ownsRow.lt ho j hj; omega)); obtain ⟨A3, p3, e3⟩ := own_form ho3; subst e3)
            refine bodyPost_ret (v := .agg #[.slice A3 (fs.length + 1 + (0)) p3]) (by simp [results, Try.results81, go_sem, t1]) rfl ⟨⟨_, rfl, ?_⟩, put HB3.out (by simp; omega) _⟩
            exact ownsRow_base (ownsRow_setCell_below (lay_end HP.out HE.out (by omega) (by omega) ho3) (by simp; omega) _) (by omega)
        · by_cases hcap : c = fs.length
          · subst hcap
            have r4 : (fs.length : Int) ≤ (fs.length : Int) := by omega
            have r5 : (fs.length : Int) ≤ (fs.length : Int) := by omega
            have r8 : (0 : Int) ≤ (fs.length : Int) := by omega
            have r9 : (fs.length : Int) ≤ (fs.length : Int) := by omega
            go_wp2
            go_quiet (fail)
            have m0 := k0.1; have m1 := k1.1; have m2 := k2.1; have m3 := k3.1; have m4 := k4.1; have m5 := k4.2; have l4 : w.heap.size + 1 + 1 < wr.heap.size := k4.lt; have hbs := hb.size
            go_upto_region 4 with fail
            go_cut [6] (fun s6 wx => ∃ A2 p2, s6 = .slice A2 (fs.length + 1) p2 ∧ wx.ownsRow wr.heap.size 66 3 (.slice A2 (fs.length + 1) p2) (fs.length + 1) ((fs.take fs.length ++ [(⟨nm, tx, sy⟩ : FileD)]).flatMap FileD.cells) ∧ Kc wx ⟨w.heap.size, 0, none⟩ (.slice (some ad) fs.length fs.length) ∧ Kc wx ⟨w.heap.size + 1, 0, none⟩ (.string nm) ∧ Kc wx ⟨w.heap.size + 1, 1, none⟩ (.string tx) ∧ Kc wx ⟨w.heap.size + 1, 2, none⟩ (.int .i64 sy) ∧ Kc wx ⟨w.heap.size + 1 + 1, 0, none⟩ (.slice none 0 0) ∧ Below w.heap.size w wx ∧ wr.heap.size ≤ wx.heap.size)
            case first =>
              go_region_held3 (fun W => W.cell? ⟨w.heap.size, 0, none⟩ = some (.slice (some ad) fs.length fs.length) ∧ W.cell? ⟨w.heap.size + 1, 0, none⟩ = some (.string nm) ∧ W.cell? ⟨w.heap.size + 1, 1, none⟩ = some (.string tx) ∧ W.cell? ⟨w.heap.size + 1, 2, none⟩ = some (.int .i64 sy)) (first | exact ⟨d1, d2, d3, d4⟩ | exact ⟨a1, a2, a3, a4⟩ | exact ⟨m0, m1, m2, m3⟩ | go_keep)
                (first | (refine step_app _ rfl (.tmp 25) (.tmp 29) 27 rfl wr.heap.size 66 _ 3 40 Try.underlying27 infoFile rfl (by omega) (.slice (some ⟨wr.heap.size, 0, none⟩) 0 0) 0 [] rfl (own_empty rfl (Nat.le_refl _)) _ (fs.length) _ rfl L1.out (Q1.out.go (box (drwN hb _) _)) (file_one _) (by unfold maxLen; omega) (by omega) (by first | omega | (simp; done) | (simp; omega)) ?_; intro v1 w1 ho1 hg1; have n0 := Kc.grown ((k0.dn _).bx _) hg1 (by intro j hj; simp [Value.ownBlock] at hj; omega); have n1 := Kc.grown ((k1.dn _).bx _) hg1 (by intro j hj; simp [Value.ownBlock] at hj; omega); have n2 := Kc.grown ((k2.dn _).bx _) hg1 (by intro j hj; simp [Value.ownBlock] at hj; omega); have n3 := Kc.grown ((k3.dn _).bx _) hg1 (by intro j hj; simp [Value.ownBlock] at hj; omega); have n4 := Kc.grown ((k4.dn _).bx _) hg1 (by intro j hj; simp [Value.ownBlock] at hj; omega); have a1 := n0.1; have a2 := n1.1; have a3 := n2.1; have a4 := n3.1; have HB1 := Lib.hid (bel_grown (box (drwN hb _) _) hg1 (by intro j hj; simp [Value.ownBlock] at hj; omega)); have z1 : wr.heap.size + 1 ≤ w1.heap.size := (by have := hg1.size; simp at this; omega)) | (refine step_app _ rfl (.tmp 25) (.tmp 29) 27 rfl wr.heap.size 66 _ 3 40 Try.underlying27 infoFile rfl (by omega) (.slice (some ⟨wr.heap.size, 0, none⟩) 0 0) 0 [] rfl ((own_empty rfl (Nat.le_refl _)).alloc _) _ (fs.length) _ rfl L1.out (Q1.out.go (box (box (drwN hb _) _) _)) (file_one _) (by unfold maxLen; omega) (by omega) (by first | omega | (simp; done) | (simp; omega)) ?_; intro v1 w1 ho1 hg1; have n0 := Kc.grown (((k0.dn _).bx _).bx _) hg1 (by intro j hj; simp [Value.ownBlock] at hj; omega); have n1 := Kc.grown (((k1.dn _).bx _).bx _) hg1 (by intro j hj; simp [Value.ownBlock] at hj; omega); have n2 := Kc.grown (((k2.dn _).bx _).bx _) hg1 (by intro j hj; simp [Value.ownBlock] at hj; omega); have n3 := Kc.grown (((k3.dn _).bx _).bx _) hg1 (by intro j hj; simp [Value.ownBlock] at hj; omega); have n4 := Kc.grown (((k4.dn _).bx _).bx _) hg1 (by intro j hj; simp [Value.ownBlock] at hj; omega); have a1 := n0.1; have a2 := n1.1; have a3 := n2.1; have a4 := n3.1; have HB1 := Lib.hid (bel_grown (box (box (drwN hb _) _) _) hg1 (by intro j hj; simp [Value.ownBlock] at hj; omega)); have z1 : wr.heap.size + 1 ≤ w1.heap.size := (by have := hg1.size; simp at this; omega); have HL := Lib.hid (flat_far (flat_lit (g := wr.heap.size + 1) (by simp) _ _ _ _) hg1 (by intro j hj; simp [Value.ownBlock] at hj; omega))) | (refine step_app _ rfl (.tmp 25) (.tmp 29) 27 rfl wr.heap.size 66 _ 3 40 Try.underlying27 infoFile rfl (by omega) (.slice (some ⟨wr.heap.size + 1, 0, none⟩) 0 0) 0 [] rfl (own_empty (by simp) (by omega)) _ (fs.length) _ rfl L1.out (Q1.out.go (box (box (drwN hb _) _) _)) (file_one _) (by unfold maxLen; omega) (by omega) (by first | omega | (simp; done) | (simp; omega)) ?_; intro v1 w1 ho1 hg1; have n0 := Kc.grown (((k0.dn _).bx _).bx _) hg1 (by intro j hj; simp [Value.ownBlock] at hj; omega); have n1 := Kc.grown (((k1.dn _).bx _).bx _) hg1 (by intro j hj; simp [Value.ownBlock] at hj; omega); have n2 := Kc.grown (((k2.dn _).bx _).bx _) hg1 (by intro j hj; simp [Value.ownBlock] at hj; omega); have n3 := Kc.grown (((k3.dn _).bx _).bx _) hg1 (by intro j hj; simp [Value.ownBlock] at hj; omega); have n4 := Kc.grown (((k4.dn _).bx _).bx _) hg1 (by intro j hj; simp [Value.ownBlock] at hj; omega); have a1 := n0.1; have a2 := n1.1; have a3 := n2.1; have a4 := n3.1; have HB1 := Lib.hid (bel_grown (box (box (drwN hb _) _) _) hg1 (by intro j hj; simp [Value.ownBlock] at hj; omega)); have z1 : wr.heap.size + 1 ≤ w1.heap.size := (by have := hg1.size; simp at this; omega); have HL := Lib.hid (flat_far ((flat_lit (g := wr.heap.size) (by rfl) _ _ _ _).go (box (bel0 _) _)) hg1 (by intro j hj; simp [Value.ownBlock] at hj; omega))) | (refine step_app _ rfl (.tmp 30) (.tmp 32) 27 rfl wr.heap.size 66 _ 3 40 Try.underlying27 infoFile rfl (by omega) v1 _ _ rfl (ho1.alloc _) _ 1 [.string nm, .string tx, .int .i64 sy] rfl rfl (flat_lit rfl _ _ _ _) (file_one1 nm tx sy) (by unfold maxLen; omega) (by omega) (by first | omega | (simp; done) | (simp; omega)) ?_; intro v2 w2 ho2 hg2; have b0 := Kc.grown (n0.bx _) hg2 (by intro j hj; have := World.ownsRow.lt ho1 j hj; omega); have b1 := Kc.grown (n1.bx _) hg2 (by intro j hj; have := World.ownsRow.lt ho1 j hj; omega); have b2 := Kc.grown (n2.bx _) hg2 (by intro j hj; have := World.ownsRow.lt ho1 j hj; omega); have b3 := Kc.grown (n3.bx _) hg2 (by intro j hj; have := World.ownsRow.lt ho1 j hj; omega); have b4 := Kc.grown (n4.bx _) hg2 (by intro j hj; have := World.ownsRow.lt ho1 j hj; omega); have d1 := b0.1; have d2 := b1.1; have d3 := b2.1; have d4 := b3.1; have HB2 := Lib.hid (bel_grown (box HB1.out _) hg2 (by intro j hj; have := World.ownsRow.lt ho1 j hj; omega)); have z2 : wr.heap.size ≤ w2.heap.size := (by have := hg2.size; first | omega | (simp at this; omega)); have ho3 := lay_own ho2; obtain ⟨A2, p2, e2⟩ := own_form ho3; subst e2) | (refine step_app _ rfl (.tmp 30) (.tmp 32) 27 rfl wr.heap.size 66 _ 3 40 Try.underlying27 infoFile rfl (by omega) v1 _ _ rfl ho1 _ 1 [.string nm, .string tx, .int .i64 sy] rfl rfl HL.out (file_one1 nm tx sy) (by unfold maxLen; omega) (by omega) (by first | omega | (simp; done) | (simp; omega)) ?_; intro v2 w2 ho2 hg2; have b0 := Kc.grown n0 hg2 (by intro j hj; have := World.ownsRow.lt ho1 j hj; omega); have b1 := Kc.grown n1 hg2 (by intro j hj; have := World.ownsRow.lt ho1 j hj; omega); have b2 := Kc.grown n2 hg2 (by intro j hj; have := World.ownsRow.lt ho1 j hj; omega); have b3 := Kc.grown n3 hg2 (by intro j hj; have := World.ownsRow.lt ho1 j hj; omega); have b4 := Kc.grown n4 hg2 (by intro j hj; have := World.ownsRow.lt ho1 j hj; omega); have d1 := b0.1; have d2 := b1.1; have d3 := b2.1; have d4 := b3.1; have HB2 := Lib.hid (bel_grown HB1.out hg2 (by intro j hj; have := World.ownsRow.lt ho1 j hj; omega)); have z2 : wr.heap.size ≤ w2.heap.size := (by have := hg2.size; first | omega | (simp at this; omega)); have ho3 := lay_own ho2; obtain ⟨A2, p2, e2⟩ := own_form ho3; subst e2))
              all_goals (go_wp2_with fail; go_meet; exact ⟨_, _, rfl, ho3, b0, b1, b2, b3, b4, HB2.out, z2⟩)
            case rest =>
              obtain ⟨A2, p2, rfl, ho, y0, y1, y2, y3, y4, hbx, hsx⟩ := hcut
              have e0 := y0.1; have e1 := y1.1; have le0 := y0.lt; have le1 := y1.lt; have f4 := y4.2; have e4 := y4.1; have le4 := y4.lt
              clear k0 k1 k2 k3 k4 m0 m1 m2 m3 m4 m5 c0 c1 hl0 hl1 hb hbs
              go_wp2
              go_quiet (fail)
              go_wp2_with (at_builtin; refine wpList_app _ rfl (.tmp 52) (.tmp 56) 27 rfl wr.heap.size 66 _ 3 40 Try.underlying27 infoFile rfl (by omega) (.slice A2 (fs.length + 1) p2) (fs.length + 1) _ rfl (own_dn ho _) _ (0) ((fs.drop (fs.length)).flatMap FileD.cells) rfl L2.out ((Q2.out _ _).go (drwN hbx _)) (file_one _) (by unfold maxLen; omega) (by omega) hsx ?_; intro v3 w3 ho3 hg3; have t := Kc.grown (y4.dn _) hg3 (by intro j hj; have := World.ownsRow.lt ho j hj; omega); have t1 := t.1; have t2 := t.2; have t3 := t.lt; have HB3 := Lib.hid (bel_grown (drwN hbx _) hg3 (by intro j hj; have := World.ownsRow.lt ho j hj; omega)); obtain ⟨A3, p3, e3⟩ := own_form ho3; subst e3)
              refine bodyPost_ret (v := .agg #[.slice A3 (fs.length + 1 + (0)) p3]) (by simp [results, Try.results81, go_sem, t1]) rfl ⟨⟨_, rfl, ?_⟩, put HB3.out (by simp; omega) _⟩
              exact ownsRow_base (ownsRow_setCell_below (lay_end HP.out HE.out (by omega) (by omega) ho3) (by simp; omega) _) (by omega)
          · skip
            have r4 : (fs.length : Int) ≤ (c : Int) := by omega
            have r5 : (fs.length : Int) ≤ (c : Int) := by omega
            have r8 : (0 : Int) ≤ (fs.length : Int) := by omega
            have r9 : (fs.length : Int) ≤ (fs.length : Int) := by omega
            go_wp2
            go_quiet (fail)
            have m0 := k0.1; have m1 := k1.1; have m2 := k2.1; have m3 := k3.1; have m4 := k4.1; have m5 := k4.2; have l4 : w.heap.size + 1 + 1 < wr.heap.size := k4.lt; have hbs := hb.size
            go_upto_region 4 with fail
            go_cut [6] (fun s6 wx => ∃ A2 p2, s6 = .slice A2 (fs.length + 1) p2 ∧ wx.ownsRow wr.heap.size 66 3 (.slice A2 (fs.length + 1) p2) (fs.length + 1) ((fs.take fs.length ++ [(⟨nm, tx, sy⟩ : FileD)]).flatMap FileD.cells) ∧ Kc wx ⟨w.heap.size, 0, none⟩ (.slice (some ad) fs.length c) ∧ Kc wx ⟨w.heap.size + 1, 0, none⟩ (.string nm) ∧ Kc wx ⟨w.heap.size + 1, 1, none⟩ (.string tx) ∧ Kc wx ⟨w.heap.size + 1, 2, none⟩ (.int .i64 sy) ∧ Kc wx ⟨w.heap.size + 1 + 1, 0, none⟩ (.slice none 0 0) ∧ Below w.heap.size w wx ∧ wr.heap.size ≤ wx.heap.size)
            case first =>
              go_region_held3 (fun W => W.cell? ⟨w.heap.size, 0, none⟩ = some (.slice (some ad) fs.length c) ∧ W.cell? ⟨w.heap.size + 1, 0, none⟩ = some (.string nm) ∧ W.cell? ⟨w.heap.size + 1, 1, none⟩ = some (.string tx) ∧ W.cell? ⟨w.heap.size + 1, 2, none⟩ = some (.int .i64 sy)) (first | exact ⟨d1, d2, d3, d4⟩ | exact ⟨a1, a2, a3, a4⟩ | exact ⟨m0, m1, m2, m3⟩ | go_keep)
                (first | (refine step_app _ rfl (.tmp 25) (.tmp 29) 27 rfl wr.heap.size 66 _ 3 40 Try.underlying27 infoFile rfl (by omega) (.slice (some ⟨wr.heap.size, 0, none⟩) 0 0) 0 [] rfl (own_empty rfl (Nat.le_refl _)) _ (fs.length) _ rfl L1.out (Q1.out.go (box (drwN hb _) _)) (file_one _) (by unfold maxLen; omega) (by omega) (by first | omega | (simp; done) | (simp; omega)) ?_; intro v1 w1 ho1 hg1; have n0 := Kc.grown ((k0.dn _).bx _) hg1 (by intro j hj; simp [Value.ownBlock] at hj; omega); have n1 := Kc.grown ((k1.dn _).bx _) hg1 (by intro j hj; simp [Value.ownBlock] at hj; omega); have n2 := Kc.grown ((k2.dn _).bx _) hg1 (by intro j hj; simp [Value.ownBlock] at hj; omega); have n3 := Kc.grown ((k3.dn _).bx _) hg1 (by intro j hj; simp [Value.ownBlock] at hj; omega); have n4 := Kc.grown ((k4.dn _).bx _) hg1 (by intro j hj; simp [Value.ownBlock] at hj; omega); have a1 := n0.1; have a2 := n1.1; have a3 := n2.1; have a4 := n3.1; have HB1 := Lib.hid (bel_grown (box (drwN hb _) _) hg1 (by intro j hj; simp [Value.ownBlock] at hj; omega)); have z1 : wr.heap.size + 1 ≤ w1.heap.size := (by have := hg1.size; simp at this; omega)) | (refine step_app _ rfl (.tmp 25) (.tmp 29) 27 rfl wr.heap.size 66 _ 3 40 Try.underlying27 infoFile rfl (by omega) (.slice (some ⟨wr.heap.size, 0, none⟩) 0 0) 0 [] rfl ((own_empty rfl (Nat.le_refl _)).alloc _) _ (fs.length) _ rfl L1.out (Q1.out.go (box (box (drwN hb _) _) _)) (file_one _) (by unfold maxLen; omega) (by omega) (by first | omega | (simp; done) | (simp; omega)) ?_; intro v1 w1 ho1 hg1; have n0 := Kc.grown (((k0.dn _).bx _).bx _) hg1 (by intro j hj; simp [Value.ownBlock] at hj; omega); have n1 := Kc.grown (((k1.dn _).bx _).bx _) hg1 (by intro j hj; simp [Value.ownBlock] at hj; omega); have n2 := Kc.grown (((k2.dn _).bx _).bx _) hg1 (by intro j hj; simp [Value.ownBlock] at hj; omega); have n3 := Kc.grown (((k3.dn _).bx _).bx _) hg1 (by intro j hj; simp [Value.ownBlock] at hj; omega); have n4 := Kc.grown (((k4.dn _).bx _).bx _) hg1 (by intro j hj; simp [Value.ownBlock] at hj; omega); have a1 := n0.1; have a2 := n1.1; have a3 := n2.1; have a4 := n3.1; have HB1 := Lib.hid (bel_grown (box (box (drwN hb _) _) _) hg1 (by intro j hj; simp [Value.ownBlock] at hj; omega)); have z1 : wr.heap.size + 1 ≤ w1.heap.size := (by have := hg1.size; simp at this; omega); have HL := Lib.hid (flat_far (flat_lit (g := wr.heap.size + 1) (by simp) _ _ _ _) hg1 (by intro j hj; simp [Value.ownBlock] at hj; omega))) | (refine step_app _ rfl (.tmp 25) (.tmp 29) 27 rfl wr.heap.size 66 _ 3 40 Try.underlying27 infoFile rfl (by omega) (.slice (some ⟨wr.heap.size + 1, 0, none⟩) 0 0) 0 [] rfl (own_empty (by simp) (by omega)) _ (fs.length) _ rfl L1.out (Q1.out.go (box (box (drwN hb _) _) _)) (file_one _) (by unfold maxLen; omega) (by omega) (by first | omega | (simp; done) | (simp; omega)) ?_; intro v1 w1 ho1 hg1; have n0 := Kc.grown (((k0.dn _).bx _).bx _) hg1 (by intro j hj; simp [Value.ownBlock] at hj; omega); have n1 := Kc.grown (((k1.dn _).bx _).bx _) hg1 (by intro j hj; simp [Value.ownBlock] at hj; omega); have n2 := Kc.grown (((k2.dn _).bx _).bx _) hg1 (by intro j hj; simp [Value.ownBlock] at hj; omega); have n3 := Kc.grown (((k3.dn _).bx _).bx _) hg1 (by intro j hj; simp [Value.ownBlock] at hj; omega); have n4 := Kc.grown (((k4.dn _).bx _).bx _) hg1 (by intro j hj; simp [Value.ownBlock] at hj; omega); have a1 := n0.1; have a2 := n1.1; have a3 := n2.1; have a4 := n3.1; have HB1 := Lib.hid (bel_grown (box (box (drwN hb _) _) _) hg1 (by intro j hj; simp [Value.ownBlock] at hj; omega)); have z1 : wr.heap.size + 1 ≤ w1.heap.size := (by have := hg1.size; simp at this; omega); have HL := Lib.hid (flat_far ((flat_lit (g := wr.heap.size) (by rfl) _ _ _ _).go (box (bel0 _) _)) hg1 (by intro j hj; simp [Value.ownBlock] at hj; omega))) | (refine step_app _ rfl (.tmp 30) (.tmp 32) 27 rfl wr.heap.size 66 _ 3 40 Try.underlying27 infoFile rfl (by omega) v1 _ _ rfl (ho1.alloc _) _ 1 [.string nm, .string tx, .int .i64 sy] rfl rfl (flat_lit rfl _ _ _ _) (file_one1 nm tx sy) (by unfold maxLen; omega) (by omega) (by first | omega | (simp; done) | (simp; omega)) ?_; intro v2 w2 ho2 hg2; have b0 := Kc.grown (n0.bx _) hg2 (by intro j hj; have := World.ownsRow.lt ho1 j hj; omega); have b1 := Kc.grown (n1.bx _) hg2 (by intro j hj; have := World.ownsRow.lt ho1 j hj; omega); have b2 := Kc.grown (n2.bx _) hg2 (by intro j hj; have := World.ownsRow.lt ho1 j hj; omega); have b3 := Kc.grown (n3.bx _) hg2 (by intro j hj; have := World.ownsRow.lt ho1 j hj; omega); have b4 := Kc.grown (n4.bx _) hg2 (by intro j hj; have := World.ownsRow.lt ho1 j hj; omega); have d1 := b0.1; have d2 := b1.1; have d3 := b2.1; have d4 := b3.1; have HB2 := Lib.hid (bel_grown (box HB1.out _) hg2 (by intro j hj; have := World.ownsRow.lt ho1 j hj; omega)); have z2 : wr.heap.size ≤ w2.heap.size := (by have := hg2.size; first | omega | (simp at this; omega)); have ho3 := lay_own ho2; obtain ⟨A2, p2, e2⟩ := own_form ho3; subst e2) | (refine step_app _ rfl (.tmp 30) (.tmp 32) 27 rfl wr.heap.size 66 _ 3 40 Try.underlying27 infoFile rfl (by omega) v1 _ _ rfl ho1 _ 1 [.string nm, .string tx, .int .i64 sy] rfl rfl HL.out (file_one1 nm tx sy) (by unfold maxLen; omega) (by omega) (by first | omega | (simp; done) | (simp; omega)) ?_; intro v2 w2 ho2 hg2; have b0 := Kc.grown n0 hg2 (by intro j hj; have := World.ownsRow.lt ho1 j hj; omega); have b1 := Kc.grown n1 hg2 (by intro j hj; have := World.ownsRow.lt ho1 j hj; omega); have b2 := Kc.grown n2 hg2 (by intro j hj; have := World.ownsRow.lt ho1 j hj; omega); have b3 := Kc.grown n3 hg2 (by intro j hj; have := World.ownsRow.lt ho1 j hj; omega); have b4 := Kc.grown n4 hg2 (by intro j hj; have := World.ownsRow.lt ho1 j hj; omega); have d1 := b0.1; have d2 := b1.1; have d3 := b2.1; have d4 := b3.1; have HB2 := Lib.hid (bel_grown HB1.out hg2 (by intro j hj; have := World.ownsRow.lt ho1 j hj; omega)); have z2 : wr.heap.size ≤ w2.heap.size := (by have := hg2.size; first | omega | (simp at this; omega)); have ho3 := lay_own ho2; obtain ⟨A2, p2, e2⟩ := own_form ho3; subst e2))
              all_goals (go_wp2_with fail; go_meet; exact ⟨_, _, rfl, ho3, b0, b1, b2, b3, b4, HB2.out, z2⟩)
            case rest =>
              obtain ⟨A2, p2, rfl, ho, y0, y1, y2, y3, y4, hbx, hsx⟩ := hcut
              have e0 := y0.1; have e1 := y1.1; have le0 := y0.lt; have le1 := y1.lt; have f4 := y4.2; have e4 := y4.1; have le4 := y4.lt
              clear k0 k1 k2 k3 k4 m0 m1 m2 m3 m4 m5 c0 c1 hl0 hl1 hb hbs
              go_wp2
              go_quiet (fail)
              go_wp2_with (at_builtin; refine wpList_app _ rfl (.tmp 52) (.tmp 56) 27 rfl wr.heap.size 66 _ 3 40 Try.underlying27 infoFile rfl (by omega) (.slice A2 (fs.length + 1) p2) (fs.length + 1) _ rfl (own_dn ho _) _ (0) ((fs.drop (fs.length)).flatMap FileD.cells) rfl L2.out ((Q2.out _ _).go (drwN hbx _)) (file_one _) (by unfold maxLen; omega) (by omega) hsx ?_; intro v3 w3 ho3 hg3; have t := Kc.grown (y4.dn _) hg3 (by intro j hj; have := World.ownsRow.lt ho j hj; omega); have t1 := t.1; have t2 := t.2; have t3 := t.lt; have HB3 := Lib.hid (bel_grown (drwN hbx _) hg3 (by intro j hj; have := World.ownsRow.lt ho j hj; omega)); obtain ⟨A3, p3, e3⟩ := own_form ho3; subst e3)
              refine bodyPost_ret (v := .agg #[.slice A3 (fs.length + 1 + (0)) p3]) (by simp [results, Try.results81, go_sem, t1]) rfl ⟨⟨_, rfl, ?_⟩, put HB3.out (by simp; omega) _⟩
              exact ownsRow_base (ownsRow_setCell_below (lay_end HP.out HE.out (by omega) (by omega) ho3) (by simp; omega) _) (by omega)
      -- END
end Go.Proofs.Ytepachoampdhiaa
