/- withFile: a file laid at its place, the program's way. -/
import Derived.Test.YtepachoampdhiaaLay
namespace Go.Proofs.Ytepachoampdhiaa
open Go.RowKit

/-- What withFile has laid behind k rounds. -/
def withTo (fs : List FileD) (f : FileD) (k : Nat) : List FileD :=
  if k ≤ layAt fs f.name then fs.take k else fs.take (layAt fs f.name) ++ f :: (fs.take k).drop (layAt fs f.name + layEq fs f.name)

theorem less_irrefl : ∀ (l : List UInt8), Op.bytesLess l l = false
  | [] => rfl
  | a :: l => by simp [Op.bytesLess, less_irrefl l]
theorem withTo_lt {fs : List FileD} {f : FileD} {k : Nat} (h : k < layAt fs f.name) : withTo fs f (k + 1) = withTo fs f k ++ [fs[k]'(Nat.lt_of_lt_of_le h (layAt_le fs _))] := by
  have hk := Nat.lt_of_lt_of_le h (layAt_le fs _)
  unfold withTo
  rw [if_pos (by omega), if_pos (by omega), List.take_succ_eq_append_getElem hk]
theorem withTo_eq {fs : List FileD} {f : FileD} (h : layAt fs f.name < fs.length) (he : (fs[layAt fs f.name]'h).name = f.name) : withTo fs f (layAt fs f.name + 1) = withTo fs f (layAt fs f.name) ++ [f] := by
  unfold withTo
  rw [if_neg (by omega), if_pos (by omega), layEq_one h he, List.drop_of_length_le (by rw [List.length_take]; omega)]
theorem withTo_ne {fs : List FileD} {f : FileD} (h : layAt fs f.name < fs.length) (he : (fs[layAt fs f.name]'h).name ≠ f.name) : withTo fs f (layAt fs f.name + 1) = withTo fs f (layAt fs f.name) ++ [f] ++ [fs[layAt fs f.name]'h] := by
  unfold withTo
  rw [if_neg (by omega), if_pos (by omega), layEq_ne h he, List.take_succ_eq_append_getElem h, List.drop_append, List.length_take]
  have e : min (layAt fs f.name) fs.length = layAt fs f.name := by omega
  rw [List.drop_of_length_le (by rw [List.length_take]; omega), e]
  simp
theorem withTo_gt {fs : List FileD} {f : FileD} {k : Nat} (h : layAt fs f.name < k) (hk : k < fs.length) : withTo fs f (k + 1) = withTo fs f k ++ [fs[k]] := by
  have hle : layEq fs f.name ≤ 1 := by unfold layEq; split <;> (try split) <;> omega
  unfold withTo
  rw [if_neg (by omega), if_neg (by omega), List.take_succ_eq_append_getElem hk, List.drop_append_of_le_length (by rw [List.length_take]; omega)]
  simp
theorem withTo_end {fs : List FileD} {f : FileD} (h : layAt fs f.name < fs.length) : withTo fs f fs.length = layR fs f := by
  unfold withTo layR
  rw [if_neg (by omega), List.take_length]
theorem withTo_end2 {fs : List FileD} {f : FileD} (h : layAt fs f.name = fs.length) : withTo fs f fs.length ++ [f] = layR fs f := by
  unfold withTo layR
  rw [if_pos (by omega), h, layEq_end h]
  simp
theorem withTo_zero (fs : List FileD) (f : FileD) : withTo fs f 0 = [] := by
  unfold withTo
  rw [if_pos (by omega)]
  rfl
theorem withTo_len (fs : List FileD) (f : FileD) (k : Nat) (hk : k ≤ fs.length) : (withTo fs f k).length ≤ k + 1 := by
  unfold withTo
  have := layAt_le fs f.name
  split
  · rw [List.length_take]; omega
  · simp only [List.length_append, List.length_take, List.length_cons, List.length_drop]
    omega
theorem with_step {w : World} {base : Nat} {e : TypeId} {v : Value} {X Y : List FileD} {f : FileD} (hY : Y = X ++ [f]) (h : w.ownsRow base e 3 v (X.length + 1) (X.flatMap FileD.cells ++ [.string f.name, .string f.text, .int .i64 f.synced])) :
    w.ownsRow base e 3 v Y.length (Y.flatMap FileD.cells) := by
  subst hY
  rw [List.flatMap_append, List.length_append]
  exact h
theorem with_fin {w : World} {base : Nat} {e : TypeId} {v : Value} {Y Z : List FileD} (hY : Y = Z) (h : w.ownsRow base e 3 v Y.length (Y.flatMap FileD.cells)) : w.ownsRow base e 3 v Z.length (Z.flatMap FileD.cells) := by
  subst hY
  exact h

set_option maxRecDepth 100000 in
set_option maxHeartbeats 4000000 in
theorem withFile_any (v : Value) (fs : List FileD) (nm tx : ByteArray) (sy : Int) (w : World) (h : FilesR w w.heap.size v fs) (hn : fs.length ≤ 1048576) (hasc : ∀ j, layAt fs nm < j → ∀ h : j < fs.length, fs[j].name ≠ nm) :
    Calls Try.prog 82 #[.agg #[v], .agg #[.string nm, .string tx, .int .i64 sy]] w fun e w' => (∃ u, e = .returned (.agg #[u]) ∧ GivesD w (layR fs ⟨nm, tx, sy⟩) u w') ∧ Below w.heap.size w w' := by
  have HN := Lib.hid hn
  have HA := Lib.hid hasc
  clear hasc
  obtain ⟨A, c, rfl, hc, hm, hx⟩ := h
  have HX := Lib.hid hx
  unfold maxLen at hm
  have hp := layAt_le fs nm
  go_enter Try.func82, Try.ntmps82
  go_wp2
  go_loopw [6, 13] (fun d i wr => ∃ (k : Nat) (B : Option Addr) (q : Nat), k ≤ fs.length ∧ i = .int .i64 k ∧ d = .bool (decide (layAt fs nm < k)) ∧ wr.ownsRow (w.heap.size + 4) 66 3 (.slice B (withTo fs ⟨nm, tx, sy⟩ k).length q) (withTo fs ⟨nm, tx, sy⟩ k).length ((withTo fs ⟨nm, tx, sy⟩ k).flatMap FileD.cells) ∧ Kc wr ⟨w.heap.size + 1 + 1 + 1, 0, none⟩ (.slice B (withTo fs ⟨nm, tx, sy⟩ k).length q) ∧ Kc wr ⟨w.heap.size + 1, 0, none⟩ (.string nm) ∧ Kc wr ⟨w.heap.size + 1, 1, none⟩ (.string tx) ∧ Kc wr ⟨w.heap.size + 1, 2, none⟩ (.int .i64 sy) ∧ Kc wr ⟨w.heap.size + 1 + 1, 0, none⟩ (.slice none 0 0) ∧ Below w.heap.size w wr) (fun _ i _ => fs.length - (intOf i).toNat)
  case atStart =>
    refine ⟨0, none, 0, by omega, rfl, by simp, ?_, ?_, ?_, ?_, ?_, ?_, box (box (box (box (bel0 w) _) _) _) _⟩
    · rw [withTo_zero]; exact ⟨rfl, .inl ⟨rfl, rfl⟩⟩
    · rw [withTo_zero]; exact Kc.new (by simp) rfl
    · exact ((Kc.new (by simp) rfl).bx _).bx _
    · exact ((Kc.new (by simp) rfl).bx _).bx _
    · exact ((Kc.new (by simp) rfl).bx _).bx _
    · exact (Kc.new (by simp) rfl).bx _
  case round =>
    obtain ⟨k, B, q, hk, rfl, rfl, hown, k0, k1, k2, k3, k4, hb⟩ := hrel
    by_cases hlt : k < fs.length
    · obtain ⟨b, o, cs, rfl, hbb, hl, hcs, rfl, hok⟩ := HX.out k hlt
      have hcs' := hcs.keep (hb.block b hbb)
      have g0 := hcs'.c0
      have g1 := hcs'.c1
      have g2 := hcs'.c2
      -- WAYS
      rcases Nat.lt_trichotomy k (layAt fs nm) with hkp | hkp | hkp
      · have hless := layAt_lt hkp
        have hq : (fs[k].name.toList == nm.toList) = false := str_ne.2 (fun e => by rw [e, less_irrefl] at hless; cases hless)
        have hd : decide (layAt fs nm < k) = false := by simp; omega
        have HW := Lib.hid (withTo_lt (f := ⟨nm, tx, sy⟩) hkp)
        have hwl := withTo_len fs ⟨nm, tx, sy⟩ k hk
        rw [hd]
        have q1 : (k : Int) < (fs.length : Int) := by omega
        have q2 : (0 : Int) ≤ (k : Int) := by omega
        have d0 := k0.1; have f0 := k0.2; have d1 := k1.1; have d2 := k2.1; have d3 := k3.1; have l0 : w.heap.size + 1 + 1 + 1 < wr.heap.size := k0.lt; have l1 : w.heap.size + 1 < wr.heap.size := k1.lt
        have e8 : ¬ wr.heap.size = w.heap.size + 1 + 1 + 1 := by omega
        have e9 : ¬ w.heap.size + 1 + 1 + 1 = wr.heap.size := by omega
        clear hcs hcs' hd hl hok hx
        go_wp2_with (at_builtin; refine wpList_app _ rfl (.tmp 38) (.tmp 40) 27 rfl (w.heap.size + 4) 66 _ 3 40 Try.underlying27 infoFile rfl (by omega) (.slice B (withTo fs ⟨nm, tx, sy⟩ k).length q) _ _ rfl ((hown.alloc _).alloc _) (.slice (some ⟨wr.heap.size + 1, 0, none⟩) 1 1) 1 [.string fs[k].name, .string fs[k].text, .int .i64 fs[k].synced] rfl rfl (flat_lit (by simp) _ _ _ _) (file_one1 _ _ _) (by unfold maxLen; omega) (by omega) (by simp; omega) ?_; intro v1 w1 ho1 hg1; have n0 := Kc.grown ((k0.bx _).bx _) hg1 (by intro j hj; have := World.ownsRow.lt hown j hj; omega); have n1 := Kc.grown ((k1.bx _).bx _) hg1 (by intro j hj; have := World.ownsRow.lt hown j hj; omega); have n2 := Kc.grown ((k2.bx _).bx _) hg1 (by intro j hj; have := World.ownsRow.lt hown j hj; omega); have n3 := Kc.grown ((k3.bx _).bx _) hg1 (by intro j hj; have := World.ownsRow.lt hown j hj; omega); have n4 := Kc.grown ((k4.bx _).bx _) hg1 (by intro j hj; have := World.ownsRow.lt hown j hj; omega); have z0n := n0.1; have z1n := n0.2; have z2n : w.heap.size + 1 + 1 + 1 < w1.heap.size := n0.lt; have HB1 := Lib.hid (bel_grown (box (box hb _) _) hg1 (by intro j hj; have := World.ownsRow.lt hown j hj; omega)); have hop1 := with_step (f := fs[k]) HW.out ho1; obtain ⟨B1, q1, e1⟩ := own_form hop1; subst e1)
        go_roundw
        case rel => refine ⟨k + 1, B1, q1, by omega, by go_num, by simp; omega, own_set_far hop1 (fun j hj => by have := World.ownsRow.lt hop1 j hj; omega) _, n0.same _, n1.other (by simp) _, n2.other (by simp) _, n3.other (by simp) _, n4.other (by simp) _, put HB1.out (by simp; omega) _⟩
        case measure => simp [intOf]; omega
      · have hless : Op.bytesLess fs[k].name.toList nm.toList = false := by subst hkp; exact layAt_at hlt
        have hd : decide (layAt fs nm < k) = false := by simp; omega
        by_cases he : fs[k].name = nm
        
        · have hq : (fs[k].name.toList == nm.toList) = true := str_eq.2 he
          have HW := Lib.hid (by subst hkp; exact withTo_eq (f := ⟨nm, tx, sy⟩) hlt he : withTo fs ⟨nm, tx, sy⟩ (k + 1) = withTo fs ⟨nm, tx, sy⟩ k ++ [(⟨nm, tx, sy⟩ : FileD)])
          have HK := Lib.hid hkp
          clear he hkp
          have hwl := withTo_len fs ⟨nm, tx, sy⟩ k hk
          rw [hd]
          have q1 : (k : Int) < (fs.length : Int) := by omega
          have q2 : (0 : Int) ≤ (k : Int) := by omega
          have d0 := k0.1; have f0 := k0.2; have d1 := k1.1; have d2 := k2.1; have d3 := k3.1; have l0 : w.heap.size + 1 + 1 + 1 < wr.heap.size := k0.lt; have l1 : w.heap.size + 1 < wr.heap.size := k1.lt
          have e8 : ¬ wr.heap.size = w.heap.size + 1 + 1 + 1 := by omega
          have e9 : ¬ w.heap.size + 1 + 1 + 1 = wr.heap.size := by omega
          clear hcs hcs' hd hl hok hx
          go_wp2_with (at_builtin; refine wpList_app _ rfl (.tmp 27) (.tmp 29) 27 rfl (w.heap.size + 4) 66 _ 3 40 Try.underlying27 infoFile rfl (by omega) (.slice B (withTo fs ⟨nm, tx, sy⟩ k).length q) _ _ rfl ((hown.alloc _).alloc _) (.slice (some ⟨wr.heap.size + 1, 0, none⟩) 1 1) 1 [.string nm, .string tx, .int .i64 sy] rfl rfl (flat_lit (by simp) _ _ _ _) (file_one1 _ _ _) (by unfold maxLen; omega) (by omega) (by simp; omega) ?_; intro v1 w1 ho1 hg1; have n0 := Kc.grown ((k0.bx _).bx _) hg1 (by intro j hj; have := World.ownsRow.lt hown j hj; omega); have n1 := Kc.grown ((k1.bx _).bx _) hg1 (by intro j hj; have := World.ownsRow.lt hown j hj; omega); have n2 := Kc.grown ((k2.bx _).bx _) hg1 (by intro j hj; have := World.ownsRow.lt hown j hj; omega); have n3 := Kc.grown ((k3.bx _).bx _) hg1 (by intro j hj; have := World.ownsRow.lt hown j hj; omega); have n4 := Kc.grown ((k4.bx _).bx _) hg1 (by intro j hj; have := World.ownsRow.lt hown j hj; omega); have x0 := Kc.grown ((Kc.new rfl rfl : Kc (wr.alloc (.cells #[.string fs[k].name, .string fs[k].text, .int .i64 fs[k].synced] 66)) ⟨wr.heap.size, 0, none⟩ (.string fs[k].name)).bx _) hg1 (by intro j hj; have := World.ownsRow.lt hown j hj; omega); have x1 := Kc.grown ((Kc.new rfl rfl : Kc (wr.alloc (.cells #[.string fs[k].name, .string fs[k].text, .int .i64 fs[k].synced] 66)) ⟨wr.heap.size, 1, none⟩ (.string fs[k].text)).bx _) hg1 (by intro j hj; have := World.ownsRow.lt hown j hj; omega); have x2 := Kc.grown ((Kc.new rfl rfl : Kc (wr.alloc (.cells #[.string fs[k].name, .string fs[k].text, .int .i64 fs[k].synced] 66)) ⟨wr.heap.size, 2, none⟩ (.int .i64 fs[k].synced)).bx _) hg1 (by intro j hj; have := World.ownsRow.lt hown j hj; omega); have xa := x0.1; have xb := x1.1; have xc := x2.1; have xd : wr.heap.size < w1.heap.size := x0.lt; have na := n1.1; have nb := n2.1; have nc := n3.1; have nd : w.heap.size + 1 < w1.heap.size := n1.lt; have z0n := n0.1; have z1n := n0.2; have z2n : w.heap.size + 1 + 1 + 1 < w1.heap.size := n0.lt; have HB1 := Lib.hid (bel_grown (box (box hb _) _) hg1 (by intro j hj; have := World.ownsRow.lt hown j hj; omega)); have hop1 := with_step (f := ⟨nm, tx, sy⟩) HW.out ho1; obtain ⟨B1, q1, e1⟩ := own_form hop1; subst e1)
          go_roundw
          case rel => refine ⟨k + 1, B1, q1, by omega, by go_num, by have := HK.out; simp; omega, own_set_far hop1 (fun j hj => by have := World.ownsRow.lt hop1 j hj; omega) _, n0.same _, n1.other (by simp) _, n2.other (by simp) _, n3.other (by simp) _, n4.other (by simp) _, put HB1.out (by simp; omega) _⟩
          case measure => simp [intOf]; omega
        · have hq : (fs[k].name.toList == nm.toList) = false := str_ne.2 he
          have HW2 := Lib.hid (by subst hkp; exact withTo_ne (f := ⟨nm, tx, sy⟩) hlt he : withTo fs ⟨nm, tx, sy⟩ (k + 1) = (withTo fs ⟨nm, tx, sy⟩ k ++ [(⟨nm, tx, sy⟩ : FileD)]) ++ [fs[k]])
          have HK := Lib.hid hkp
          clear he hkp
          have hwl := withTo_len fs ⟨nm, tx, sy⟩ k hk
          rw [hd]
          have q1 : (k : Int) < (fs.length : Int) := by omega
          have q2 : (0 : Int) ≤ (k : Int) := by omega
          have d0 := k0.1; have f0 := k0.2; have d1 := k1.1; have d2 := k2.1; have d3 := k3.1; have l0 : w.heap.size + 1 + 1 + 1 < wr.heap.size := k0.lt; have l1 : w.heap.size + 1 < wr.heap.size := k1.lt
          have e8 : ¬ wr.heap.size = w.heap.size + 1 + 1 + 1 := by omega
          have e9 : ¬ w.heap.size + 1 + 1 + 1 = wr.heap.size := by omega
          clear hcs hcs' hd hl hok hx
          have hyl : (withTo fs ⟨nm, tx, sy⟩ k ++ [(⟨nm, tx, sy⟩ : FileD)]).length ≤ k + 2 := by rw [List.length_append]; simp; omega
          generalize hY : (withTo fs ⟨nm, tx, sy⟩ k ++ [(⟨nm, tx, sy⟩ : FileD)]) = Y at *
          have HW := Lib.hid hY.symm
          clear hY
          go_wp2_with (first | (at_builtin; refine wpList_app _ rfl (.tmp 27) (.tmp 29) 27 rfl (w.heap.size + 4) 66 _ 3 40 Try.underlying27 infoFile rfl (by omega) (.slice B (withTo fs ⟨nm, tx, sy⟩ k).length q) _ _ rfl ((hown.alloc _).alloc _) (.slice (some ⟨wr.heap.size + 1, 0, none⟩) 1 1) 1 [.string nm, .string tx, .int .i64 sy] rfl rfl (flat_lit (by simp) _ _ _ _) (file_one1 _ _ _) (by unfold maxLen; omega) (by omega) (by simp; omega) ?_; intro v1 w1 ho1 hg1; have n0 := Kc.grown ((k0.bx _).bx _) hg1 (by intro j hj; have := World.ownsRow.lt hown j hj; omega); have n1 := Kc.grown ((k1.bx _).bx _) hg1 (by intro j hj; have := World.ownsRow.lt hown j hj; omega); have n2 := Kc.grown ((k2.bx _).bx _) hg1 (by intro j hj; have := World.ownsRow.lt hown j hj; omega); have n3 := Kc.grown ((k3.bx _).bx _) hg1 (by intro j hj; have := World.ownsRow.lt hown j hj; omega); have n4 := Kc.grown ((k4.bx _).bx _) hg1 (by intro j hj; have := World.ownsRow.lt hown j hj; omega); have x0 := Kc.grown ((Kc.new rfl rfl : Kc (wr.alloc (.cells #[.string fs[k].name, .string fs[k].text, .int .i64 fs[k].synced] 66)) ⟨wr.heap.size, 0, none⟩ (.string fs[k].name)).bx _) hg1 (by intro j hj; have := World.ownsRow.lt hown j hj; omega); have x1 := Kc.grown ((Kc.new rfl rfl : Kc (wr.alloc (.cells #[.string fs[k].name, .string fs[k].text, .int .i64 fs[k].synced] 66)) ⟨wr.heap.size, 1, none⟩ (.string fs[k].text)).bx _) hg1 (by intro j hj; have := World.ownsRow.lt hown j hj; omega); have x2 := Kc.grown ((Kc.new rfl rfl : Kc (wr.alloc (.cells #[.string fs[k].name, .string fs[k].text, .int .i64 fs[k].synced] 66)) ⟨wr.heap.size, 2, none⟩ (.int .i64 fs[k].synced)).bx _) hg1 (by intro j hj; have := World.ownsRow.lt hown j hj; omega); have xa := x0.1; have xb := x1.1; have xc := x2.1; have xd : wr.heap.size < w1.heap.size := x0.lt; have na := n1.1; have nb := n2.1; have nc := n3.1; have nd : w.heap.size + 1 < w1.heap.size := n1.lt; have z0n := n0.1; have z1n := n0.2; have z2n : w.heap.size + 1 + 1 + 1 < w1.heap.size := n0.lt; have HB1 := Lib.hid (bel_grown (box (box hb _) _) hg1 (by intro j hj; have := World.ownsRow.lt hown j hj; omega)); have hop1 := with_step (f := ⟨nm, tx, sy⟩) HW.out ho1; obtain ⟨B1, q1, e1⟩ := own_form hop1; subst e1) | (at_builtin; refine wpList_app _ rfl (.tmp 38) (.tmp 40) 27 rfl (w.heap.size + 4) 66 _ 3 40 Try.underlying27 infoFile rfl (by omega) (.slice B1 Y.length q1) _ _ rfl ((own_set_far hop1 (fun j hj => by have := World.ownsRow.lt hop1 j hj; omega) _).alloc _) (.slice (some ⟨w1.heap.size, 0, none⟩) 1 1) 1 [.string fs[k].name, .string fs[k].text, .int .i64 fs[k].synced] rfl rfl (flat_lit (by simp) _ _ _ _) (file_one1 _ _ _) (by unfold maxLen; omega) (by omega) (by simp; omega) ?_; intro v2 w2 ho2 hg2; have m0 := Kc.grown ((n0.same _).bx _) hg2 (by intro j hj; have := World.ownsRow.lt hop1 j hj; omega); have m1 := Kc.grown ((n1.other (by simp) _).bx _) hg2 (by intro j hj; have := World.ownsRow.lt hop1 j hj; omega); have m2 := Kc.grown ((n2.other (by simp) _).bx _) hg2 (by intro j hj; have := World.ownsRow.lt hop1 j hj; omega); have m3 := Kc.grown ((n3.other (by simp) _).bx _) hg2 (by intro j hj; have := World.ownsRow.lt hop1 j hj; omega); have m4 := Kc.grown ((n4.other (by simp) _).bx _) hg2 (by intro j hj; have := World.ownsRow.lt hop1 j hj; omega); have z0m := m0.1; have z1m := m0.2; have z2m : w.heap.size + 1 + 1 + 1 < w2.heap.size := m0.lt; have HB2 := Lib.hid (bel_grown (box (put HB1.out (by simp; omega) _) _) hg2 (by intro j hj; have := World.ownsRow.lt hop1 j hj; omega)); have hop2 := with_step (f := fs[k]) HW2.out ho2; obtain ⟨B2, q2, e2⟩ := own_form hop2; subst e2))
          go_roundw
          case rel => refine ⟨k + 1, B2, q2, by omega, by go_num, by have := HK.out; simp; omega, own_set_far hop2 (fun j hj => by have := World.ownsRow.lt hop2 j hj; omega) _, m0.same _, m1.other (by simp) _, m2.other (by simp) _, m3.other (by simp) _, m4.other (by simp) _, put HB2.out (by simp; omega) _⟩
          case measure => simp [intOf]; omega
      · have hq : (fs[k].name.toList == nm.toList) = false := str_ne.2 (HA.out k hkp hlt)
        have hd : decide (layAt fs nm < k) = true := by simp; omega
        have HW := Lib.hid (withTo_gt (f := ⟨nm, tx, sy⟩) hkp hlt)
        have hwl := withTo_len fs ⟨nm, tx, sy⟩ k hk
        rw [hd]
        have q1 : (k : Int) < (fs.length : Int) := by omega
        have q2 : (0 : Int) ≤ (k : Int) := by omega
        have d0 := k0.1; have f0 := k0.2; have d1 := k1.1; have d2 := k2.1; have d3 := k3.1; have l0 : w.heap.size + 1 + 1 + 1 < wr.heap.size := k0.lt; have l1 : w.heap.size + 1 < wr.heap.size := k1.lt
        have e8 : ¬ wr.heap.size = w.heap.size + 1 + 1 + 1 := by omega
        have e9 : ¬ w.heap.size + 1 + 1 + 1 = wr.heap.size := by omega
        clear hcs hcs' hd hl hok hx
        go_wp2_with (at_builtin; refine wpList_app _ rfl (.tmp 38) (.tmp 40) 27 rfl (w.heap.size + 4) 66 _ 3 40 Try.underlying27 infoFile rfl (by omega) (.slice B (withTo fs ⟨nm, tx, sy⟩ k).length q) _ _ rfl ((hown.alloc _).alloc _) (.slice (some ⟨wr.heap.size + 1, 0, none⟩) 1 1) 1 [.string fs[k].name, .string fs[k].text, .int .i64 fs[k].synced] rfl rfl (flat_lit (by simp) _ _ _ _) (file_one1 _ _ _) (by unfold maxLen; omega) (by omega) (by simp; omega) ?_; intro v1 w1 ho1 hg1; have n0 := Kc.grown ((k0.bx _).bx _) hg1 (by intro j hj; have := World.ownsRow.lt hown j hj; omega); have n1 := Kc.grown ((k1.bx _).bx _) hg1 (by intro j hj; have := World.ownsRow.lt hown j hj; omega); have n2 := Kc.grown ((k2.bx _).bx _) hg1 (by intro j hj; have := World.ownsRow.lt hown j hj; omega); have n3 := Kc.grown ((k3.bx _).bx _) hg1 (by intro j hj; have := World.ownsRow.lt hown j hj; omega); have n4 := Kc.grown ((k4.bx _).bx _) hg1 (by intro j hj; have := World.ownsRow.lt hown j hj; omega); have z0n := n0.1; have z1n := n0.2; have z2n : w.heap.size + 1 + 1 + 1 < w1.heap.size := n0.lt; have HB1 := Lib.hid (bel_grown (box (box hb _) _) hg1 (by intro j hj; have := World.ownsRow.lt hown j hj; omega)); have hop1 := with_step (f := fs[k]) HW.out ho1; obtain ⟨B1, q1, e1⟩ := own_form hop1; subst e1)
        go_roundw
        case rel => refine ⟨k + 1, B1, q1, by omega, by go_num, by simp; omega, own_set_far hop1 (fun j hj => by have := World.ownsRow.lt hop1 j hj; omega) _, n0.same _, n1.other (by simp) _, n2.other (by simp) _, n3.other (by simp) _, n4.other (by simp) _, put HB1.out (by simp; omega) _⟩
        case measure => simp [intOf]; omega
      -- END
    -- LAST
    · have HKE : Hid (k = fs.length) := by unfold Hid; omega
      have hwl := withTo_len fs ⟨nm, tx, sy⟩ k hk
      clear hx
      by_cases hlt2 : layAt fs nm < fs.length
      · have hd : decide (layAt fs nm < k) = true := by have := HKE.out; simp; omega
        rw [hd]
        have HW := Lib.hid (by rw [HKE.out]; exact withTo_end (f := ⟨nm, tx, sy⟩) hlt2 : (withTo fs ⟨nm, tx, sy⟩ k) = layR fs ⟨nm, tx, sy⟩)
        clear hd hlt2
        have d0 := k0.1; have f0 := k0.2; have d1 := k1.1; have d2 := k2.1; have d3 := k3.1; have d4 := k4.1; have f4 := k4.2; have l0 : w.heap.size + 1 + 1 + 1 < wr.heap.size := k0.lt; have l1 : w.heap.size + 1 < wr.heap.size := k1.lt; have l4 : w.heap.size + 1 + 1 < wr.heap.size := k4.lt
        go_wp2
        refine bodyPost_ret (v := .agg #[.slice B (withTo fs ⟨nm, tx, sy⟩ k).length q]) (by simp [results, Try.results82, go_sem, d4]) rfl ⟨⟨_, rfl, ?_⟩, put hb (by simp; omega) _⟩
        exact ownsRow_base (ownsRow_setCell_below (with_fin HW.out hown) (by simp) _) (by omega)
      · have hd : decide (layAt fs nm < k) = false := by have := HKE.out; simp; omega
        rw [hd]
        have HW := Lib.hid (by rw [HKE.out]; exact (withTo_end2 (f := ⟨nm, tx, sy⟩) (by show layAt fs nm = _; omega)).symm : layR fs ⟨nm, tx, sy⟩ = (withTo fs ⟨nm, tx, sy⟩ k) ++ [(⟨nm, tx, sy⟩ : FileD)])
        clear hd hlt2
        have d0 := k0.1; have f0 := k0.2; have d1 := k1.1; have d2 := k2.1; have d3 := k3.1; have d4 := k4.1; have f4 := k4.2; have l0 : w.heap.size + 1 + 1 + 1 < wr.heap.size := k0.lt; have l1 : w.heap.size + 1 < wr.heap.size := k1.lt; have l4 : w.heap.size + 1 + 1 < wr.heap.size := k4.lt
        go_wp2_with (at_builtin; refine wpList_app _ rfl (.tmp 47) (.tmp 49) 27 rfl (w.heap.size + 4) 66 _ 3 40 Try.underlying27 infoFile rfl (by omega) (.slice B (withTo fs ⟨nm, tx, sy⟩ k).length q) _ _ rfl (hown.alloc _) (.slice (some ⟨wr.heap.size, 0, none⟩) 1 1) 1 [.string nm, .string tx, .int .i64 sy] rfl rfl (flat_lit (by rfl) _ _ _ _) (file_one1 _ _ _) (by unfold maxLen; omega) (by omega) (by simp; omega) ?_; intro v1 w1 ho1 hg1; have n0 := Kc.grown (k0.bx _) hg1 (by intro j hj; have := World.ownsRow.lt hown j hj; omega); have n1 := Kc.grown (k1.bx _) hg1 (by intro j hj; have := World.ownsRow.lt hown j hj; omega); have n2 := Kc.grown (k2.bx _) hg1 (by intro j hj; have := World.ownsRow.lt hown j hj; omega); have n3 := Kc.grown (k3.bx _) hg1 (by intro j hj; have := World.ownsRow.lt hown j hj; omega); have n4 := Kc.grown (k4.bx _) hg1 (by intro j hj; have := World.ownsRow.lt hown j hj; omega); have z0n := n0.1; have z1n := n0.2; have z2n : w.heap.size + 1 + 1 + 1 < w1.heap.size := n0.lt; have HB1 := Lib.hid (bel_grown (box hb _) hg1 (by intro j hj; have := World.ownsRow.lt hown j hj; omega)); have hop1 := with_step (f := ⟨nm, tx, sy⟩) HW.out ho1; obtain ⟨B1, q1, e1⟩ := own_form hop1; subst e1; have u4 := n4.1; have v4 := n4.2; have w4 : w.heap.size + 1 + 1 < w1.heap.size := n4.lt)
        refine bodyPost_ret (v := .agg #[.slice B1 (layR fs ⟨nm, tx, sy⟩).length q1]) (by simp [results, Try.results82, go_sem, u4]) rfl ⟨⟨_, rfl, ?_⟩, put (put HB1.out (by simp; omega) _) (by simp; omega) _⟩
        exact ownsRow_base (ownsRow_setCell_below (ownsRow_setCell_below hop1 (by simp) _) (by simp) _) (by omega)
end Go.Proofs.Ytepachoampdhiaa
