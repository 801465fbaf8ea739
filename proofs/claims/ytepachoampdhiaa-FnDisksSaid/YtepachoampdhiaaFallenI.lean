/- FallenDisk of the program: its walk. -/
import Derived.Test.YtepachoampdhiaaFallen
namespace Go.Proofs.Ytepachoampdhiaa
open Go.RowKit

set_option maxRecDepth 100000 in
set_option maxHeartbeats 4000000 in
theorem implFallen_any (v : Value) (fs : List FileD) (kv : Value) (ks : List Int) (w : World) (h : FilesR w w.heap.size v fs) (hn : fs.length ≤ 1048576) (hk : IntsR w w.heap.size kv ks) :
    Calls Try.prog 40 #[.agg #[v], kv] w fun e w' => (∃ u, e = .returned (.agg #[u]) ∧ GivesD w (fallenR fs ks) u w') ∧ Below w.heap.size w w' := by
  have HN := Lib.hid hn
  clear hn
  have hh := h
  obtain ⟨Av, cv, rfl, hcv, hmv, hx⟩ := h
  obtain ⟨Ak, ck, rfl, hck, hmk, hy⟩ := hk
  unfold maxLen at hmv hmk
  have HX := Lib.hid hx
  have HY := Lib.hid hy
  clear hx hy
  by_cases hd : DiskP fs
  · have HD : Hid (DiskP fs) := hd
    have hlen4 : fs.length ≤ 4 := hd.1
    rw [fallenR_good hd]
    clear hd
    have hlowk := True.intro
    go_enter Try.func40, Try.ntmps40
    go_wp2_with fail
    refine (copyDisk_any _ fs _ (hh.go (box (box (bel0 w) _) _)) HN.out).mono ?_
    rintro e w1 ⟨⟨u, rfl, hown⟩, hb'⟩
    unfold GivesD at hown
    obtain ⟨A, c, rfl⟩ := own_form hown
    have hlow : Hid (∀ k, (Value.slice A fs.length c).ownBlock = some k → w.heap.size + 1 + 1 ≤ k ∧ k < w1.heap.size) := fun k hk => by have := World.ownsRow.lt hown k hk; simp at this; omega
    have hb1 := stp (box (box (bel0 w) _) _) hb'
    have kv1 := ((Kc.new rfl rfl : Kc (w.alloc (.cells #[.slice Av fs.length cv] 29)) ⟨w.heap.size, 0, none⟩ (.slice Av fs.length cv)).bx (.cells #[.slice none 0 0] 29)).go hb'
    have kr1 := (Kc.new (by simp) rfl : Kc ((w.alloc (.cells #[.slice Av fs.length cv] 29)).alloc (.cells #[.slice none 0 0] 29)) ⟨w.heap.size + 1, 0, none⟩ (.slice none 0 0)).go hb'
    have l0 : w.heap.size + 1 < w1.heap.size := Kc.lt kr1
    clear hb' hlowk
    have kv2 := kv1.bx (.cells #[.slice A fs.length c] 29)
    have kr2 := kr1.bx (.cells #[.slice A fs.length c] 29)
    have ko2 := (Kc.new rfl rfl : Kc (w1.alloc (.cells #[.slice A fs.length c] 29)) ⟨w1.heap.size, 0, none⟩ (.slice A fs.length c))
    have ho2 := ownsRow_base (hown.alloc (.cells #[.slice A fs.length c] 29)) (show w.heap.size + 1 + 1 ≤ _ by simp)
    clear hown kv1 kr1
    have c1 := kv2.1
    go_wp2_with fail
    refine (implDiskOk_any _ fs true (by simpa using HD.out) _ (hh.go (box hb1 _))).mono ?_
    rintro e w2 ⟨rfl, hb'⟩
    have hb2 := stp (box hb1 _) hb'
    replace kv2 := kv2.go hb'
    replace kr2 := kr2.go hb'
    replace ko2 := ko2.go hb'
    replace ho2 := ownsRow_below ho2 hb' (Nat.le_refl _)
    have hz2 := hb'.size
    rw [World.size_alloc] at hz2
    clear hb' c1 hb1
    have c1 := kv2.1
    have HO2 : Hid (w2.ownsRow (w.heap.size + 1 + 1) 66 3 (.slice A fs.length c) fs.length ((fallTo fs ks 0).flatMap FileD.cells)) := by unfold Hid; rw [fallTo_zero]; exact ho2
    clear ho2
    go_wp2
    go_loopw [18] (fun i wr => ∃ k : Nat, k ≤ fs.length ∧ i = .int .i64 k ∧ Kc wr ⟨w.heap.size, 0, none⟩ (.slice Av fs.length cv) ∧ Kc wr ⟨w.heap.size + 1, 0, none⟩ (.slice none 0 0) ∧ Kc wr ⟨w1.heap.size, 0, none⟩ (.slice A fs.length c) ∧ w1.heap.size < wr.heap.size ∧ wr.ownsRow (w.heap.size + 1 + 1) 66 3 (.slice A fs.length c) fs.length ((fallTo fs ks k).flatMap FileD.cells) ∧ Below w.heap.size w wr) (fun i _ => fs.length - (intOf i).toNat)
    case atStart => exact ⟨0, by omega, rfl, kv2, kr2, ko2, by omega, HO2.out, hb2⟩
    case round =>
      clear kv2 kr2 ko2 HO2 c1
      obtain ⟨k, hk, rfl, kv, kr, ko, hsz, ho, hb⟩ := hrel
      by_cases hlt : k < fs.length
      · have hk4 : k < 4 := by omega
        obtain ⟨_, _, hsz2, hs0, hs1⟩ := HD.out.2 k hlt
        obtain ⟨r0, r1, r2⟩ := fallN_range (ks.getD k 0) hs0 hs1
        obtain ⟨bb, o, cs, rfl, hbb, hcl, hcs, rfl, hok⟩ := HX.out k hlt
        have hcs' := hcs.keep (hb.block bb hbb)
        have g0 := hcs'.c0
        have g1 := hcs'.c1
        have g2 := hcs'.c2
        have q1 : bb < wr.heap.size := Nat.lt_of_lt_of_le hbb hb.size
        clear hcs hcs' hcl
        have c2 := ko.1
        obtain ⟨q, eq⟩ : ∃ q : Int, ks.getD k 0 = q := ⟨_, rfl⟩
        obtain ⟨nn, en⟩ : ∃ nn : Int, fallN fs[k] q = nn := ⟨_, rfl⟩
        rw [eq, en] at r0 r1 r2
        have EN := Lib.hid en
        have EQ := Lib.hid eq
        obtain ⟨g, rfl, hgb, hgl⟩ := own_some ho (by omega)
        obtain ⟨hlo, hhi⟩ := hlow.out g rfl
        have d0 := ho.frozenAt (k * 3)
        have d1 := ho.frozenAt (k * 3 + 1)
        have d2 := ho.frozenAt (k * 3 + 2)
        obtain ⟨u1, b1⟩ := own_cell ho (k * 3 + 1) (by omega)
        obtain ⟨u2, b2⟩ := own_cell ho (k * 3 + 2) (by omega)
        have l2 := ko.lt
        by_cases hkk : k < ks.length
        · obtain ⟨bk, kk, cs', rfl, hbk, hkl, hcs', rfl, hkok⟩ := HY.out k hkk
          have g3 := (hcs'.keep (hb.block bk hbk)).c0
          rw [Nat.mul_one] at g3
          have q3 : bk < wr.heap.size := Nat.lt_of_lt_of_le hbk hb.size
          have ek : ks[k] = q := by rw [← eq, List.getD_eq_getElem?_getD, List.getElem?_eq_getElem hkk]; rfl
          rw [ek] at g3
          have hqr : IntOk q := ek ▸ hkok
          obtain ⟨hq1, hq2⟩ := hqr
          clear hcs' hkl ek eq
          by_cases hq : 0 < q
          · have e2 : nn = fs[k].synced + min q ((fs[k].text.size : Int) - fs[k].synced) := en.symm.trans (fallN_pos hq)
            have wr1 : IntKind.i64.wrap ((fs[k].text.size : Int) - fs[k].synced) = (fs[k].text.size : Int) - fs[k].synced := IntWalk.i64_in _ (by omega)
            have k0 : (0 : Int) ≤ (k : Int) := Int.natCast_nonneg _
            have k1 : (k : Int) < (ks.length : Int) := by omega
            clear en
            by_cases hqm : q ≤ (fs[k].text.size : Int) - fs[k].synced
            · have wr2 : IntKind.i64.wrap (fs[k].synced + q) = nn := by rw [show fs[k].synced + q = nn by omega]; exact IntWalk.i64_in _ (by omega)
              clear e2
              go_wp2
              go_quiet (fail)
              go_wp2
              go_region
              go_wp2
              go_roundw
              case rel =>
                refine ⟨k + 1, by omega, by go_num, ?_, ?_, ?_, ?_, ?_, ?_⟩
                · exact (((kv.bx _).dn _).other (show w.heap.size ≠ g by omega) _).other (show w.heap.size ≠ g by omega) _
                · exact (((kr.bx _).dn _).other (show w.heap.size + 1 ≠ g by omega) _).other (show w.heap.size + 1 ≠ g by omega) _
                · exact (((ko.bx _).dn _).other (show w1.heap.size ≠ g by omega) _).other (show w1.heap.size ≠ g by omega) _
                · have := ko.lt
                  simp
                  omega
                · rw [← fall_step2 hlt EQ.out EN.out]
                  exact ((own_dn (ho.alloc _) _).stored (k * 3 + 1) _).1.stored (k * 3 + 2) _ |>.1
                · exact put (put (drwN (box hb _) _) (show w.heap.size ≤ g by omega) _) (show w.heap.size ≤ g by omega) _
              case measure => simp [intOf]; omega
            · have hqm' : (fs[k].text.size : Int) - fs[k].synced < q := by omega
              have wr2 : IntKind.i64.wrap (fs[k].synced + ((fs[k].text.size : Int) - fs[k].synced)) = nn := by rw [show fs[k].synced + ((fs[k].text.size : Int) - fs[k].synced) = nn by omega]; exact IntWalk.i64_in _ (by omega)
              clear e2 hqm
              go_wp2
              go_quiet (fail)
              go_wp2
              go_region
              go_wp2
              go_roundw
              case rel =>
                refine ⟨k + 1, by omega, by go_num, ?_, ?_, ?_, ?_, ?_, ?_⟩
                · exact (((kv.bx _).dn _).other (show w.heap.size ≠ g by omega) _).other (show w.heap.size ≠ g by omega) _
                · exact (((kr.bx _).dn _).other (show w.heap.size + 1 ≠ g by omega) _).other (show w.heap.size + 1 ≠ g by omega) _
                · exact (((ko.bx _).dn _).other (show w1.heap.size ≠ g by omega) _).other (show w1.heap.size ≠ g by omega) _
                · have := ko.lt
                  simp
                  omega
                · rw [← fall_step2 hlt EQ.out EN.out]
                  exact ((own_dn (ho.alloc _) _).stored (k * 3 + 1) _).1.stored (k * 3 + 2) _ |>.1
                · exact put (put (drwN (box hb _) _) (show w.heap.size ≤ g by omega) _) (show w.heap.size ≤ g by omega) _
              case measure => simp [intOf]; omega
          · have e3 : fallN fs[k] q = fs[k].synced := fallN_neg (by omega) hs1
            obtain rfl : nn = fs[k].synced := en.symm.trans e3
            clear en e3
            have hq' : q ≤ 0 := by omega
            clear hq
            go_wp2
            go_region
            go_wp2
            go_roundw
            case rel =>
              refine ⟨k + 1, by omega, by go_num, ?_, ?_, ?_, ?_, ?_, ?_⟩
              · exact Kc.dr (Kc.bx (Kc.other (Kc.other kv (show w.heap.size ≠ g by omega) _) (show w.heap.size ≠ g by omega) _) _)
              · exact Kc.dr (Kc.bx (Kc.other (Kc.other kr (show w.heap.size + 1 ≠ g by omega) _) (show w.heap.size + 1 ≠ g by omega) _) _)
              · exact Kc.dr (Kc.bx (Kc.other (Kc.other ko (show w1.heap.size ≠ g by omega) _) (show w1.heap.size ≠ g by omega) _) _)
              · have := ko.lt
                simp
                omega
              · rw [← fall_step2 hlt EQ.out EN.out]
                exact (((ho.stored (k * 3 + 1) _).1.stored (k * 3 + 2) _).1.alloc _).drew
              · exact drw (box (put (put hb (show w.heap.size ≤ g by omega) _) (show w.heap.size ≤ g by omega) _) _)
            case measure => simp [intOf]; omega
        · have ek : q = 0 := by rw [← eq, List.getD_eq_getElem?_getD, List.getElem?_eq_none (by omega)]; rfl
          have e3 : fallN fs[k] q = fs[k].synced := fallN_neg (by omega) hs1
          obtain rfl : nn = fs[k].synced := en.symm.trans e3
          clear en e3 ek eq
          go_wp2
          go_region
          go_wp2
          go_roundw
          case rel =>
            refine ⟨k + 1, by omega, by go_num, ?_, ?_, ?_, ?_, ?_, ?_⟩
            · exact Kc.dr (Kc.bx (Kc.other (Kc.other kv (show w.heap.size ≠ g by omega) _) (show w.heap.size ≠ g by omega) _) _)
            · exact Kc.dr (Kc.bx (Kc.other (Kc.other kr (show w.heap.size + 1 ≠ g by omega) _) (show w.heap.size + 1 ≠ g by omega) _) _)
            · exact Kc.dr (Kc.bx (Kc.other (Kc.other ko (show w1.heap.size ≠ g by omega) _) (show w1.heap.size ≠ g by omega) _) _)
            · have := ko.lt
              simp
              omega
            · rw [← fall_step2 hlt EQ.out EN.out]
              exact (((ho.stored (k * 3 + 1) _).1.stored (k * 3 + 2) _).1.alloc _).drew
            · exact drw (box (put (put hb (show w.heap.size ≤ g by omega) _) (show w.heap.size ≤ g by omega) _) _)
          case measure => simp [intOf]; omega
      · obtain rfl : k = fs.length := by omega
        have c2 := ko.1
        have c3 := kr.1
        have f3 := kr.2
        go_wp2
        refine bodyPost_ret (v := .agg #[.slice A fs.length c]) (by simp [results, Try.results40, go_sem, c3]) rfl ⟨⟨_, rfl, ?_⟩, put hb (by simp) _⟩
        unfold GivesD
        rw [fallTo_length]
        exact ownsRow_base (ownsRow_setCell_below ho (show w.heap.size + 1 < w.heap.size + 1 + 1 by omega) _) (show w.heap.size ≤ w.heap.size + 1 + 1 by omega)
  · have HD : Hid (¬ DiskP fs) := hd
    rw [fallenR_bad hd]
    clear hd
    have hlowk := True.intro
    go_enter Try.func40, Try.ntmps40
    go_wp2_with fail
    refine (copyDisk_any _ fs _ (hh.go (box (box (bel0 w) _) _)) HN.out).mono ?_
    rintro e w1 ⟨⟨u, rfl, hown⟩, hb'⟩
    unfold GivesD at hown
    obtain ⟨A, c, rfl⟩ := own_form hown
    have hlow : Hid (∀ k, (Value.slice A fs.length c).ownBlock = some k → w.heap.size + 1 + 1 ≤ k ∧ k < w1.heap.size) := fun k hk => by have := World.ownsRow.lt hown k hk; simp at this; omega
    have hb1 := stp (box (box (bel0 w) _) _) hb'
    have kv1 := ((Kc.new rfl rfl : Kc (w.alloc (.cells #[.slice Av fs.length cv] 29)) ⟨w.heap.size, 0, none⟩ (.slice Av fs.length cv)).bx (.cells #[.slice none 0 0] 29)).go hb'
    have kr1 := (Kc.new (by simp) rfl : Kc ((w.alloc (.cells #[.slice Av fs.length cv] 29)).alloc (.cells #[.slice none 0 0] 29)) ⟨w.heap.size + 1, 0, none⟩ (.slice none 0 0)).go hb'
    have l0 : w.heap.size + 1 < w1.heap.size := Kc.lt kr1
    clear hb' hlowk
    have kv2 := kv1.bx (.cells #[.slice A fs.length c] 29)
    have kr2 := kr1.bx (.cells #[.slice A fs.length c] 29)
    have ko2 := (Kc.new rfl rfl : Kc (w1.alloc (.cells #[.slice A fs.length c] 29)) ⟨w1.heap.size, 0, none⟩ (.slice A fs.length c))
    have ho2 := ownsRow_base (hown.alloc (.cells #[.slice A fs.length c] 29)) (show w.heap.size + 1 + 1 ≤ _ by simp)
    clear hown kv1 kr1
    have c1 := kv2.1
    go_wp2_with fail
    refine (implDiskOk_any _ fs false (by simpa using HD.out) _ (hh.go (box hb1 _))).mono ?_
    rintro e w2 ⟨rfl, hb'⟩
    have hb2 := stp (box hb1 _) hb'
    replace kr2 := kr2.go hb'
    replace ko2 := ko2.go hb'
    replace ho2 := ownsRow_below ho2 hb' (Nat.le_refl _)
    have hz2 := hb'.size
    rw [World.size_alloc] at hz2
    clear hb' c1
    have c2 := ko2.1
    have c3 := kr2.1
    have f3 := kr2.2
    go_wp2
    refine bodyPost_ret (v := .agg #[.slice A fs.length c]) (by simp [results, Try.results40, go_sem, c3]) rfl ⟨⟨_, rfl, ?_⟩, put hb2 (by simp) _⟩
    exact ownsRow_base (ownsRow_setCell_below ho2 (show w.heap.size + 1 < w.heap.size + 1 + 1 by omega) _) (show w.heap.size ≤ w.heap.size + 1 + 1 by omega)
end Go.Proofs.Ytepachoampdhiaa
