/- FallenDisk: of the program and of the reference. -/
import Derived.Test.YtepachoampdhiaaRemoveFile
namespace Go.Proofs.Ytepachoampdhiaa
open Go.RowKit

def intCells (n : Int) : List Value := [.int .i64 n]
def IntOk (n : Int) : Prop := -9223372036854775808 ≤ n ∧ n ≤ 9223372036854775807
abbrev IntsR := SlR 1 (Flat intCells IntOk)

/-- How many bytes of a file stand behind a fall, q being what is kept of the unsynced ones. -/
def fallN (f : FileD) (q : Int) : Int := f.synced + (if q < 0 then 0 else if (f.text.size : Int) - f.synced < q then (f.text.size : Int) - f.synced else q)
def fallF (f : FileD) (q : Int) : FileD := ⟨f.name, f.text.extract 0 (fallN f q).toNat, fallN f q⟩
def fallTo (fs : List FileD) (ks : List Int) (k : Nat) : List FileD := fs.mapIdx fun i f => if i < k then fallF f (ks.getD i 0) else f
open Classical in
noncomputable def fallenR (fs : List FileD) (ks : List Int) : List FileD := if DiskP fs then fallTo fs ks fs.length else fs

theorem fallTo_zero (fs : List FileD) (ks : List Int) : fallTo fs ks 0 = fs := by
  apply List.ext_getElem
  · simp [fallTo]
  · intro i h1 h2
    simp [fallTo]
theorem fallTo_length (fs : List FileD) (ks : List Int) (k : Nat) : (fallTo fs ks k).length = fs.length := by simp [fallTo]
theorem fallTo_get (fs : List FileD) (ks : List Int) (k : Nat) (h : k < fs.length) : (fallTo fs ks k)[k]'(by rw [fallTo_length]; exact h) = fs[k] := by simp [fallTo]
theorem fallTo_succ (fs : List FileD) (ks : List Int) (k : Nat) (h : k < fs.length) : fallTo fs ks (k + 1) = (fallTo fs ks k).set k (fallF fs[k] (ks.getD k 0)) := by
  apply List.ext_getElem
  · simp [fallTo]
  · intro i h1 h2
    simp only [fallTo, List.getElem_mapIdx, List.getElem_set]
    by_cases hik : k = i
    · subst hik
      simp
    · rw [if_neg hik]
      by_cases hi : i < k
      · rw [if_pos (by omega), if_pos hi]
      · rw [if_neg (by omega), if_neg hi]

theorem cells_set3 : ∀ (L : List FileD) (k : Nat) (_ : k < L.length) (f : FileD), setRun (L.flatMap FileD.cells) (k * 3) f.cells = (L.set k f).flatMap FileD.cells
  | [], k, hk, _ => by simp at hk
  | x :: L, 0, _, f => by simp [FileD.cells, setRun]
  | x :: L, k + 1, hk, f => by
    have ih := cells_set3 L k (by simpa using hk) f
    rw [List.set_cons_succ, List.flatMap_cons, List.flatMap_cons, ← ih]
    simp only [FileD.cells, setRun, List.cons_append, List.nil_append]
    rw [show (k + 1) * 3 = k * 3 + 2 + 1 by omega]
    simp only [List.set_cons_succ]

theorem specBrought_any (n lo hi : Int) (r : Int) (hr : r = if hi < lo ∨ n < lo then lo else if hi < n then hi else n) (w : World) :
    Calls Try.prog 80 #[.int .i64 n, .int .i64 lo, .int .i64 hi] w fun e w' => e = .returned (.int .i64 r) ∧ w = w' := by
  have HR := Lib.hid hr
  clear hr
  by_cases h1 : hi < lo
  · go_enter Try.func80, Try.ntmps80
    go_wp2
    go_ret
    exact ⟨ret_i64 (by rw [HR.out, if_pos (.inl h1)]), rfl⟩
  · by_cases h2 : n < lo
    · go_enter Try.func80, Try.ntmps80
      go_wp2
      go_ret
      exact ⟨ret_i64 (by rw [HR.out, if_pos (.inr h2)]), rfl⟩
    · by_cases h3 : hi < n
      · go_enter Try.func80, Try.ntmps80
        go_wp2
        go_ret
        exact ⟨ret_i64 (by rw [HR.out, if_neg (by omega), if_pos h3]), rfl⟩
      · go_enter Try.func80, Try.ntmps80
        go_wp2
        go_ret
        exact ⟨ret_i64 (by rw [HR.out, if_neg (by omega), if_neg (by omega)]), rfl⟩

theorem fallN_range {f : FileD} (q : Int) (h0 : 0 ≤ f.synced) (h1 : f.synced ≤ f.text.size) : 0 ≤ fallN f q ∧ fallN f q ≤ f.text.size ∧ f.synced ≤ fallN f q := by
  unfold fallN
  split
  · omega
  · split <;> omega
theorem Kc.dn {W : World} {a : Addr} {v : Value} (h : Kc W a v) (n : Nat) : Kc (W.drewN n) a v := h
theorem Kc.dr {W : World} {a : Addr} {v : Value} (h : Kc W a v) : Kc W.drew a v := h
theorem own_dn {w : World} {base n size : Nat} {e : TypeId} {v : Value} {xs : List Value} (h : w.ownsRow base e size v n xs) (k : Nat) : (w.drewN k).ownsRow base e size v n xs := h
theorem fall_step {fs : List FileD} {ks : List Int} {k : Nat} (hk : k < fs.length) {q nn : Int} (hq : ks.getD k 0 = q) (hn : fallN fs[k] q = nn) :
    setRun ((fallTo fs ks k).flatMap FileD.cells) (k * 3) [.string fs[k].name, .string (fs[k].text.extract 0 nn.toNat), .int .i64 nn] = (fallTo fs ks (k + 1)).flatMap FileD.cells := by
  rw [fallTo_succ fs ks k hk, ← cells_set3 _ k (by rw [fallTo_length]; exact hk), hq]
  simp only [fallF, FileD.cells, hn]
theorem fall_step2 {fs : List FileD} {ks : List Int} {k : Nat} (hk : k < fs.length) {q nn : Int} (hq : ks.getD k 0 = q) (hn : fallN fs[k] q = nn) :
    (((fallTo fs ks k).flatMap FileD.cells).set (k * 3 + 1) (.string (fs[k].text.extract 0 nn.toNat))).set (k * 3 + 2) (.int .i64 nn) = (fallTo fs ks (k + 1)).flatMap FileD.cells := by
  rw [← fall_step hk hq hn]
  have h0 := flatMap_at FileD.cells 3 FileD.len (fallTo fs ks k) k 0 (by rw [fallTo_length]; exact hk) (by omega)
  rw [fallTo_get fs ks k hk, Nat.add_zero] at h0
  obtain ⟨h1, h2⟩ := List.getElem?_eq_some_iff.1 (h0.trans (show (FileD.cells fs[k])[0]? = some (.string fs[k].name) from rfl))
  have h3 : ((fallTo fs ks k).flatMap FileD.cells).set (k * 3) (.string fs[k].name) = (fallTo fs ks k).flatMap FileD.cells := by rw [← h2]; exact List.set_getElem_self h1
  simp only [setRun, h3]
theorem fallN_pos {f : FileD} {q : Int} (hq : 0 < q) : fallN f q = f.synced + min q ((f.text.size : Int) - f.synced) := by
  unfold fallN
  rw [if_neg (by omega)]
  split <;> omega
theorem fallN_neg {f : FileD} {q : Int} (hq : q ≤ 0) (h1 : f.synced ≤ f.text.size) : fallN f q = f.synced := by
  unfold fallN
  split
  · omega
  · rw [if_neg (by omega)]; omega
theorem fallenR_good {fs : List FileD} {ks : List Int} (h : DiskP fs) : fallenR fs ks = fallTo fs ks fs.length := by unfold fallenR; rw [if_pos h]
theorem fallenR_bad {fs : List FileD} {ks : List Int} (h : ¬ DiskP fs) : fallenR fs ks = fs := by unfold fallenR; rw [if_neg h]

-- the walks
set_option maxRecDepth 100000 in
set_option maxHeartbeats 4000000 in
theorem specFallen_any (v : Value) (fs : List FileD) (kv : Value) (ks : List Int) (w : World) (h : FilesR w w.heap.size v fs) (hn : fs.length ≤ 1048576) (hk : IntsR w w.heap.size kv ks) :
    Calls Try.prog 38 #[.agg #[v], kv] w fun e w' => (∃ u, e = .returned (.agg #[u]) ∧ GivesD w (fallenR fs ks) u w') ∧ Below w.heap.size w w' := by
  have HN := Lib.hid hn
  clear hn
  have hh := h
  obtain ⟨Av, cv, rfl, hcv, hmv, hx⟩ := h
  obtain ⟨Ak, ck, rfl, hck, hmk, hy⟩ := hk
  unfold maxLen at hmv hmk
  have HX := Lib.hid hx
  have HY := Lib.hid hy
  clear hx hy
  by_cases hd : DiskP fs
  · have HD : Hid (DiskP fs) := hd
    have hlen4 : fs.length ≤ 4 := hd.1
    rw [fallenR_good hd]
    clear hd
    have hlowk := True.intro
    go_enter Try.func38, Try.ntmps38
    go_wp2_with fail
    refine (l29Copy_any _ fs _ (hh.go (box (box (bel0 w) _) _)) HN.out).mono ?_
    rintro e w1 ⟨⟨u, rfl, hown⟩, hb'⟩
    unfold GivesD at hown
    obtain ⟨A, c, rfl⟩ := own_form hown
    have hlow : Hid (∀ k, (Value.slice A fs.length c).ownBlock = some k → w.heap.size + 1 + 1 ≤ k ∧ k < w1.heap.size) := fun k hk => by have := World.ownsRow.lt hown k hk; simp at this; omega
    have hb1 := stp (box (box (bel0 w) _) _) hb'
    have kv1 := ((Kc.new rfl rfl : Kc (w.alloc (.cells #[.slice Av fs.length cv] 29)) ⟨w.heap.size, 0, none⟩ (.slice Av fs.length cv)).bx (.cells #[.slice none 0 0] 29)).go hb'
    have kr1 := (Kc.new (by simp) rfl : Kc ((w.alloc (.cells #[.slice Av fs.length cv] 29)).alloc (.cells #[.slice none 0 0] 29)) ⟨w.heap.size + 1, 0, none⟩ (.slice none 0 0)).go hb'
    have l0 : w.heap.size + 1 < w1.heap.size := Kc.lt kr1
    clear hb' hlowk
    have kv2 := kv1.bx (.cells #[.slice A fs.length c] 29)
    have kr2 := kr1.bx (.cells #[.slice A fs.length c] 29)
    have ko2 := (Kc.new rfl rfl : Kc (w1.alloc (.cells #[.slice A fs.length c] 29)) ⟨w1.heap.size, 0, none⟩ (.slice A fs.length c))
    have ho2 := ownsRow_base (hown.alloc (.cells #[.slice A fs.length c] 29)) (show w.heap.size + 1 + 1 ≤ _ by simp)
    clear hown kv1 kr1
    have HO2 : Hid ((w1.alloc (.cells #[.slice A fs.length c] 29)).ownsRow (w.heap.size + 1 + 1) 66 3 (.slice A fs.length c) fs.length ((fallTo fs ks 0).flatMap FileD.cells)) := by unfold Hid; rw [fallTo_zero]; exact ho2
    clear ho2
    go_wp2
    go_loopw [6] (fun i wr => ∃ k : Nat, k ≤ fs.length ∧ i = .int .i64 k ∧ Kc wr ⟨w.heap.size, 0, none⟩ (.slice Av fs.length cv) ∧ Kc wr ⟨w.heap.size + 1, 0, none⟩ (.slice none 0 0) ∧ Kc wr ⟨w1.heap.size, 0, none⟩ (.slice A fs.length c) ∧ w1.heap.size < wr.heap.size ∧ wr.ownsRow (w.heap.size + 1 + 1) 66 3 (.slice A fs.length c) fs.length ((fallTo fs ks k).flatMap FileD.cells) ∧ Below w.heap.size w wr) (fun i _ => fs.length - (intOf i).toNat)
    case atStart => exact ⟨0, by omega, rfl, kv2, kr2, ko2, by simp, HO2.out, box hb1 _⟩
    case round =>
      clear kv2 kr2 ko2 HO2 hb1
      obtain ⟨k, hk, rfl, kv, kr, ko, hsz, ho, hb⟩ := hrel
      have c1 := kv.1
      by_cases hlt : k < fs.length
      · have hk4 : k < 4 := by omega
        obtain ⟨_, _, _, hs0, hs1⟩ := HD.out.2 k hlt
        obtain ⟨r0, r1, r2⟩ := fallN_range (ks.getD k 0) hs0 hs1
        go_wp2_with fail
        refine (specDiskOk_any _ fs true (by simpa using HD.out) _ (hh.go hb)).mono ?_
        rintro e w2 ⟨rfl, hb'⟩
        have hb2 := stp hb hb'
        replace kv := kv.go hb'
        replace kr := kr.go hb'
        replace ko := ko.go hb'
        replace ho := ownsRow_below ho hb' (Nat.le_refl _)
        have hz2 := hb'.size
        clear hb' c1 hb
        obtain ⟨bb, o, cs, rfl, hbb, hcl, hcs, rfl, hok⟩ := HX.out k hlt
        have hcs' := hcs.keep (hb2.block bb hbb)
        have g0 := hcs'.c0
        have g1 := hcs'.c1
        have g2 := hcs'.c2
        have q1 : bb < w2.heap.size := Nat.lt_of_lt_of_le hbb hb2.size
        clear hcs hcs' hcl
        have c1 := kv.1
        have c2 := ko.1
        have l1 := kv.lt
        obtain ⟨q, eq⟩ : ∃ q : Int, ks.getD k 0 = q := ⟨_, rfl⟩
        obtain ⟨nn, en⟩ : ∃ nn : Int, fallN fs[k] q = nn := ⟨_, rfl⟩
        rw [eq, en] at r0 r1 r2
        have wr1 : IntKind.i64.wrap ((fs[k].text.size : Int) - fs[k].synced) = (fs[k].text.size : Int) - fs[k].synced := IntWalk.i64_in _ (by omega)
        have wr2 : IntKind.i64.wrap (fs[k].synced + (nn - fs[k].synced)) = nn := by rw [show fs[k].synced + (nn - fs[k].synced) = nn by omega]; exact IntWalk.i64_in _ (by omega)
        have HB : Hid (∀ W, Calls Try.prog 80 #[.int .i64 q, .int .i64 0, .int .i64 ((fs[k].text.size : Int) - fs[k].synced)] W fun e w' => e = .returned (.int .i64 (nn - fs[k].synced)) ∧ W = w') := fun W => specBrought_any q 0 _ _ (by
          rw [← en]
          unfold fallN
          by_cases hq0 : q < 0
          · rw [if_pos hq0, if_pos (.inr hq0)]; omega
          · have hq1 : ¬ ((fs[k].text.size : Int) - fs[k].synced < 0 ∨ q < 0) := by omega
            rw [if_neg hq0, if_neg hq1]
            split <;> omega) W
        have EN := Lib.hid en
        have EQ := Lib.hid eq
        clear en
        obtain ⟨g, rfl, hgb, hgl⟩ := own_some ho (by omega)
        obtain ⟨hlo, hhi⟩ := hlow.out g rfl
        by_cases hkk : k < ks.length
        · obtain ⟨bk, kk, cs', rfl, hbk, hkl, hcs', rfl, hkok⟩ := HY.out k hkk
          have g3 := (hcs'.keep (hb2.block bk hbk)).c0
          rw [Nat.mul_one] at g3
          have q3 : bk < w2.heap.size := Nat.lt_of_lt_of_le hbk hb2.size
          have ek : ks[k] = q := by rw [← eq, List.getD_eq_getElem?_getD, List.getElem?_eq_getElem hkk]; rfl
          rw [ek] at g3
          clear hcs' hkl ek eq
          go_wp2
          go_quiet ((go_at_call 80; exact quiet_left (HB.out _)))
          go_wp2
          have d0 := ho.frozenAt (k * 3)
          have d1 := ho.frozenAt (k * 3 + 1)
          have d2 := ho.frozenAt (k * 3 + 2)
          obtain ⟨u0, b0⟩ := own_cell ho (k * 3) (by omega)
          obtain ⟨u1, b1⟩ := own_cell ho (k * 3 + 1) (by omega)
          obtain ⟨u2, b2⟩ := own_cell ho (k * 3 + 2) (by omega)
          have l2 := ko.lt
          go_region
          go_wp2
          go_roundw
          case rel =>
            refine ⟨k + 1, by omega, by go_num, ?_, ?_, ?_, ?_, ?_, ?_⟩
            · exact ((((kv.bx _).dn _).other (show w.heap.size ≠ g by omega) _).other (show w.heap.size ≠ g by omega) _).other (show w.heap.size ≠ g by omega) _
            · exact ((((kr.bx _).dn _).other (show w.heap.size + 1 ≠ g by omega) _).other (show w.heap.size + 1 ≠ g by omega) _).other (show w.heap.size + 1 ≠ g by omega) _
            · exact ((((ko.bx _).dn _).other (show w1.heap.size ≠ g by omega) _).other (show w1.heap.size ≠ g by omega) _).other (show w1.heap.size ≠ g by omega) _
            · have := ko.lt
              simp
              omega
            · rw [← fall_step hlt EQ.out EN.out]
              exact (((own_dn (ho.alloc _) _).stored (k * 3) _).1.stored (k * 3 + 1) _).1.stored (k * 3 + 2) _ |>.1
            · exact put (put (put (drwN (box hb2 _) _) (show w.heap.size ≤ g by omega) _) (show w.heap.size ≤ g by omega) _) (show w.heap.size ≤ g by omega) _
          case measure => simp [intOf]; omega
        · have ek : q = 0 := by rw [← eq, List.getD_eq_getElem?_getD, List.getElem?_eq_none (by omega)]; rfl
          subst ek
          clear eq
          go_wp2
          go_quiet ((go_at_call 80; exact quiet_left (HB.out _)))
          go_wp2
          have d0 := ho.frozenAt (k * 3)
          have d1 := ho.frozenAt (k * 3 + 1)
          have d2 := ho.frozenAt (k * 3 + 2)
          obtain ⟨u0, b0⟩ := own_cell ho (k * 3) (by omega)
          obtain ⟨u1, b1⟩ := own_cell ho (k * 3 + 1) (by omega)
          obtain ⟨u2, b2⟩ := own_cell ho (k * 3 + 2) (by omega)
          have l2 := ko.lt
          go_region
          go_wp2
          go_roundw
          case rel =>
            refine ⟨k + 1, by omega, by go_num, ?_, ?_, ?_, ?_, ?_, ?_⟩
            · exact ((((kv.bx _).dn _).other (show w.heap.size ≠ g by omega) _).other (show w.heap.size ≠ g by omega) _).other (show w.heap.size ≠ g by omega) _
            · exact ((((kr.bx _).dn _).other (show w.heap.size + 1 ≠ g by omega) _).other (show w.heap.size + 1 ≠ g by omega) _).other (show w.heap.size + 1 ≠ g by omega) _
            · exact ((((ko.bx _).dn _).other (show w1.heap.size ≠ g by omega) _).other (show w1.heap.size ≠ g by omega) _).other (show w1.heap.size ≠ g by omega) _
            · have := ko.lt
              simp
              omega
            · rw [← fall_step hlt EQ.out EN.out]
              exact (((own_dn (ho.alloc _) _).stored (k * 3) _).1.stored (k * 3 + 1) _).1.stored (k * 3 + 2) _ |>.1
            · exact put (put (put (drwN (box hb2 _) _) (show w.heap.size ≤ g by omega) _) (show w.heap.size ≤ g by omega) _) (show w.heap.size ≤ g by omega) _
          case measure => simp [intOf]; omega
      · obtain rfl : k = fs.length := by omega
        have c2 := ko.1
        have c3 := kr.1
        have f3 := kr.2
        go_wp2
        refine bodyPost_ret (v := .agg #[.slice A fs.length c]) (by simp [results, Try.results38, go_sem, c3]) rfl ⟨⟨_, rfl, ?_⟩, put hb (by simp) _⟩
        unfold GivesD
        rw [fallTo_length]
        exact ownsRow_base (ownsRow_setCell_below ho (show w.heap.size + 1 < w.heap.size + 1 + 1 by omega) _) (show w.heap.size ≤ w.heap.size + 1 + 1 by omega)
  · have HD : Hid (¬ DiskP fs) := hd
    rw [fallenR_bad hd]
    clear hd
    have hlowk := True.intro
    go_enter Try.func38, Try.ntmps38
    go_wp2_with fail
    refine (l29Copy_any _ fs _ (hh.go (box (box (bel0 w) _) _)) HN.out).mono ?_
    rintro e w1 ⟨⟨u, rfl, hown⟩, hb'⟩
    unfold GivesD at hown
    obtain ⟨A, c, rfl⟩ := own_form hown
    have hlow : Hid (∀ k, (Value.slice A fs.length c).ownBlock = some k → w.heap.size + 1 + 1 ≤ k ∧ k < w1.heap.size) := fun k hk => by have := World.ownsRow.lt hown k hk; simp at this; omega
    have hb1 := stp (box (box (bel0 w) _) _) hb'
    have kv1 := ((Kc.new rfl rfl : Kc (w.alloc (.cells #[.slice Av fs.length cv] 29)) ⟨w.heap.size, 0, none⟩ (.slice Av fs.length cv)).bx (.cells #[.slice none 0 0] 29)).go hb'
    have kr1 := (Kc.new (by simp) rfl : Kc ((w.alloc (.cells #[.slice Av fs.length cv] 29)).alloc (.cells #[.slice none 0 0] 29)) ⟨w.heap.size + 1, 0, none⟩ (.slice none 0 0)).go hb'
    have l0 : w.heap.size + 1 < w1.heap.size := Kc.lt kr1
    clear hb' hlowk
    have kv2 := kv1.bx (.cells #[.slice A fs.length c] 29)
    have kr2 := kr1.bx (.cells #[.slice A fs.length c] 29)
    have ko2 := (Kc.new rfl rfl : Kc (w1.alloc (.cells #[.slice A fs.length c] 29)) ⟨w1.heap.size, 0, none⟩ (.slice A fs.length c))
    have ho2 := ownsRow_base (hown.alloc (.cells #[.slice A fs.length c] 29)) (show w.heap.size + 1 + 1 ≤ _ by simp)
    clear hown kv1 kr1
    have HO2 := Lib.hid ho2
    clear ho2
    go_wp2
    go_loopw [6] (fun i wr => i = .int .i64 ((0 : Nat) : Int) ∧ Kc wr ⟨w.heap.size, 0, none⟩ (.slice Av fs.length cv) ∧ Kc wr ⟨w.heap.size + 1, 0, none⟩ (.slice none 0 0) ∧ Kc wr ⟨w1.heap.size, 0, none⟩ (.slice A fs.length c) ∧ w1.heap.size < wr.heap.size ∧ wr.ownsRow (w.heap.size + 1 + 1) 66 3 (.slice A fs.length c) fs.length (fs.flatMap FileD.cells) ∧ Below w.heap.size w wr) (fun i _ => 1)
    case atStart => exact ⟨rfl, kv2, kr2, ko2, by simp, HO2.out, box hb1 _⟩
    case round =>
      clear kv2 kr2 ko2 HO2 hb1
      obtain ⟨rfl, kv, kr, ko, hsz, ho, hb⟩ := hrel
      have c1 := kv.1
      by_cases hlt : 0 < fs.length
      · go_wp2_with fail
        refine (specDiskOk_any _ fs false (by simpa using HD.out) _ (hh.go hb)).mono ?_
        rintro e w2 ⟨rfl, hb'⟩
        have hb2 := stp hb hb'
        replace kr := kr.go hb'
        replace ko := ko.go hb'
        replace ho := ownsRow_below ho hb' (Nat.le_refl _)
        have hz2 := hb'.size
        clear hb' c1
        have c2 := ko.1
        have c3 := kr.1
        have f3 := kr.2
        go_wp2
        refine bodyPost_ret (v := .agg #[.slice A fs.length c]) (by simp [results, Try.results38, go_sem, c3]) rfl ⟨⟨_, rfl, ?_⟩, put hb2 (by simp) _⟩
        exact ownsRow_base (ownsRow_setCell_below ho (show w.heap.size + 1 < w.heap.size + 1 + 1 by omega) _) (show w.heap.size ≤ w.heap.size + 1 + 1 by omega)
      · exact absurd ⟨by omega, fun i h => by omega⟩ HD.out

end Go.Proofs.Ytepachoampdhiaa
