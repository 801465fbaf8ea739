/- The law FnExactSavedTill: its walk. -/
import Derived.Test.YtepachoampdhiaaSavedTill
import Derived.Test.YtepachoampdhiaaGrown
import Derived.Test.YtepachoampdhiaaDiskB
namespace Go.Proofs.Ytepachoampdhiaa
open Go.RowKit

set_option maxRecDepth 100000 in
set_option maxHeartbeats 4000000 in
theorem lawSavedTill_any (v : Value) (fs : List FileD) (tx : ByteArray) (st : Int)  (w : World) (h : FilesR w w.heap.size v fs) (hok : ∀ f ∈ fs, f.ok) (htx : tx.size ≤ maxLen) (_hst : -9223372036854775808 ≤ st ∧ st ≤ 9223372036854775807) :
    Calls Try.prog 16 #[.agg #[v], .string tx, .int .i64 st] w fun e w' => e = .returned (.bool true) ∧ Below w.heap.size w w' := by
  have hs_tx := Lib.hid htx
  unfold maxLen at htx
  by_cases hNtx : tx.size ≤ 1048576
  rotate_left
  · go_enter Try.func16, Try.ntmps16
    go_wp2
    go_ret
    exact ⟨rfl, box (bel0 w) _⟩
  go_enter Try.func16, Try.ntmps16
  go_wp2_with fail
  refine (szDisk_any _ fs _ _ (h.go (box (bel0 w) _)) (by omega) (by omega)).mono ?_
  rintro e w1 ⟨⟨r, rfl, hr1, hr2⟩, hb'⟩
  have hb1 := stp (box (bel0 w) _) hb'
  have z1 := hb'.size
  rw [World.size_alloc] at z1
  have k_v := Kc.go (Kc.new rfl rfl : Kc (w.alloc (.cells #[v] 24)) ⟨w.heap.size, 0, none⟩ v) hb'
  clear hb'
  rcases hr2 with rfl | ⟨hr0, hr2⟩
  · go_wp2
    go_ret
    exact ⟨rfl, hb1⟩
  have hn : fs.length ≤ 1048576 := by omega
  have HN := Lib.hid hn
  have hRn := Lib.hid (savedR_len fs tx st hn)
  have hRk := Lib.hid (savedR_ok fs tx st hs_tx.out hok)
  clear hn hr2
  have c_v := k_v.1
  have l_v := k_v.lt
  go_wp2_with fail
  refine (toDisk_any _ fs _ (h.go (hb1)) HN.out).mono ?_
  rintro e w2 ⟨⟨u1, rfl, ho⟩, hb'⟩
  clear c_v l_v
  have hb2 := stp (hb1) hb'
  replace k_v := Kc.go (k_v) hb'
  have z2 := hb'.size
  clear hb'
  go_wp2_with fail
  refine (specSavedTill_any _ fs tx st _ (own_reads FileD.len ho (Nat.le_refl _) hok) HN.out hs_tx.out).mono ?_
  rintro e w3 ⟨⟨uw, rfl, hq⟩, hb'⟩
  unfold GivesD at hq
  obtain ⟨A_w, p_w, e_w⟩ := own_form hq
  subst e_w
  have i_w : Hid (∀ k, (Value.slice A_w (savedR fs tx st).1.length p_w).ownBlock = some k → w2.heap.size ≤ k ∧ k < w3.heap.size) := fun k hk => by have := World.ownsRow.lt hq k hk; omega
  clear ho
  have hb3 := stp (hb2) hb'
  replace k_v := Kc.go (k_v) hb'
  have z3 := hb'.size
  clear hb'
  have r_w := hq
  clear hq
  have c_v := k_v.1
  have l_v := k_v.lt
  go_wp2_with fail
  refine (toDisk_any _ fs _ (h.go (box hb3 _)) HN.out).mono ?_
  rintro e w4 ⟨⟨ux, rfl, ho⟩, hb'⟩
  clear c_v l_v
  have i_x : Hid (∀ k, ux.ownBlock = some k → w3.heap.size + 1 ≤ k ∧ k < w4.heap.size) := fun k hk => by have := World.ownsRow.lt ho k hk; rw [World.size_alloc] at this; omega
  have hb4 := stp (box hb3 _) hb'
  replace k_v := Kc.go (k_v.bx _) hb'
  replace r_w := ownsRow_below (r_w.alloc _) hb' (Nat.le_refl _)
  have k_w := Kc.go (Kc.new rfl rfl : Kc (w3.alloc (.cells #[.slice A_w (savedR fs tx st).1.length p_w] 29)) ⟨w3.heap.size, 0, none⟩ (.slice A_w (savedR fs tx st).1.length p_w)) hb'
  have z4 := hb'.size
  rw [World.size_alloc] at z4
  clear hb'
  have r_x := ho
  clear ho
  obtain ⟨A_x, p_x, e_x⟩ := own_form r_x
  subst e_x
  have c_v := k_v.1
  have c_w := k_w.1
  have l_v := k_v.lt
  have l_w := k_w.lt
  go_wp2_with fail
  refine (implSavedTill_any _ fs tx st _ (own_reads FileD.len (r_x.alloc _) (Nat.le_refl _) hok) HN.out hs_tx.out).mono ?_
  rintro e w5 ⟨⟨ug, rfl, hq⟩, hb'⟩
  clear c_v c_w l_v l_w
  unfold GivesD at hq
  obtain ⟨A_g, p_g, e_g⟩ := own_form hq
  subst e_g
  have i_g : Hid (∀ k, (Value.slice A_g (savedR fs tx st).1.length p_g).ownBlock = some k → w4.heap.size + 1 ≤ k ∧ k < w5.heap.size) := fun k hk => by have := World.ownsRow.lt hq k hk; rw [World.size_alloc] at this; omega
  have hb5 := stp (box hb4 _) hb'
  replace k_v := Kc.go (k_v.bx _) hb'
  replace k_w := Kc.go (k_w.bx _) hb'
  replace r_w := ownsRow_below (r_w.alloc _) hb' (Nat.le_refl _)
  replace r_x := ownsRow_below (r_x.alloc _) hb' (Nat.le_refl _)
  have k_x := Kc.go (Kc.new rfl rfl : Kc (w4.alloc (.cells #[.slice A_x fs.length p_x] 29)) ⟨w4.heap.size, 0, none⟩ (.slice A_x fs.length p_x)) hb'
  have z5 := hb'.size
  rw [World.size_alloc] at z5
  clear hb'
  have r_g := hq
  clear hq
  have c_v := k_v.1
  have c_w := k_w.1
  have l_v := k_v.lt
  have l_w := k_w.lt
  go_wp2_with fail
  refine (eqDisk_same _ _ (savedR fs tx st).1 _ (own_reads FileD.len (r_g.alloc _) (Nat.le_refl _) hRk.out) (own_reads FileD.len (r_w.alloc _) (Nat.le_refl _) hRk.out)).mono ?_
  rintro e w6 ⟨rfl, hb'⟩
  clear c_v c_w l_v l_w
  have hb6 := stp (box hb5 _) hb'
  replace k_v := Kc.go (k_v.bx _) hb'
  replace k_w := Kc.go (k_w.bx _) hb'
  replace k_x := Kc.go (k_x.bx _) hb'
  replace r_w := ownsRow_below (r_w.alloc _) hb' (Nat.le_refl _)
  replace r_x := ownsRow_below (r_x.alloc _) hb' (Nat.le_refl _)
  replace r_g := ownsRow_below (r_g.alloc _) hb' (Nat.le_refl _)
  have k_g := Kc.go (Kc.new rfl rfl : Kc (w5.alloc (.cells #[.slice A_g (savedR fs tx st).1.length p_g] 29)) ⟨w5.heap.size, 0, none⟩ (.slice A_g (savedR fs tx st).1.length p_g)) hb'
  have z6 := hb'.size
  rw [World.size_alloc] at z6
  clear hb'
  have c_v := k_v.1
  have c_w := k_w.1
  have c_x := k_x.1
  have c_g := k_g.1
  have l_v := k_v.lt
  have l_w := k_w.lt
  have l_x := k_x.lt
  have l_g := k_g.lt
  go_wp2
  have fr := h.go (drw hb6)
  have ex := own_reads FileD.len r_x.drew (Nat.le_refl _) hok
  go_region_held3 (fun W => W.cell? ⟨w.heap.size, 0, none⟩ = some v ∧ W.cell? ⟨w4.heap.size, 0, none⟩ = some (.slice A_x fs.length p_x)) (first | exact ⟨keepc ‹_› c_v, keepc ‹_› c_x⟩ | exact ⟨keepc ‹_› c6, keepc ‹_› d6⟩ | go_keep)
    (first | (go_at_call 20; refine (toDisk_any _ fs _ fr HN.out).mono ?_; rintro e w7 ⟨⟨u7, rfl, ho7⟩, hb7'⟩; have c6 := keepc hb7' c_v; have d6 := keepc hb7' c_x) | (go_at_call 22; refine (eqDisk_same _ _ fs _ (ex.go hb7') (own_reads FileD.len ho7 (Nat.le_refl _) hok)).mono ?_; rintro e w8 ⟨rfl, hb8'⟩))
  clear c6 d6 ex fr ho7
  have hbq := (drw (bel0 w6)); have hbr := hbq.trans (hb7'.mono (Nat.le_refl _)); have hb' := stp hbr hb8'
  clear hbq hbr hb7' hb8'
  clear c_v c_w c_x c_g l_v l_w l_x l_g
  have hb8 := stp (hb6) hb'
  replace k_v := Kc.go (k_v) hb'
  replace k_w := Kc.go (k_w) hb'
  replace k_x := Kc.go (k_x) hb'
  replace k_g := Kc.go (k_g) hb'
  replace r_w := ownsRow_below (r_w) hb' (Nat.le_refl _)
  replace r_x := ownsRow_below (r_x) hb' (Nat.le_refl _)
  replace r_g := ownsRow_below (r_g) hb' (Nat.le_refl _)
  have z8 := hb'.size
  clear hb'
  have hx1 : Hid ((1 : Int) + 3 * (fs.length : Int) ≤ 100000000000) := by have := HN.out; unfold Hid; omega
  have hg1 : Hid ((1 : Int) + 3 * ((savedR fs tx st).1.length : Int) ≤ 100000000000) := by have := hRn.out; unfold Hid; omega
  have hx2 : (0 : Int) ≤ 1 + 3 * (fs.length : Int) := by omega
  have hg2 : (0 : Int) ≤ 1 + 3 * ((savedR fs tx st).1.length : Int) := by omega
  have c_v := k_v.1
  have c_w := k_w.1
  have c_x := k_x.1
  have c_g := k_g.1
  have l_v := k_v.lt
  have l_w := k_w.lt
  have l_x := k_x.lt
  have l_g := k_g.lt
  go_wp2_with fail
  refine (markDisk_any _ _ _ _ 1 _ r_x (by omega) hx1.out).mono ?_
  rintro e w9 ⟨rfl, hr, hg⟩
  clear c_v c_w c_x c_g l_v l_w l_x l_g
  have hb9 := bel_grown hb8 hg (fun k hk => by have := i_x.out k hk; omega)
  replace k_v := Kc.grown k_v hg (fun k hk => by have := i_x.out k hk; omega)
  replace k_w := Kc.grown k_w hg (fun k hk => by have := i_x.out k hk; omega)
  replace k_x := Kc.grown k_x hg (fun k hk => by have := i_x.out k hk; omega)
  replace k_g := Kc.grown k_g hg (fun k hk => by have := i_x.out k hk; omega)
  replace r_w := own_far r_w hg (fun k j hk hj => by have := i_x.out k hk; have := i_w.out j hj; omega)
  replace r_g := own_far r_g hg (fun k j hk hj => by have := i_x.out k hk; have := i_g.out j hj; omega)
  have z9 := hg.size
  replace r_x := hr
  clear hg hr
  have c_v := k_v.1
  have c_g := k_g.1
  have c_w := k_w.1
  have l_v := k_v.lt
  have l_g := k_g.lt
  have l_w := k_w.lt
  go_wp2_with fail
  refine (eqDisk_same _ _ (savedR fs tx st).1 _ (own_reads FileD.len (r_g) (Nat.le_refl _) hRk.out) (own_reads FileD.len (r_w) (Nat.le_refl _) hRk.out)).mono ?_
  rintro e w10 ⟨rfl, hb'⟩
  clear c_v c_g c_w l_v l_g l_w
  have hb10 := stp (hb9) hb'
  replace k_v := Kc.go (k_v) hb'
  replace k_w := Kc.go (k_w) hb'
  replace k_x := Kc.go (k_x) hb'
  replace k_g := Kc.go (k_g) hb'
  replace r_w := ownsRow_below (r_w) hb' (Nat.le_refl _)
  replace r_x := ownsRow_below (r_x) hb' (Nat.le_refl _)
  replace r_g := ownsRow_below (r_g) hb' (Nat.le_refl _)
  have z10 := hb'.size
  clear hb'
  have c_v := k_v.1
  have c_w := k_w.1
  have c_x := k_x.1
  have c_g := k_g.1
  have l_v := k_v.lt
  have l_w := k_w.lt
  have l_x := k_x.lt
  have l_g := k_g.lt
  go_wp2_with fail
  refine (markDisk_any _ _ _ _ 1 _ r_g (by omega) hg1.out).mono ?_
  rintro e w11 ⟨rfl, hr, hg⟩
  clear c_v c_w c_x c_g l_v l_w l_x l_g
  have hb11 := bel_grown hb10 hg (fun k hk => by have := i_g.out k hk; omega)
  replace k_v := Kc.grown k_v hg (fun k hk => by have := i_g.out k hk; omega)
  replace k_w := Kc.grown k_w hg (fun k hk => by have := i_g.out k hk; omega)
  replace k_x := Kc.grown k_x hg (fun k hk => by have := i_g.out k hk; omega)
  replace k_g := Kc.grown k_g hg (fun k hk => by have := i_g.out k hk; omega)
  replace r_w := own_far r_w hg (fun k j hk hj => by have := i_g.out k hk; have := i_w.out j hj; omega)
  replace r_x := own_far r_x hg (fun k j hk hj => by have := i_g.out k hk; have := i_x.out j hj; omega)
  have z11 := hg.size
  replace r_g := hr
  clear hg hr
  have c_v := k_v.1
  have c_w := k_w.1
  have c_x := k_x.1
  have c_g := k_g.1
  have l_v := k_v.lt
  have l_w := k_w.lt
  have l_x := k_x.lt
  have l_g := k_g.lt
  go_wp2_with fail
  refine (heldDisk_any _ _ _ 1 _ r_g (by omega) hg1.out).mono ?_
  rintro e w12 ⟨rfl, hb'⟩
  clear c_v c_w c_x c_g l_v l_w l_x l_g
  have hb12 := stp (hb11) hb'
  replace k_v := Kc.go (k_v) hb'
  replace k_w := Kc.go (k_w) hb'
  replace k_x := Kc.go (k_x) hb'
  replace k_g := Kc.go (k_g) hb'
  replace r_w := ownsRow_below (r_w) hb' (Nat.le_refl _)
  replace r_x := ownsRow_below (r_x) hb' (Nat.le_refl _)
  replace r_g := ownsRow_below (r_g) hb' (Nat.le_refl _)
  have z12 := hb'.size
  clear hb'
  have c_v := k_v.1
  have l_v := k_v.lt
  go_wp2_with fail
  refine (toDisk_any _ fs _ (h.go (hb12)) HN.out).mono ?_
  rintro e w13 ⟨⟨u13, rfl, ho⟩, hb'⟩
  clear c_v l_v
  have hb13 := stp (hb12) hb'
  replace k_v := Kc.go (k_v) hb'
  replace k_w := Kc.go (k_w) hb'
  replace k_x := Kc.go (k_x) hb'
  replace k_g := Kc.go (k_g) hb'
  replace r_w := ownsRow_below (r_w) hb' (Nat.le_refl _)
  replace r_x := ownsRow_below (r_x) hb' (Nat.le_refl _)
  replace r_g := ownsRow_below (r_g) hb' (Nat.le_refl _)
  have z13 := hb'.size
  clear hb'
  go_wp2_with fail
  refine (implSavedTill_any _ fs tx st _ (own_reads FileD.len ho (Nat.le_refl _) hok) HN.out hs_tx.out).mono ?_
  rintro e w14 ⟨⟨uh, rfl, hq⟩, hb'⟩
  unfold GivesD at hq
  obtain ⟨A_h, p_h, e_h⟩ := own_form hq
  subst e_h
  have i_h : Hid (∀ k, (Value.slice A_h (savedR fs tx st).1.length p_h).ownBlock = some k → w13.heap.size ≤ k ∧ k < w14.heap.size) := fun k hk => by have := World.ownsRow.lt hq k hk; omega
  clear ho
  have hb14 := stp (hb13) hb'
  replace k_v := Kc.go (k_v) hb'
  replace k_w := Kc.go (k_w) hb'
  replace k_x := Kc.go (k_x) hb'
  replace k_g := Kc.go (k_g) hb'
  replace r_w := ownsRow_below (r_w) hb' (Nat.le_refl _)
  replace r_x := ownsRow_below (r_x) hb' (Nat.le_refl _)
  replace r_g := ownsRow_below (r_g) hb' (Nat.le_refl _)
  have z14 := hb'.size
  clear hb'
  have r_h := hq
  clear hq
  have c_v := k_v.1
  have c_w := k_w.1
  have l_v := k_v.lt
  have l_w := k_w.lt
  go_wp2_with fail
  refine (eqDisk_same _ _ (savedR fs tx st).1 _ (own_reads FileD.len (r_h.alloc _) (Nat.le_refl _) hRk.out) (own_reads FileD.len (r_w.alloc _) (Nat.le_refl _) hRk.out)).mono ?_
  rintro e w15 ⟨rfl, hb'⟩
  clear c_v c_w l_v l_w
  have hb15 := stp (box hb14 _) hb'
  replace k_v := Kc.go (k_v.bx _) hb'
  replace k_w := Kc.go (k_w.bx _) hb'
  replace k_x := Kc.go (k_x.bx _) hb'
  replace k_g := Kc.go (k_g.bx _) hb'
  replace r_w := ownsRow_below (r_w.alloc _) hb' (Nat.le_refl _)
  replace r_x := ownsRow_below (r_x.alloc _) hb' (Nat.le_refl _)
  replace r_g := ownsRow_below (r_g.alloc _) hb' (Nat.le_refl _)
  replace r_h := ownsRow_below (r_h.alloc _) hb' (Nat.le_refl _)
  have k_h := Kc.go (Kc.new rfl rfl : Kc (w14.alloc (.cells #[.slice A_h (savedR fs tx st).1.length p_h] 29)) ⟨w14.heap.size, 0, none⟩ (.slice A_h (savedR fs tx st).1.length p_h)) hb'
  have z15 := hb'.size
  rw [World.size_alloc] at z15
  clear hb'
  have c_v := k_v.1
  have c_w := k_w.1
  have c_x := k_x.1
  have c_g := k_g.1
  have l_v := k_v.lt
  have l_w := k_w.lt
  have l_x := k_x.lt
  have l_g := k_g.lt
  go_wp2_with fail
  refine (heldDisk_any _ _ _ 1 _ r_g (by omega) hg1.out).mono ?_
  rintro e w16 ⟨rfl, hb'⟩
  clear c_v c_w c_x c_g l_v l_w l_x l_g
  have hb16 := stp (hb15) hb'
  replace k_v := Kc.go (k_v) hb'
  replace k_w := Kc.go (k_w) hb'
  replace k_x := Kc.go (k_x) hb'
  replace k_g := Kc.go (k_g) hb'
  replace k_h := Kc.go (k_h) hb'
  replace r_w := ownsRow_below (r_w) hb' (Nat.le_refl _)
  replace r_x := ownsRow_below (r_x) hb' (Nat.le_refl _)
  replace r_g := ownsRow_below (r_g) hb' (Nat.le_refl _)
  replace r_h := ownsRow_below (r_h) hb' (Nat.le_refl _)
  have z16 := hb'.size
  clear hb'
  go_wp2
  go_ret
  exact ⟨rfl, hb16⟩
end Go.Proofs.Ytepachoampdhiaa
