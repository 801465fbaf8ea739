/- Clusters that are being built: rows whose slices belong to them. -/
import Derived.Test.YtemaanibghedlaaGreatAwTr
import Derived.Test.YtemaanibghedlaaGreatClDefs
namespace Go.Proofs.YtemaanibghedlaaGreat
open Go.RowKit

theorem tp_in1 {c : D} (h : c.tp = true) (p : Nat → Bool) : D.in1 p c = true := by cases c <;> first | rfl | cases h
theorem tp_ren1 {c : D} (h : c.tp = true) (f : Nat → Nat) : D.ren1 f c = c := by cases c <;> first | rfl | cases h
theorem tp_frz1 {c : D} (h : c.tp = true) (i : Nat) (x : Ob) : D.frz1 i x c = c := by cases c <;> first | rfl | cases h
theorem tp_lt1 {c : D} (h : c.tp = true) (n : Nat) : D.lt1 n c = true := by cases c <;> first | rfl | cases h
theorem tp_abs1 {c : D} (h : c.tp = true) (i : Nat) (x : Ob) : D.abs1 i x c = c := by cases c <;> first | rfl | cases h
theorem all_to {p q : D → Bool} {cs : List D} (h : cs.all p = true) (hq : ∀ d, p d = true → q d = true) : cs.all q = true := List.all_eq_true.2 fun d hd => hq d (List.all_eq_true.1 h d hd)
theorem map_same {p : D → Bool} {cs : List D} {f : D → D} (h : cs.all p = true) (hf : ∀ d, p d = true → f d = d) : cs.map f = cs := by
  have : cs.map f = cs.map id := List.map_congr_left fun d hd => hf d (List.all_eq_true.1 h d hd)
  rw [this, List.map_id]
theorem tps_in {cs : List D} (h : cs.all D.tp = true) (p : Nat → Bool) : cs.all (D.in1 p) = true := all_to h fun _ h => tp_in1 h p
theorem tps_lt {cs : List D} (h : cs.all D.tp = true) (n : Nat) : cs.all (D.lt1 n) = true := all_to h fun _ h => tp_lt1 h n
theorem tps_ren {cs : List D} (h : cs.all D.tp = true) (f : Nat → Nat) : cs.map (D.ren1 f) = cs := map_same h fun _ h => tp_ren1 h f
theorem tps_frz {cs : List D} (h : cs.all D.tp = true) (i : Nat) (x : Ob) : cs.map (D.frz1 i x) = cs := map_same h fun _ h => tp_frz1 h i x
theorem tps_abs {cs : List D} (h : cs.all D.tp = true) (i : Nat) (x : Ob) : cs.map (D.abs1 i x) = cs := map_same h fun _ h => tp_abs1 h i x
theorem own1_all {cs : List D} (h : cs.all D.tp = true) (i n k : Nat) : own1 i n cs k = (k == 1) := by
  have := own1_tp (i := i) (n := n) h [] k
  rwa [List.append_nil] at this
theorem colds_nt {cs : List D} (h : cs.all D.nt = true) : D.colds cs = cs := by rw [colds_map]; exact map_same h fun _ h => cold_nt h
theorem flat_tp {α : Type} {cells : α → List D} (h1 : ∀ x, (cells x).all D.tp = true) (xs : List α) : (flatD cells xs).all D.tp = true := by
  unfold flatD
  refine List.all_eq_true.2 fun d hd => ?_
  obtain ⟨x, _, hx⟩ := List.mem_flatMap.1 hd
  exact List.all_eq_true.1 (h1 x) d hx
theorem flat_cold {α : Type} {cells cells' : α → List D} (h : ∀ x, D.colds (cells x) = cells' x) : ∀ xs : List α, D.colds (flatD cells xs) = flatD cells' xs
  | [] => colds_nil
  | x :: r => by
    show D.colds (cells x ++ flatD cells r) = cells' x ++ flatD cells' r
    rw [colds_app, h x, flat_cold h r]
theorem strsD_tp (xs : List ByteArray) : (strsD xs).all D.tp = true := by simp [strsD, D.tp]
theorem strsD_nt (xs : List ByteArray) : (strsD xs).all D.nt = true := by simp [strsD, D.nt]
theorem intsD_tp (xs : List Int) : (intsD xs).all D.tp = true := by simp [intsD, D.tp]
theorem intsD_nt (xs : List Int) : (intsD xs).all D.nt = true := by simp [intsD, D.nt]
theorem u8D_tp (xs : List Int) : (u8D xs).all D.tp = true := by simp [u8D, D.tp]
theorem u8D_nt (xs : List Int) : (u8D xs).all D.nt = true := by simp [u8D, D.nt]
theorem rps_nt {cs : List D} (h : cs.all D.rp = true) : cs.all D.nt = true := all_to h fun d h => by cases d <;> first | rfl | cases h

theorem labelsD_one (xs : List LabelD) (ke0 : ByteArray) (va1 : ByteArray) : labelsD xs ++ [.sc (.string ke0), .sc (.string va1)] = labelsD (xs ++ [⟨ke0, va1⟩]) := (flat_snoc xs (⟨ke0, va1⟩ : LabelD)).symm
theorem labelsD_tp (xs : List LabelD) : (labelsD xs).all D.tp = true := flat_tp (fun _ => rfl) xs
theorem taintsD_one (xs : List TaintD) (ke0 : ByteArray) (va1 : ByteArray) (ef2 : Int) : taintsD xs ++ [.sc (.string ke0), .sc (.string va1), .sc (.int .i64 ef2)] = taintsD (xs ++ [⟨ke0, va1, ef2⟩]) := (flat_snoc xs (⟨ke0, va1, ef2⟩ : TaintD)).symm
theorem taintsD_tp (xs : List TaintD) : (taintsD xs).all D.tp = true := flat_tp (fun _ => rfl) xs
theorem tolersD_one (xs : List TolerD) (ke0 : ByteArray) (eq1 : Bool) (va2 : ByteArray) (ef3 : Int) : tolersD xs ++ [.sc (.string ke0), .sc (.bool eq1), .sc (.string va2), .sc (.int .i64 ef3)] = tolersD (xs ++ [⟨ke0, eq1, va2, ef3⟩]) := (flat_snoc xs (⟨ke0, eq1, va2, ef3⟩ : TolerD)).symm
theorem tolersD_tp (xs : List TolerD) : (tolersD xs).all D.tp = true := flat_tp (fun _ => rfl) xs
theorem needsD_one (xs : List NeedD) (ke0 : ByteArray) (op1 : Int) (va2 : List ByteArray) : needsD xs ++ [.sc (.string ke0), .sc (.int .i64 op1), .sl va2.length (strsD va2)] = needsD (xs ++ [⟨ke0, op1, va2⟩]) := (flat_snoc xs (⟨ke0, op1, va2⟩ : NeedD)).symm
theorem needsD_nt (xs : List NeedD) : (needsD xs).all D.nt = true := rps_nt (needsD_rp xs)
def needCellsT (x : NeedD) : List D := [.sc (.string x.key), .sc (.int .i64 x.op), .tr 9 1 x.values.length (strsD x.values)]
def needsT (xs : List NeedD) : List D := flatD needCellsT xs
theorem needCellsT_len (x : NeedD) : (needCellsT x).length = 3 := rfl
theorem needsT_len (xs : List NeedD) : (needsT xs).length = xs.length * 3 := flat_len needCellsT_len xs
theorem needsT_nil : needsT [] = [] := rfl
theorem needsT_cold (xs : List NeedD) : D.colds (needsT xs) = needsD xs := flat_cold (cells' := needCells) (fun x => by simp [needCellsT, needCells, colds_cons, colds_nil, cold_sc, cold_tr, colds_nt (strsD_nt _)]) xs
theorem needsT_f0 (xs : List NeedD) (k : Nat) (h : k < xs.length) : (needsT xs)[k * 3]? = some (.sc (.string (xs.getD k default).key)) := (flat_cell needCellsT_len xs k 0 h (by decide) : _)
theorem needsT_f1 (xs : List NeedD) (k : Nat) (h : k < xs.length) : (needsT xs)[k * 3 + 1]? = some (.sc (.int .i64 (xs.getD k default).op)) := (flat_cell needCellsT_len xs k 1 h (by decide) : _)
theorem needsT_f2 (xs : List NeedD) (k : Nat) (h : k < xs.length) : (needsT xs)[k * 3 + 2]? = some (.tr 9 1 (xs.getD k default).values.length (strsD (xs.getD k default).values)) := (flat_cell needCellsT_len xs k 2 h (by decide) : _)
theorem needsT_one (xs : List NeedD) (ke0 : ByteArray) (op1 : Int) (va2 : List ByteArray) : needsT xs ++ [.sc (.string ke0), .sc (.int .i64 op1), .tr 9 1 va2.length (strsD va2)] = needsT (xs ++ [⟨ke0, op1, va2⟩]) := (flat_snoc xs (⟨ke0, op1, va2⟩ : NeedD)).symm
theorem needsT_tp (xs : List NeedD) : (needsT xs).all D.tp = true := flat_tp (fun _ => rfl) xs
theorem hostsD_one (xs : List HostD) (na0 : ByteArray) (la1 : List LabelD) (cp2 : Int) (me3 : Int) (sl4 : Int) (ta5 : List TaintD) : hostsD xs ++ [.sc (.string na0), .sl la1.length (labelsD la1), .sc (.int .i64 cp2), .sc (.int .i64 me3), .sc (.int .i64 sl4), .sl ta5.length (taintsD ta5)] = hostsD (xs ++ [⟨na0, la1, cp2, me3, sl4, ta5⟩]) := (flat_snoc xs (⟨na0, la1, cp2, me3, sl4, ta5⟩ : HostD)).symm
theorem hostsD_nt (xs : List HostD) : (hostsD xs).all D.nt = true := rps_nt (hostsD_rp xs)
def hostCellsT (x : HostD) : List D := [.sc (.string x.name), .tr 154 2 x.labels.length (labelsD x.labels), .sc (.int .i64 x.cpu), .sc (.int .i64 x.mem), .sc (.int .i64 x.slots), .tr 186 3 x.taints.length (taintsD x.taints)]
def hostsT (xs : List HostD) : List D := flatD hostCellsT xs
theorem hostCellsT_len (x : HostD) : (hostCellsT x).length = 6 := rfl
theorem hostsT_len (xs : List HostD) : (hostsT xs).length = xs.length * 6 := flat_len hostCellsT_len xs
theorem hostsT_nil : hostsT [] = [] := rfl
theorem hostsT_cold (xs : List HostD) : D.colds (hostsT xs) = hostsD xs := flat_cold (cells' := hostCells) (fun x => by simp [hostCellsT, hostCells, colds_cons, colds_nil, cold_sc, cold_tr, colds_nt (rps_nt (labelsD_rp _)), colds_nt (rps_nt (taintsD_rp _))]) xs
theorem hostsT_f0 (xs : List HostD) (k : Nat) (h : k < xs.length) : (hostsT xs)[k * 6]? = some (.sc (.string (xs.getD k default).name)) := (flat_cell hostCellsT_len xs k 0 h (by decide) : _)
theorem hostsT_f1 (xs : List HostD) (k : Nat) (h : k < xs.length) : (hostsT xs)[k * 6 + 1]? = some (.tr 154 2 (xs.getD k default).labels.length (labelsD (xs.getD k default).labels)) := (flat_cell hostCellsT_len xs k 1 h (by decide) : _)
theorem hostsT_f2 (xs : List HostD) (k : Nat) (h : k < xs.length) : (hostsT xs)[k * 6 + 2]? = some (.sc (.int .i64 (xs.getD k default).cpu)) := (flat_cell hostCellsT_len xs k 2 h (by decide) : _)
theorem hostsT_f3 (xs : List HostD) (k : Nat) (h : k < xs.length) : (hostsT xs)[k * 6 + 3]? = some (.sc (.int .i64 (xs.getD k default).mem)) := (flat_cell hostCellsT_len xs k 3 h (by decide) : _)
theorem hostsT_f4 (xs : List HostD) (k : Nat) (h : k < xs.length) : (hostsT xs)[k * 6 + 4]? = some (.sc (.int .i64 (xs.getD k default).slots)) := (flat_cell hostCellsT_len xs k 4 h (by decide) : _)
theorem hostsT_f5 (xs : List HostD) (k : Nat) (h : k < xs.length) : (hostsT xs)[k * 6 + 5]? = some (.tr 186 3 (xs.getD k default).taints.length (taintsD (xs.getD k default).taints)) := (flat_cell hostCellsT_len xs k 5 h (by decide) : _)
theorem hostsT_one (xs : List HostD) (na0 : ByteArray) (la1 : List LabelD) (cp2 : Int) (me3 : Int) (sl4 : Int) (ta5 : List TaintD) : hostsT xs ++ [.sc (.string na0), .tr 154 2 la1.length (labelsD la1), .sc (.int .i64 cp2), .sc (.int .i64 me3), .sc (.int .i64 sl4), .tr 186 3 ta5.length (taintsD ta5)] = hostsT (xs ++ [⟨na0, la1, cp2, me3, sl4, ta5⟩]) := (flat_snoc xs (⟨na0, la1, cp2, me3, sl4, ta5⟩ : HostD)).symm
theorem hostsT_tp (xs : List HostD) : (hostsT xs).all D.tp = true := flat_tp (fun _ => rfl) xs
theorem placedsD_one (xs : List PlacedD) (na0 : ByteArray) (la1 : List LabelD) (cp2 : Int) (me3 : Int) (ra4 : Int) (ne5 : List NeedD) (to6 : List TolerD) (on7 : ByteArray) (se8 : Int) : placedsD xs ++ [.sc (.string na0), .sl la1.length (labelsD la1), .sc (.int .i64 cp2), .sc (.int .i64 me3), .sc (.int .i64 ra4), .sl ne5.length (needsD ne5), .sl to6.length (tolersD to6), .sc (.string on7), .sc (.int .i64 se8)] = placedsD (xs ++ [⟨⟨na0, la1, cp2, me3, ra4, ne5, to6⟩, on7, se8⟩]) := (flat_snoc xs (⟨⟨na0, la1, cp2, me3, ra4, ne5, to6⟩, on7, se8⟩ : PlacedD)).symm
theorem placedsD_nt (xs : List PlacedD) : (placedsD xs).all D.nt = true := rps_nt (placedsD_rp xs)
def placedCellsT (x : PlacedD) : List D := [.sc (.string x.pod.name), .tr 154 2 x.pod.labels.length (labelsD x.pod.labels), .sc (.int .i64 x.pod.cpu), .sc (.int .i64 x.pod.mem), .sc (.int .i64 x.pod.rank), .tr 96 3 x.pod.needs.length (needsT x.pod.needs), .tr 188 4 x.pod.tolers.length (tolersD x.pod.tolers), .sc (.string x.on), .sc (.int .i64 x.seq)]
def placedsT (xs : List PlacedD) : List D := flatD placedCellsT xs
theorem placedCellsT_len (x : PlacedD) : (placedCellsT x).length = 9 := rfl
theorem placedsT_len (xs : List PlacedD) : (placedsT xs).length = xs.length * 9 := flat_len placedCellsT_len xs
theorem placedsT_nil : placedsT [] = [] := rfl
theorem placedsT_cold (xs : List PlacedD) : D.colds (placedsT xs) = placedsD xs := flat_cold (cells' := placedCells) (fun x => by simp [placedCellsT, placedCells, colds_cons, colds_nil, cold_sc, cold_tr, colds_nt (rps_nt (labelsD_rp _)), colds_nt (rps_nt (tolersD_rp _)), needsT_cold]) xs
theorem placedsT_f0 (xs : List PlacedD) (k : Nat) (h : k < xs.length) : (placedsT xs)[k * 9]? = some (.sc (.string (xs.getD k default).pod.name)) := (flat_cell placedCellsT_len xs k 0 h (by decide) : _)
theorem placedsT_f1 (xs : List PlacedD) (k : Nat) (h : k < xs.length) : (placedsT xs)[k * 9 + 1]? = some (.tr 154 2 (xs.getD k default).pod.labels.length (labelsD (xs.getD k default).pod.labels)) := (flat_cell placedCellsT_len xs k 1 h (by decide) : _)
theorem placedsT_f2 (xs : List PlacedD) (k : Nat) (h : k < xs.length) : (placedsT xs)[k * 9 + 2]? = some (.sc (.int .i64 (xs.getD k default).pod.cpu)) := (flat_cell placedCellsT_len xs k 2 h (by decide) : _)
theorem placedsT_f3 (xs : List PlacedD) (k : Nat) (h : k < xs.length) : (placedsT xs)[k * 9 + 3]? = some (.sc (.int .i64 (xs.getD k default).pod.mem)) := (flat_cell placedCellsT_len xs k 3 h (by decide) : _)
theorem placedsT_f4 (xs : List PlacedD) (k : Nat) (h : k < xs.length) : (placedsT xs)[k * 9 + 4]? = some (.sc (.int .i64 (xs.getD k default).pod.rank)) := (flat_cell placedCellsT_len xs k 4 h (by decide) : _)
theorem placedsT_f5 (xs : List PlacedD) (k : Nat) (h : k < xs.length) : (placedsT xs)[k * 9 + 5]? = some (.tr 96 3 (xs.getD k default).pod.needs.length (needsT (xs.getD k default).pod.needs)) := (flat_cell placedCellsT_len xs k 5 h (by decide) : _)
theorem placedsT_f6 (xs : List PlacedD) (k : Nat) (h : k < xs.length) : (placedsT xs)[k * 9 + 6]? = some (.tr 188 4 (xs.getD k default).pod.tolers.length (tolersD (xs.getD k default).pod.tolers)) := (flat_cell placedCellsT_len xs k 6 h (by decide) : _)
theorem placedsT_f7 (xs : List PlacedD) (k : Nat) (h : k < xs.length) : (placedsT xs)[k * 9 + 7]? = some (.sc (.string (xs.getD k default).on)) := (flat_cell placedCellsT_len xs k 7 h (by decide) : _)
theorem placedsT_f8 (xs : List PlacedD) (k : Nat) (h : k < xs.length) : (placedsT xs)[k * 9 + 8]? = some (.sc (.int .i64 (xs.getD k default).seq)) := (flat_cell placedCellsT_len xs k 8 h (by decide) : _)
theorem placedsT_one (xs : List PlacedD) (na0 : ByteArray) (la1 : List LabelD) (cp2 : Int) (me3 : Int) (ra4 : Int) (ne5 : List NeedD) (to6 : List TolerD) (on7 : ByteArray) (se8 : Int) : placedsT xs ++ [.sc (.string na0), .tr 154 2 la1.length (labelsD la1), .sc (.int .i64 cp2), .sc (.int .i64 me3), .sc (.int .i64 ra4), .tr 96 3 ne5.length (needsT ne5), .tr 188 4 to6.length (tolersD to6), .sc (.string on7), .sc (.int .i64 se8)] = placedsT (xs ++ [⟨⟨na0, la1, cp2, me3, ra4, ne5, to6⟩, on7, se8⟩]) := (flat_snoc xs (⟨⟨na0, la1, cp2, me3, ra4, ne5, to6⟩, on7, se8⟩ : PlacedD)).symm
theorem placedsT_tp (xs : List PlacedD) : (placedsT xs).all D.tp = true := flat_tp (fun _ => rfl) xs
theorem strsD_cold (xs : List ByteArray) : D.colds (strsD xs) = strsD xs := colds_nt (strsD_nt xs)
theorem strsD_abs (i : Nat) (x : Ob) (xs : List ByteArray) : (strsD xs).map (D.abs1 i x) = strsD xs := tps_abs (strsD_tp xs) i x
theorem strsD_own (i n k : Nat) (xs : List ByteArray) : own1 i n (strsD xs) k = (k == 1) := own1_all (strsD_tp xs) i n k
theorem strsD_own2 (i n k : Nat) (xs : List ByteArray) (b : List D) : own1 i n (strsD xs ++ b) k = own1 i n b k := own1_tp (strsD_tp xs) b k
theorem intsD_cold (xs : List Int) : D.colds (intsD xs) = intsD xs := colds_nt (intsD_nt xs)
theorem intsD_abs (i : Nat) (x : Ob) (xs : List Int) : (intsD xs).map (D.abs1 i x) = intsD xs := tps_abs (intsD_tp xs) i x
theorem intsD_own (i n k : Nat) (xs : List Int) : own1 i n (intsD xs) k = (k == 1) := own1_all (intsD_tp xs) i n k
theorem intsD_own2 (i n k : Nat) (xs : List Int) (b : List D) : own1 i n (intsD xs ++ b) k = own1 i n b k := own1_tp (intsD_tp xs) b k
theorem u8D_cold (xs : List Int) : D.colds (u8D xs) = u8D xs := colds_nt (u8D_nt xs)
theorem u8D_abs (i : Nat) (x : Ob) (xs : List Int) : (u8D xs).map (D.abs1 i x) = u8D xs := tps_abs (u8D_tp xs) i x
theorem u8D_own (i n k : Nat) (xs : List Int) : own1 i n (u8D xs) k = (k == 1) := own1_all (u8D_tp xs) i n k
theorem u8D_own2 (i n k : Nat) (xs : List Int) (b : List D) : own1 i n (u8D xs ++ b) k = own1 i n b k := own1_tp (u8D_tp xs) b k
theorem labelsD_cold (xs : List LabelD) : D.colds (labelsD xs) = labelsD xs := colds_nt (rps_nt (labelsD_rp xs))
theorem labelsD_nt (xs : List LabelD) : (labelsD xs).all D.nt = true := rps_nt (labelsD_rp xs)
theorem labelsD_abs (i : Nat) (x : Ob) (xs : List LabelD) : (labelsD xs).map (D.abs1 i x) = labelsD xs := tps_abs (labelsD_tp xs) i x
theorem labelsD_own (i n k : Nat) (xs : List LabelD) : own1 i n (labelsD xs) k = (k == 1) := own1_all (labelsD_tp xs) i n k
theorem labelsD_own2 (i n k : Nat) (xs : List LabelD) (b : List D) : own1 i n (labelsD xs ++ b) k = own1 i n b k := own1_tp (labelsD_tp xs) b k
theorem taintsD_cold (xs : List TaintD) : D.colds (taintsD xs) = taintsD xs := colds_nt (rps_nt (taintsD_rp xs))
theorem taintsD_nt (xs : List TaintD) : (taintsD xs).all D.nt = true := rps_nt (taintsD_rp xs)
theorem taintsD_abs (i : Nat) (x : Ob) (xs : List TaintD) : (taintsD xs).map (D.abs1 i x) = taintsD xs := tps_abs (taintsD_tp xs) i x
theorem taintsD_own (i n k : Nat) (xs : List TaintD) : own1 i n (taintsD xs) k = (k == 1) := own1_all (taintsD_tp xs) i n k
theorem taintsD_own2 (i n k : Nat) (xs : List TaintD) (b : List D) : own1 i n (taintsD xs ++ b) k = own1 i n b k := own1_tp (taintsD_tp xs) b k
theorem tolersD_cold (xs : List TolerD) : D.colds (tolersD xs) = tolersD xs := colds_nt (rps_nt (tolersD_rp xs))
theorem tolersD_nt (xs : List TolerD) : (tolersD xs).all D.nt = true := rps_nt (tolersD_rp xs)
theorem tolersD_abs (i : Nat) (x : Ob) (xs : List TolerD) : (tolersD xs).map (D.abs1 i x) = tolersD xs := tps_abs (tolersD_tp xs) i x
theorem tolersD_own (i n k : Nat) (xs : List TolerD) : own1 i n (tolersD xs) k = (k == 1) := own1_all (tolersD_tp xs) i n k
theorem tolersD_own2 (i n k : Nat) (xs : List TolerD) (b : List D) : own1 i n (tolersD xs ++ b) k = own1 i n b k := own1_tp (tolersD_tp xs) b k
theorem needsT_in (p : Nat → Bool) (xs : List NeedD) : (needsT xs).all (D.in1 p) = true := tps_in (needsT_tp xs) p
theorem needsT_ren (f : Nat → Nat) (xs : List NeedD) : (needsT xs).map (D.ren1 f) = needsT xs := tps_ren (needsT_tp xs) f
theorem needsT_frz (i : Nat) (x : Ob) (xs : List NeedD) : (needsT xs).map (D.frz1 i x) = needsT xs := tps_frz (needsT_tp xs) i x
theorem needsT_lt (n : Nat) (xs : List NeedD) : (needsT xs).all (D.lt1 n) = true := tps_lt (needsT_tp xs) n
theorem needsT_abs (i : Nat) (x : Ob) (xs : List NeedD) : (needsT xs).map (D.abs1 i x) = needsT xs := tps_abs (needsT_tp xs) i x
theorem needsT_own (i n k : Nat) (xs : List NeedD) : own1 i n (needsT xs) k = (k == 1) := own1_all (needsT_tp xs) i n k
theorem needsT_own2 (i n k : Nat) (xs : List NeedD) (b : List D) : own1 i n (needsT xs ++ b) k = own1 i n b k := own1_tp (needsT_tp xs) b k
theorem hostsT_in (p : Nat → Bool) (xs : List HostD) : (hostsT xs).all (D.in1 p) = true := tps_in (hostsT_tp xs) p
theorem hostsT_ren (f : Nat → Nat) (xs : List HostD) : (hostsT xs).map (D.ren1 f) = hostsT xs := tps_ren (hostsT_tp xs) f
theorem hostsT_frz (i : Nat) (x : Ob) (xs : List HostD) : (hostsT xs).map (D.frz1 i x) = hostsT xs := tps_frz (hostsT_tp xs) i x
theorem hostsT_lt (n : Nat) (xs : List HostD) : (hostsT xs).all (D.lt1 n) = true := tps_lt (hostsT_tp xs) n
theorem hostsT_abs (i : Nat) (x : Ob) (xs : List HostD) : (hostsT xs).map (D.abs1 i x) = hostsT xs := tps_abs (hostsT_tp xs) i x
theorem hostsT_own (i n k : Nat) (xs : List HostD) : own1 i n (hostsT xs) k = (k == 1) := own1_all (hostsT_tp xs) i n k
theorem hostsT_own2 (i n k : Nat) (xs : List HostD) (b : List D) : own1 i n (hostsT xs ++ b) k = own1 i n b k := own1_tp (hostsT_tp xs) b k
theorem placedsT_in (p : Nat → Bool) (xs : List PlacedD) : (placedsT xs).all (D.in1 p) = true := tps_in (placedsT_tp xs) p
theorem placedsT_ren (f : Nat → Nat) (xs : List PlacedD) : (placedsT xs).map (D.ren1 f) = placedsT xs := tps_ren (placedsT_tp xs) f
theorem placedsT_frz (i : Nat) (x : Ob) (xs : List PlacedD) : (placedsT xs).map (D.frz1 i x) = placedsT xs := tps_frz (placedsT_tp xs) i x
theorem placedsT_lt (n : Nat) (xs : List PlacedD) : (placedsT xs).all (D.lt1 n) = true := tps_lt (placedsT_tp xs) n
theorem placedsT_abs (i : Nat) (x : Ob) (xs : List PlacedD) : (placedsT xs).map (D.abs1 i x) = placedsT xs := tps_abs (placedsT_tp xs) i x
theorem placedsT_own (i n k : Nat) (xs : List PlacedD) : own1 i n (placedsT xs) k = (k == 1) := own1_all (placedsT_tp xs) i n k
theorem placedsT_own2 (i n k : Nat) (xs : List PlacedD) (b : List D) : own1 i n (placedsT xs ++ b) k = own1 i n b k := own1_tp (placedsT_tp xs) b k
end Go.Proofs.YtemaanibghedlaaGreat
