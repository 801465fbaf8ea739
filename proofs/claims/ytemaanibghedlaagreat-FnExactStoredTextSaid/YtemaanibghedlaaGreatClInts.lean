/- Rows of numbers and of strings that are only read. -/
import Derived.Test.YtemaanibghedlaaGreatAwFlat
namespace Go.Proofs.YtemaanibghedlaaGreat
open Go.RowKit
theorem u8D_len (ns : List Int) : (u8D ns).length = ns.length := by simp [u8D]
theorem u8D_rp (ns : List Int) : (u8D ns).all D.rp = true := by simp [u8D, D.rp]
theorem u8D_in (p : Nat → Bool) (ns : List Int) : (u8D ns).all (D.in1 p) = true := rps_in (u8D_rp ns) p
theorem u8D_ren (f : Nat → Nat) (ns : List Int) : (u8D ns).map (D.ren1 f) = u8D ns := rps_ren (u8D_rp ns) f
theorem u8D_frz (i : Nat) (x : Ob) (ns : List Int) : (u8D ns).map (D.frz1 i x) = u8D ns := rps_frz (u8D_rp ns) i x
theorem u8D_lt (k : Nat) (ns : List Int) : (u8D ns).all (D.lt1 k) = true := rps_lt (u8D_rp ns) k
theorem u8D_nil : u8D [] = [] := rfl
theorem u8D_takeN (ns : List Int) (k : Nat) (h : ns.length ≤ k) : (u8D ns).take k = u8D ns := List.take_of_length_le (by rw [u8D_len]; exact h)
theorem u8D_one (ns : List Int) (x : Int) : u8D ns ++ [.sc (.int .u8 x)] = u8D (ns ++ [x]) := by simp [u8D]
def strsD (ss : List ByteArray) : List D := ss.map fun b => .sc (.string b)
theorem strsD_len (ss : List ByteArray) : (strsD ss).length = ss.length := by simp [strsD]
theorem strsD_rp (ss : List ByteArray) : (strsD ss).all D.rp = true := by simp [strsD, D.rp]
theorem strsD_in (p : Nat → Bool) (ss : List ByteArray) : (strsD ss).all (D.in1 p) = true := rps_in (strsD_rp ss) p
theorem strsD_ren (f : Nat → Nat) (ss : List ByteArray) : (strsD ss).map (D.ren1 f) = strsD ss := rps_ren (strsD_rp ss) f
theorem strsD_frz (i : Nat) (x : Ob) (ss : List ByteArray) : (strsD ss).map (D.frz1 i x) = strsD ss := rps_frz (strsD_rp ss) i x
theorem strsD_lt (k : Nat) (ss : List ByteArray) : (strsD ss).all (D.lt1 k) = true := rps_lt (strsD_rp ss) k
theorem strsD_nil : strsD [] = [] := rfl
theorem strsD_cons (x : ByteArray) (r : List ByteArray) : strsD (x :: r) = .sc (.string x) :: strsD r := rfl
theorem strsD_one (ns : List ByteArray) (x : ByteArray) : strsD ns ++ [.sc (.string x)] = strsD (ns ++ [x]) := by simp [strsD]
theorem strsD_takeN (ns : List ByteArray) (k : Nat) (h : ns.length ≤ k) : (strsD ns).take k = strsD ns := List.take_of_length_le (by rw [strsD_len]; exact h)
theorem strsD_at (ss : List ByteArray) (k : Nat) (h : k < ss.length) : (strsD ss)[k]? = some (.sc (.string (ss.getD k default))) := by simp [strsD, h]
def intsD (ss : List Int) : List D := ss.map fun b => .sc (.int .i64 b)
theorem intsD_len (ss : List Int) : (intsD ss).length = ss.length := by simp [intsD]
theorem intsD_rp (ss : List Int) : (intsD ss).all D.rp = true := by simp [intsD, D.rp]
theorem intsD_in (p : Nat → Bool) (ss : List Int) : (intsD ss).all (D.in1 p) = true := rps_in (intsD_rp ss) p
theorem intsD_ren (f : Nat → Nat) (ss : List Int) : (intsD ss).map (D.ren1 f) = intsD ss := rps_ren (intsD_rp ss) f
theorem intsD_frz (i : Nat) (x : Ob) (ss : List Int) : (intsD ss).map (D.frz1 i x) = intsD ss := rps_frz (intsD_rp ss) i x
theorem intsD_lt (k : Nat) (ss : List Int) : (intsD ss).all (D.lt1 k) = true := rps_lt (intsD_rp ss) k
theorem intsD_nil : intsD [] = [] := rfl
theorem intsD_cons (x : Int) (r : List Int) : intsD (x :: r) = .sc (.int .i64 x) :: intsD r := rfl
theorem intsD_one (ns : List Int) (x : Int) : intsD ns ++ [.sc (.int .i64 x)] = intsD (ns ++ [x]) := by simp [intsD]
theorem intsD_takeN (ns : List Int) (k : Nat) (h : ns.length ≤ k) : (intsD ns).take k = intsD ns := List.take_of_length_le (by rw [intsD_len]; exact h)
theorem intsD_at (ss : List Int) (k : Nat) (h : k < ss.length) : (intsD ss)[k]? = some (.sc (.int .i64 (ss.getD k default))) := by simp [intsD, h]
end Go.Proofs.YtemaanibghedlaaGreat
