/- Tab5 (what is wanted of them). -/
import Derived.Test.YtidjjfjhmlndjaaGreatDoorVAwa
import Derived.Test.YtidjjfjhmlndjaaGreatDoorRows
import Derived.LaidMore
import Derived.Stop.LaidErr
import Derived.Lib.AtoiErrMem
namespace Go.Proofs.YtidjjfjhmlndjaaGreatDoor
open Go.RowKit Go.ChangeShapes Go.WideShapes Go.ChangeAt
theorem iface_var {P:Program}{n nm:String}{d:DataW Unit}{r:List (String × DataW Unit)}{W:World}{g:Nat}{ti:TypeId}{ms:Array (String × TypeId)}
    (h:laidMet P ((n,.iface nm d)::r) W) (hg:P.globalNamed n=some g) (ht:(P.globals[g]?).map (·.type)=some ti) (hi:P.underlying ti=some (.interface ms)):∃ u v,W.cell? ⟨g,0,none⟩=some (.iface u v):=by
  obtain ⟨ps,⟨g0,t0,cs0,f0,p0,q0,hg0,ht0,hv0,hd0,_,e0⟩,_,hrows⟩:=h
  obtain rfl:=Option.some.inj (hg.symm.trans hg0)
  obtain rfl:=Option.some.inj (ht.symm.trans ht0)
  obtain ⟨f1,u,v,hc,_,_⟩:=iface_of_trod hi hd0
  refine ⟨u,v,?_⟩
  have h1:=World.var?_cell hg0 hv0 0
  obtain ⟨l⟩:=cs0
  simp only at hc
  subst hc
  simpa using h1
def seatLaid:List (String × DataW Unit):= [("math/bits.deBruijn32tab",Rows.laid_math_bits_deBruijn32tab),("math/bits.deBruijn64tab",Rows.laid_math_bits_deBruijn64tab),("internal/strconv.uint64pow10",Rows.laid_internal_strconv_uint64pow10),("strconv.ErrRange",Rows.laid_strconv_ErrRange),("strconv.ErrSyntax",Rows.laid_strconv_ErrSyntax)]
theorem gTabType:(Tryz.prog.globals[1]?).map (·.type)=some 364:=by kernel_rfl
theorem cellsTab:Tryz.prog.cellsOf 364=20:=by kernel_rfl
theorem cellsU64:Tryz.prog.cellsOf 304=1:=by kernel_rfl
theorem gSyn:Tryz.prog.globalNamed "strconv.ErrSyntax"=some 4:=by kernel_rfl
theorem gRan:Tryz.prog.globalNamed "strconv.ErrRange"=some 5:=by kernel_rfl
theorem gSynType:(Tryz.prog.globals[4]?).map (·.type)=some 173:=by kernel_rfl
theorem gRanType:(Tryz.prog.globals[5]?).map (·.type)=some 173:=by kernel_rfl
theorem undErr:Tryz.prog.underlying 173=some (.interface (Tryz.prog.methodsAt 173)):=by kernel_rfl
theorem pow_data:Rows.laid_internal_strconv_uint64pow10 (H:=Unit)=Lib.tabData .u64 Lib.pow10Tab:=by kernel_rfl
theorem lt_var {W:World}{P:Program}{nm:String}{g:Nat}{cs:Array Value} (hg:P.globalNamed nm=some g) (h:W.var? P nm=some cs):g < W.heap.size:=by
  unfold World.var? at h
  rw [hg] at h
  simp only [Option.bind_some] at h
  rcases Nat.lt_or_ge g W.heap.size with h2|h2
  · exact h2
  · rw [Array.getElem?_eq_none h2] at h;cases h
/-- Where the tables lie they are older than whatever the call makes. -/
theorem tt_laid {W:World} (h:laidMetH Tryz.prog seatLaid W):TT (fun b=>b < W.heap.size) W.heap:=by
  rw [MakeChecks.laidMetH_plain _ _ _ (by kernel_rfl)] at h
  have h3:=h.tail.tail
  have h4:=h3.tail
  have h5:=h4.tail
  unfold seatLaid at h3 h4 h5
  have t1:Lib.TabIs Tryz.prog W "internal/strconv.uint64pow10" .u64 Lib.pow10Tab:=Lib.tabIs_of_head gTab gTabType Tryz.underlying364 Tryz.underlying304 cellsU64 cellsTab (by rw [← pow_data];exact h3)
  obtain ⟨u,v,e4⟩:=iface_var (g:=5) h4 gRan gRanType undErr
  obtain ⟨u2,v2,e5⟩:=iface_var (g:=4) h5 gSyn gSynType undErr
  exact ⟨⟨lt_var gTab t1,W,rfl,t1⟩,trivial,⟨Lib.lt_of_cell e5,W,rfl,_,e5,.inr ⟨u2,v2,rfl⟩⟩,⟨Lib.lt_of_cell e4,W,rfl,_,e4,.inr ⟨u,v,rfl⟩⟩⟩
/-- A world for the witness: the door's own run leaves it. -/
noncomputable def laidWorld (os:Os):World:=World.doorLaid Tryz.prog 86 os
end Go.Proofs.YtidjjfjhmlndjaaGreatDoor
