/- Dk1 (what is wanted of them). -/
import Derived.Test.YtgoeccemfgniiaaGreatVDk
import Derived.Test.YtgoeccemfgniiaaGreatVCl6
namespace Go.Proofs.YtgoeccemfgniiaaGreat
open Go.RowKit
set_option linter.unusedVariables false
set_option linter.unusedSimpArgs false
set_option maxRecDepth 100000
set_option maxHeartbeats 1000000
theorem fileB_hit {fs:List FileD}{nm:ByteArray}{k:Nat} (h:k < fs.length) (he:eqB (fs.getD k default).name nm=true) (hj:∀ j:Nat,j < k→(!eqB (fs.getD j default).name nm)=true):fileB fs nm=(k:Int):=firstN_hit h he hj
theorem fileB_none {fs:List FileD}{nm:ByteArray}{k:Nat} (h:fs.length≤k) (hj:∀ j:Nat,j < k→(!eqB (fs.getD j default).name nm)=true):fileB fs nm=-1:=firstN_none h hj
theorem txt_neg1 {fs:List FileD}{nm:ByteArray} (h:fileB fs nm < 0):txtB fs nm=⟨#[]⟩:=if_pos h
theorem txt_at1 {fs:List FileD}{nm:ByteArray} (h:0≤fileB fs nm):txtB fs nm=(fs.getD (fileB fs nm).toNat default).text:=if_neg (by omega)
theorem disk_all {fs:List FileD}{k:Nat} (hk:fs.length≤k) (hj:∀ j:Nat,j < k→fileOkB fs j=true):diskB fs=decide (fs.length≤4):=by rw [diskB,allN_yes hk hj,Bool.and_true]
theorem disk_yes {fs:List FileD}{k:Nat} (h:fs.length≤4) (hk:fs.length≤k) (hj:∀ j:Nat,j < k→fileOkB fs j=true):diskB fs=true:=by rw [disk_all hk hj];exact decide_eq_true h
theorem disk_no {fs:List FileD}{k:Nat} (hk:k < fs.length) (h:fileOkB fs k=false):diskB fs=false:=by rw [diskB,allN_no hk h,Bool.and_false]
theorem disk_long {fs:List FileD} (h:¬ fs.length≤4):diskB fs=false:=by rw [diskB,decide_eq_false h];rfl
theorem dec_yes {p:Prop} [Decidable p] (h:p):decide p=true:=decide_eq_true h
theorem dec_no {p:Prop} [Decidable p] (h:¬ p):decide p=false:=decide_eq_false h
theorem spec_FileAt_D (fs:List FileD) (nm:ByteArray) (hn:fs.length≤1048580):Spec Tryz.prog 162 [.agg [.sl fs.length (filesD fs)],.sc (.string nm)] (fun d=>d = .sc (.int .i64 (fileB fs nm))):=by
  refine sp_ (rs:= [.tmp 4]) (nt:=22) Tryz.func162 rfl fun X hX=>?_
  refine nm_ ?_
  repeat' ((first|contradiction|(with_reducible exact tt_)|((with_reducible show Wk (AwStep _ _ _ _ _));first|(refine pln_ ?_))|((with_reducible show Wk (AwCode _ _ _ _ _));first|(refine lpU_ 0x26 (ι:=Nat) (fun k=> [(5,.sc (.int .i64 (k:Int)))]) (fun k=>k≤fs.length∧∀ j:Nat,j < k→(fun j=>!eqB (fs.getD j default).name nm) j=true) (fun k=>fs.length - k) 0 ?_ ?_;(focus (exact ⟨by omega,allN_zero⟩));rintro _ hN0 k hinv;(try dsimp only at hinv);obtain ⟨hk,hj⟩:=hinv;replace hj:=Lib.hid hj;skip))|((with_reducible show Wk (boolK _ _ _ _));first|(refine bk_ (fun h h'=>?_) (fun h h'=>?_)))|((with_reducible show Wk (_∧_));first|(refine and_ ?_ ?_))|(refine hN0.go (k+1) ?_ ?_;(focus (exact ⟨by show k+1≤fs.length;omega,allN_step hj.out (by simp_all)⟩));(focus (show fs.length - (k+1) < fs.length - k;omega)))|fail)<;>(try refine nm_ ?_))
  all_goals (refine ⟨?_⟩)
  all_goals first|contradiction|(rw [fileB_hit (k:=k) (by omega) (by simp_all) hj.out];done)|(rw [fileB_none (k:=k) (by omega) hj.out];done)
theorem impl_FileAt_1_D (x:FileD) (nm:ByteArray):Spec Tryz.prog 145 [.agg (fileCells x),.cptr [.sc (.string nm)] 0] (fun d=>d = .sc (.bool (eqB x.name nm))):=by
  unfold fileCells
  refine sp_ (rs:= [.tmp 3]) (nt:=8) Tryz.func145 rfl fun X hX=>?_
  refine nm_ ?_
  repeat' ((first|contradiction|(with_reducible exact tt_)|((with_reducible show Wk (AwStep _ _ _ _ _));first|(refine pln_ ?_))|((with_reducible show Wk (boolK _ _ _ _));first|(refine bk_ (fun h h'=>?_) (fun h h'=>?_)))|((with_reducible show Wk (_∧_));first|(refine and_ ?_ ?_))|fail)<;>(try refine nm_ ?_))
  all_goals (refine ⟨?_⟩)
  all_goals first|rfl
theorem indexFile_D (fs:List FileD) (nm:ByteArray) (hn:fs.length≤1048580):Spec Tryz.prog 144 [.sl fs.length (filesD fs),.fn 145 [.cptr [.sc (.string nm)] 0]] (fun d=>d = .sc (.int .i64 (fileB fs nm))):=by
  refine sp_ (rs:= [.tmp 4]) (nt:=19) Tryz.func144 rfl fun X hX=>?_
  refine nm_ ?_
  repeat' ((first|contradiction|(with_reducible exact tt_)|((with_reducible show Wk (AwStepF _ _ _ _ _ _ _));first|(refine clC_ rfl rfl _ _ (impl_FileAt_1_D (fs.getD k default) nm) rfl rfl rfl ?_;rintro _ rfl))|((with_reducible show Wk (AwStep _ _ _ _ _));first|(refine pln_ ?_))|((with_reducible show Wk (AwCode _ _ _ _ _));first|(refine lpU_ 0x183 (ι:=Nat) (fun k=> [(8,.sc (.int .i64 (k:Int)))]) (fun k=>k≤fs.length∧∀ j:Nat,j < k→(fun j=>!eqB (fs.getD j default).name nm) j=true) (fun k=>fs.length - k) 0 ?_ ?_;(focus (exact ⟨by omega,allN_zero⟩));rintro _ hN0 k hinv;(try dsimp only at hinv);obtain ⟨hk,hj⟩:=hinv;replace hj:=Lib.hid hj;skip))|((with_reducible show Wk (boolK _ _ _ _));first|(refine bk_ (fun h h'=>?_) (fun h h'=>?_)))|((with_reducible show Wk (_∧_));first|(refine and_ ?_ ?_))|(refine hN0.go (k+1) ?_ ?_;(focus (exact ⟨by show k+1≤fs.length;omega,allN_step hj.out (by simp_all)⟩));(focus (show fs.length - (k+1) < fs.length - k;omega)))|fail)<;>(try refine nm_ ?_))
  all_goals (refine ⟨?_⟩)
  all_goals first|contradiction|(rw [fileB_hit (k:=k) (by omega) (by simp_all) hj.out];done)|(rw [fileB_none (k:=k) (by omega) hj.out];done)
theorem impl_FileAt_D (fs:List FileD) (nm:ByteArray) (hn:fs.length≤1048580):Spec Tryz.prog 67 [.agg [.sl fs.length (filesD fs)],.sc (.string nm)] (fun d=>d = .sc (.int .i64 (fileB fs nm))):=by
  refine sp_ (rs:= [.tmp 4]) (nt:=9) Tryz.func67 rfl fun X hX=>?_
  refine nm_ ?_
  repeat' ((first|contradiction|(with_reducible exact tt_)|((with_reducible show Wk (AwStepF _ _ _ _ _ _ _));first|(refine cl_ rfl _ _ (indexFile_D fs nm hn) rfl rfl ?_;rintro _ rfl)|(refine afz_ [1] ?_;refine nm_ ?_;refine fn_ rfl rfl ?_))|((with_reducible show Wk (AwStep _ _ _ _ _));first|(refine pln_ ?_))|((with_reducible show Wk (boolK _ _ _ _));first|(refine bk_ (fun h h'=>?_) (fun h h'=>?_)))|((with_reducible show Wk (_∧_));first|(refine and_ ?_ ?_))|fail)<;>(try refine nm_ ?_))
  all_goals (refine ⟨?_⟩)
  all_goals first|rfl
theorem impl_TextOf_D (fs:List FileD) (nm:ByteArray) (hn:fs.length≤1048580):Spec Tryz.prog 88 [.agg [.sl fs.length (filesD fs)],.sc (.string nm)] (fun d=>d = .tup [.sc (.string (txtB fs nm)),.sc (.bool (decide (0≤fileB fs nm)))]):=by
  have hr:=fileB_rng fs nm
  refine sp_ (rs:= [.tmp 4,.tmp 5]) (nt:=18) Tryz.func88 rfl fun X hX=>?_
  refine nm_ ?_
  repeat' ((first|contradiction|(with_reducible exact tt_)|((with_reducible show Wk (AwStepF _ _ _ _ _ _ _));first|(refine cl_ rfl _ _ (impl_FileAt_D fs nm hn) rfl rfl ?_;rintro _ rfl))|((with_reducible show Wk (AwStep _ _ _ _ _));first|(refine pln_ ?_))|((with_reducible show Wk (boolK _ _ _ _));first|(refine bk_ (fun h h'=>?_) (fun h h'=>?_)))|((with_reducible show Wk (_∧_));first|(refine and_ ?_ ?_))|fail)<;>(try refine nm_ ?_))
  all_goals (refine ⟨?_⟩)
  all_goals first|contradiction|(exfalso;omega)|(rw [txt_neg1 (by omega),dec_no (by omega)])|(rw [txt_at1 (by omega),dec_yes (by omega)])|(rw [txt_at1 (by omega)];done)|(rw [txt_neg1 (by omega)];done)
theorem spec_DiskOk_D (fs:List FileD) (hf:DiskF fs):Spec Tryz.prog 115 [.agg [.sl fs.length (filesD fs)]] (fun d=>d = .sc (.bool (diskB fs))):=by
  have hn:=hf.len
  refine sp_ (rs:= [.tmp 2]) (nt:=56) Tryz.func115 rfl fun X hX=>?_
  refine nm_ ?_
  repeat' ((first|contradiction|(with_reducible exact tt_)|((with_reducible show Wk (AwStepF _ _ _ _ _ _ _));first|(refine cl_ rfl _ _ (specName_D (fs.getD k default).name) rfl rfl ?_;rintro _ rfl)|(refine cl_ rfl _ _ (l01In_D _ _ _) rfl rfl ?_;rintro _ rfl))|((with_reducible show Wk (AwStep _ _ _ _ _));first|(refine pln_ ?_))|((with_reducible show Wk (AwCode _ _ _ _ _));first|(refine wo_ (id:=7) [] [(0,true),(1,true),(2,false),(3,true),(4,true),(5,true),(6,true),(7,true),(8,true),(9,true),(10,true),(11,true),(12,true),(13,true),(15,true),(16,true),(14,false),(17,true),(18,true),(19,true),(20,true),(21,true),(22,true),(23,true),(24,true),(25,true),(26,true),(27,true),(28,true),(29,true),(30,true),(31,true),(32,false),(33,true),(34,true)] ?_)|(refine lpU_ 0xa (ι:=Nat) (fun k=> [(3,.sc (.int .i64 (k:Int)))]) (fun k=>k≤fs.length∧∀ j:Nat,j < k→fileOkB fs j=true) (fun k=>fs.length - k) 0 ?_ ?_;(focus (exact ⟨by omega,allN_zero⟩));rintro _ hN0 k hinv;(try dsimp only at hinv);obtain ⟨hk,hj⟩:=hinv;replace hj:=Lib.hid hj;have hz:=hf.f k;have hz1:=hz.t;have hz2:=hz.lo;have hz3:=hz.hi;clear hz;skip))|((with_reducible show Wk (boolK _ _ _ _));first|(refine bk_ (fun h h'=>?_) (fun h h'=>?_)))|((with_reducible show Wk (_∧_));first|(refine and_ ?_ ?_))|(refine hN0.go (k+1) ?_ ?_;(focus (exact ⟨by show k+1≤fs.length;omega,allN_step hj.out (by unfold fileOkB nextB inB;first|(simp_all;done)|(simp_all;omega))⟩));(focus (show fs.length - (k+1) < fs.length - k;omega)))|fail)<;>(try refine nm_ ?_))
  all_goals (refine ⟨?_⟩)
  all_goals first|contradiction|(exfalso;omega)|(rw [disk_no (k:=k) (by omega) (by unfold fileOkB nextB inB;first|(simp_all;done)|(simp_all;omega))];done)|(rw [disk_yes (k:=k) (by omega) (by omega) hj.out];done)|(rw [disk_long (by omega)];done)|(rw [disk_all (k:=k) (by omega) hj.out];first|rfl|(congr 2;rw [decide_eq_decide];omega))
theorem impl_DiskOk_D (fs:List FileD) (hf:DiskF fs):Spec Tryz.prog 116 [.agg [.sl fs.length (filesD fs)]] (fun d=>d = .sc (.bool (diskB fs))):=by
  have hn:=hf.len
  refine sp_ (rs:= [.tmp 2]) (nt:=53) Tryz.func116 rfl fun X hX=>?_
  refine nm_ ?_
  repeat' ((first|contradiction|(with_reducible exact tt_)|((with_reducible show Wk (AwStepF _ _ _ _ _ _ _));first|(refine cl_ rfl _ _ (impl_NameOk_D _ (hf.f k).n) rfl rfl ?_;rintro _ rfl)|(refine cl_ rfl _ _ (within_D _ _ _) rfl rfl ?_;rintro _ rfl))|((with_reducible show Wk (AwStep _ _ _ _ _));first|(refine pln_ ?_))|((with_reducible show Wk (AwCode _ _ _ _ _));first|(refine wo_ (id:=4) [] [(0,true),(1,true),(2,false),(3,true),(4,true),(5,true),(6,true),(7,true),(8,true),(9,true),(10,true),(11,true),(12,true),(13,true),(15,true),(16,true),(14,false),(17,true),(18,true),(19,true),(20,true),(21,true),(22,true),(23,true),(24,true),(25,true),(26,true),(27,true),(28,true),(29,true),(30,true),(31,true),(32,false),(33,true),(34,true)] ?_)|(refine lpU_ 0x1c2 (ι:=Nat) (fun k=> [(8,.sc (.int .i64 (k:Int)))]) (fun k=>k≤fs.length∧∀ j:Nat,j < k→fileOkB fs j=true) (fun k=>fs.length - k) 0 ?_ ?_;(focus (exact ⟨by omega,allN_zero⟩));rintro _ hN0 k hinv;(try dsimp only at hinv);obtain ⟨hk,hj⟩:=hinv;replace hj:=Lib.hid hj;have hz:=hf.f k;have hz1:=hz.t;have hz2:=hz.lo;have hz3:=hz.hi;clear hz;skip))|((with_reducible show Wk (boolK _ _ _ _));first|(refine bk_ (fun h h'=>?_) (fun h h'=>?_)))|((with_reducible show Wk (_∧_));first|(refine and_ ?_ ?_))|(refine hN0.go (k+1) ?_ ?_;(focus (exact ⟨by show k+1≤fs.length;omega,allN_step hj.out (by unfold fileOkB nextB inB;first|(simp_all;done)|(simp_all;omega))⟩));(focus (show fs.length - (k+1) < fs.length - k;omega)))|fail)<;>(try refine nm_ ?_))
  all_goals (refine ⟨?_⟩)
  all_goals first|contradiction|(exfalso;omega)|(rw [disk_no (k:=k) (by omega) (by unfold fileOkB nextB inB;first|(simp_all;done)|(simp_all;omega))];done)|(rw [disk_yes (k:=k) (by omega) (by omega) hj.out];done)|(rw [disk_long (by omega)];done)|(rw [disk_all (k:=k) (by omega) hj.out];first|rfl|(congr 2;rw [decide_eq_decide];omega))
end Go.Proofs.YtgoeccemfgniiaaGreat
