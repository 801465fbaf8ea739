/- Rd9, Rd10, Rd12, Dk3 (what is wanted of them). -/
import Derived.Test.YtgoeccemfgniiaaGreatVRd4
import Derived.Test.YtgoeccemfgniiaaGreatVRd1
import Derived.Test.YtgoeccemfgniiaaGreatVRdm
import Derived.Test.YtgoeccemfgniiaaGreatVNn
import Derived.Test.YtgoeccemfgniiaaGreatVRds
import Derived.Test.YtgoeccemfgniiaaGreatVCl4
import Derived.Test.YtgoeccemfgniiaaGreatVSn2
import Derived.Test.YtgoeccemfgniiaaGreatVRd7
import Derived.Test.YtgoeccemfgniiaaGreatVRdf
import Derived.Test.YtgoeccemfgniiaaGreatVSn4
import Derived.Test.YtgoeccemfgniiaaGreatVCl1
import Derived.Test.YtgoeccemfgniiaaGreatVAwb
import Derived.Test.YtgoeccemfgniiaaGreatVDk1
import Derived.Test.YtgoeccemfgniiaaGreatVDk
import Derived.Test.YtgoeccemfgniiaaGreatProg
import Derived.Test.YtgoeccemfgniiaaGreatVAwa
import Derived.Lib.SlBytesConst
import Derived.Test.YtgoeccemfgniiaaGreatVNo
namespace Go.Proofs.YtgoeccemfgniiaaGreat
open Go.RowKit
set_option linter.unusedVariables false
set_option linter.unusedSimpArgs false
set_option maxRecDepth 100000
set_option maxHeartbeats 4000000
theorem impl_ReadSnap_C (s:ByteArray) (hz:s.size≤1048579):SpecH Tryz.prog 104 [.sc (.string s)] [] 0 (fun d os' nb'=>∃ c ok,Fin (rdC s) c ok∧(c.fine∧c.hosts.length≤8∧c.pods.length≤12∧(ok=true→clusterB c=true))∧d = .tup [.agg [.own 0 0 (c.hosts).length,.own 1 0 (c.pods).length,.sc (.int .i64 c.next),.sc (.int .i64 c.w1),.sc (.int .i64 c.w2),.sc (.int .i64 c.w3)],.sc (.bool ok)]∧os' = [(0,⟨119,6,(c.hosts).length,hostsT (c.hosts)⟩),(1,⟨125,9,(c.pods).length,placedsT (c.pods)⟩)]∧nb' = 2):=by
  have h:=impl_ReadSnap_D s hz
  rw [snap_ag] at h
  exact h
theorem cat_usual {s:ByteArray} (hz:s.size≤1048576):(usualT++s).size≤1048579:=by rw [ByteArray.size_append,usual_size];omega
theorem impl_ReadSnap2_D (s:ByteArray) (hz:s.size≤1048576):SpecH Tryz.prog 55 [.sc (.string s)] [] 0 (fun d os' nb'=>∃ c ok,Fin (rd2 s) c ok∧(c.fine∧c.hosts.length≤8∧c.pods.length≤12∧(ok=true→clusterB c=true))∧d = .tup [.agg [.own 0 0 (c.hosts).length,.own 1 0 (c.pods).length,.sc (.int .i64 c.next),.sc (.int .i64 c.w1),.sc (.int .i64 c.w2),.sc (.int .i64 c.w3)],.sc (.bool ok)]∧os' = [(0,⟨119,6,(c.hosts).length,hostsT (c.hosts)⟩),(1,⟨125,9,(c.pods).length,placedsT (c.pods)⟩)]∧nb' = 2):=by
  have hcat:=cat_usual hz;have hu:=usual_size
  have ex0:=@ByteArray.size_append
  refine spH_ (rs:= [.cell 2 43,.tmp 3]) (nt:=10) Tryz.func55 rfl fun X hX=>?_
  refine nm_ ?_
  repeat' ((first|contradiction|(with_reducible exact tt_)|(refine bk_ (fun h h'=>?_) (fun h h'=>?_))|(refine and_ ?_ ?_)|(refine pln_ ?_)|(refine cl_ rfl _ _ (impl_usualBytes_D) rfl rfl ?_;rintro _ ⟨rfl,hu⟩)|(refine awH_ rfl (impl_ReadSnap_C (usualT++s) hcat) [] ?_;rintro _ _ _ ⟨c,ok,hf,⟨hc,h8,h12,hk⟩,rfl,rfl,rfl⟩ _)|(refine rh_ [1,2] ?_)|fail)<;>(try refine nm_ ?_))
  all_goals clear ex0
  all_goals (refine ⟨?_⟩)
  all_goals first|contradiction|(refine ⟨c,ok,hf,⟨hc,h8,h12,hk⟩,rfl,?_⟩;first|rfl|exact ⟨rfl,rfl⟩)
theorem impl_Upgraded23_D (s:ByteArray) (hz:s.size≤1048576):Spec Tryz.prog 52 [.sc (.string s)] (fun d=>∃ t ok,Txt (up23 s) t ok∧t.size≤60000∧d = .tup [.sc (.string t),.sc (.bool ok)]):=by
  refine sp_ (rs:= [.tmp 2,.tmp 3]) (nt:=15) Tryz.func52 rfl fun X hX=>?_
  refine nm_ ?_
  repeat' ((first|contradiction|(with_reducible exact tt_)|(refine bk_ (fun h h'=>?_) (fun h h'=>?_))|(refine and_ ?_ ?_)|(refine pln_ ?_)|(refine awH_ rfl (impl_ReadSnap2_D s hz) [] ?_;rintro _ _ _ ⟨c,ok,hf,⟨hc,h8,h12,hk⟩,rfl,rfl,rfl⟩ _)|(refine bo_ rfl [.cool 0,.frz 0,.cool 1,.frz 1] (impl_SnapText_D c hc) ?_;rintro _ ⟨rfl,hs⟩;refine ⟨rfl,?_⟩)|fail)<;>(try refine nm_ ?_))
  all_goals (refine ⟨?_⟩)
  all_goals first|contradiction|(exact ⟨_,_,up23_no hf (by first|assumption|simp_all),(by decide),rfl⟩)|(exact ⟨_,_,up23_yes hf (by first|assumption|simp_all),snapT_le hc,rfl⟩)
end Go.Proofs.YtgoeccemfgniiaaGreat
namespace Go.Proofs.YtgoeccemfgniiaaGreat
open Go.RowKit
set_option linter.unusedVariables false
set_option linter.unusedSimpArgs false
set_option maxRecDepth 100000
set_option maxHeartbeats 4000000
theorem impl_ReadSnap1_C (s:ByteArray) (hz:s.size≤1048576):SpecH Tryz.prog 53 [.sc (.string s)] [] 0 (fun d os' nb'=>∃ c ok,Fin (rd1 s) c ok∧(c.fine∧c.hosts.length≤8∧c.pods.length≤12∧(ok=true→expB c 1=true))∧d = .tup [.agg [.own 0 0 (c.hosts).length,.own 1 0 (c.pods).length,.sc (.int .i64 c.next),.sc (.int .i64 c.w1),.sc (.int .i64 c.w2),.sc (.int .i64 c.w3)],.sc (.bool ok)]∧os' = [(0,⟨119,6,(c.hosts).length,hostsT (c.hosts)⟩),(1,⟨125,9,(c.pods).length,placedsT (c.pods)⟩)]∧nb' = 2):=by
  have h:=impl_ReadSnap1_D s hz
  rw [snap1_ag] at h
  exact h
theorem impl_Upgraded12_D (s:ByteArray) (hz:s.size≤1048576):Spec Tryz.prog 50 [.sc (.string s)] (fun d=>∃ t ok,Txt (up12 s) t ok∧t.size≤60000∧d = .tup [.sc (.string t),.sc (.bool ok)]):=by
  refine sp_ (rs:= [.tmp 2,.tmp 3]) (nt:=15) Tryz.func50 rfl fun X hX=>?_
  refine nm_ ?_
  repeat' ((first|contradiction|(with_reducible exact tt_)|(refine bk_ (fun h h'=>?_) (fun h h'=>?_))|(refine and_ ?_ ?_)|(refine pln_ ?_)|(refine awH_ rfl (impl_ReadSnap1_C s hz) [] ?_;rintro _ _ _ ⟨c,ok,hf,⟨hc,h8,h12,hk⟩,rfl,rfl,rfl⟩ _)|(refine bo_ rfl [.cool 0,.frz 0,.cool 1,.frz 1] (impl_Snap2Text_D c hc) ?_;rintro _ ⟨rfl,hs⟩;refine ⟨rfl,?_⟩)|fail)<;>(try refine nm_ ?_))
  all_goals (refine ⟨?_⟩)
  all_goals first|contradiction|(exact ⟨_,_,up12_no hf (by first|assumption|simp_all),(by decide),rfl⟩)|(exact ⟨_,_,up12_yes hf (by first|assumption|simp_all),snap2T_le hc,rfl⟩)
end Go.Proofs.YtgoeccemfgniiaaGreat
namespace Go.Proofs.YtgoeccemfgniiaaGreat
open Go.RowKit
set_option linter.unusedVariables false
set_option linter.unusedSimpArgs false
set_option maxRecDepth 100000
set_option maxHeartbeats 4000000
theorem impl_ReadSnapAt_D (s:ByteArray) (hz:s.size≤1048576) (k:Int):SpecH Tryz.prog 33 [.sc (.string s),.sc (.int .i64 k)] [] 0 (fun d os' nb'=>∃ c ok,Fin (rdAt s k) c ok∧(c.fine∧c.hosts.length≤8∧c.pods.length≤12)∧d = .tup [.agg [.own 0 0 (c.hosts).length,.own 1 0 (c.pods).length,.sc (.int .i64 c.next),.sc (.int .i64 c.w1),.sc (.int .i64 c.w2),.sc (.int .i64 c.w3)],.sc (.bool ok)]∧os' = [(0,⟨119,6,(c.hosts).length,hostsT (c.hosts)⟩),(1,⟨125,9,(c.pods).length,placedsT (c.pods)⟩)]∧nb' = 2):=by
  refine spJ_ (rs:= [.cell 4 43,.tmp 5]) (nt:=36) Tryz.func33 rfl fun X hX=>?_
  refine nm_ ?_
  repeat' ((first|contradiction|(with_reducible exact tt_)|(refine bk_ (fun h h'=>?_) (fun h h'=>?_))|(refine and_ ?_ ?_)|(refine pln_ ?_)|(refine cl_ rfl _ _ (within_D _ _ _) rfl rfl ?_;rintro _ rfl)|(refine cl_ rfl _ _ (impl_Upgraded12_D s hz) rfl rfl ?_;rintro _ ⟨t,ok1,h1,ht,rfl⟩)|(refine cl_ rfl _ _ (impl_Upgraded23_D s hz) rfl rfl ?_;rintro _ ⟨u,ok2,h2,hu,rfl⟩)|(refine cl_ rfl _ _ (impl_Upgraded23_D t (by omega)) rfl rfl ?_;rintro _ ⟨u,ok2,h2,hu,rfl⟩)|(refine awH_ rfl (impl_ReadSnap_C s (by omega)) [] ?_;rintro _ _ _ ⟨c,ok,hf,⟨hc,h8,h12,hk⟩,rfl,rfl,rfl⟩ _)|(refine awH_ rfl (impl_ReadSnap_C t (by omega)) [] ?_;rintro _ _ _ ⟨c,ok,hf,⟨hc,h8,h12,hk⟩,rfl,rfl,rfl⟩ _)|(refine awH_ rfl (impl_ReadSnap_C u (by omega)) [] ?_;rintro _ _ _ ⟨c,ok,hf,⟨hc,h8,h12,hk⟩,rfl,rfl,rfl⟩ _)|(refine rjj_ [.nil 0 0 119 6,.nil 0 1 125 9] [1,2] ?_)|(refine rjj_ [] [1,2] ?_)|fail)<;>(try refine nm_ ?_))
  all_goals (refine ⟨?_⟩)
  all_goals first|contradiction|(exfalso;omega)|(refine ⟨c,ok,at_3 (by omega) hf,⟨hc,h8,h12⟩,rfl,?_⟩;first|rfl|exact ⟨rfl,rfl⟩)|(refine ⟨c,ok,at2_yes (by omega) h2 (by first|assumption|exact rfl) hf,⟨hc,h8,h12⟩,rfl,?_⟩;first|rfl|exact ⟨rfl,rfl⟩)|(refine ⟨c,ok,at1_yes (by omega) h1 (by first|assumption|exact rfl) h2 (by first|assumption|exact rfl) hf,⟨hc,h8,h12⟩,rfl,?_⟩;first|rfl|exact ⟨rfl,rfl⟩)|(refine ⟨zeroC,false,at_no (by omega),⟨zero_fine,(by decide),(by decide)⟩,rfl,?_⟩;first|rfl|exact ⟨rfl,rfl⟩)|(refine ⟨zeroC,false,at1_no (by omega) h1 (by first|assumption|exact rfl),⟨zero_fine,(by decide),(by decide)⟩,rfl,?_⟩;first|rfl|exact ⟨rfl,rfl⟩)|(refine ⟨zeroC,false,at1_no2 (by omega) h1 (by first|assumption|exact rfl) h2 (by first|assumption|exact rfl),⟨zero_fine,(by decide),(by decide)⟩,rfl,?_⟩;first|rfl|exact ⟨rfl,rfl⟩)|(refine ⟨zeroC,false,at2_no (by omega) h2 (by first|assumption|exact rfl),⟨zero_fine,(by decide),(by decide)⟩,rfl,?_⟩;first|rfl|exact ⟨rfl,rfl⟩)
theorem impl_ReadStored_D (s:ByteArray) (hs:s.size≤4611686018427387904):SpecH Tryz.prog 39 [.sc (.string s)] [] 0 (fun d os' nb'=>∃ c code,St8 s c code∧(c.fine∧c.hosts.length≤8∧c.pods.length≤12)∧d = .tup [.agg [.own 0 0 (c.hosts).length,.own 1 0 (c.pods).length,.sc (.int .i64 c.next),.sc (.int .i64 c.w1),.sc (.int .i64 c.w2),.sc (.int .i64 c.w3)],.sc (.int .i64 code)]∧os' = [(0,⟨119,6,(c.hosts).length,hostsT (c.hosts)⟩),(1,⟨125,9,(c.pods).length,placedsT (c.pods)⟩)]∧nb' = 2):=by
  refine spJ_ (rs:= [.cell 2 43,.tmp 3]) (nt:=33) Tryz.func39 rfl fun X hX=>?_
  refine nm_ ?_
  repeat' ((first|contradiction|(with_reducible exact tt_)|(refine bk_ (fun h h'=>?_) (fun h h'=>?_))|(refine and_ ?_ ?_)|(refine pln_ ?_)|(refine cl_ rfl _ _ (impl_ReadFrame_D s hs) rfl rfl ?_;rintro _ ⟨v,t,code,hF,⟨ht,hv⟩,rfl⟩)|(refine awH_ rfl (impl_ReadSnapAt_D t (by omega) v) [] ?_;rintro _ _ _ ⟨c,ok,hf,⟨hc,h8,h12⟩,rfl,rfl,rfl⟩ _)|(refine rjj_ [.nil 0 0 119 6,.nil 0 1 125 9] [2,3] ?_;refine nm_ ?_;fail_if_success (show Wk False))|(refine rjj_ [.nil 0 0 119 6,.nil 0 1 125 9] [5,6] ?_;refine nm_ ?_;fail_if_success (show Wk False))|(refine rjj_ [] [2,3] ?_;refine nm_ ?_;fail_if_success (show Wk False))|fail)<;>(try refine nm_ ?_))
  all_goals (refine ⟨?_⟩)
  all_goals first|contradiction|(refine ⟨c,0,st_yes hF (by omega) (by omega) hf (by first|assumption|exact rfl),⟨hc,h8,h12⟩,rfl,?_⟩;first|rfl|exact ⟨rfl,rfl⟩)|(refine ⟨zeroC,_,st_frame hF (by omega),⟨zero_fine,(by decide),(by decide)⟩,rfl,?_⟩;first|rfl|exact ⟨rfl,rfl⟩)|(refine ⟨zeroC,6,st_version hF (by omega) (by omega),⟨zero_fine,(by decide),(by decide)⟩,rfl,?_⟩;first|rfl|exact ⟨rfl,rfl⟩)|(refine ⟨zeroC,7,st_no hF (by omega) (by omega) hf (by first|assumption|exact rfl),⟨zero_fine,(by decide),(by decide)⟩,rfl,?_⟩;first|rfl|exact ⟨rfl,rfl⟩)
end Go.Proofs.YtgoeccemfgniiaaGreat
namespace Go.Proofs.YtgoeccemfgniiaaGreat
open Go.RowKit
set_option linter.unusedVariables false
set_option linter.unusedSimpArgs false
set_option maxRecDepth 100000
set_option maxHeartbeats 1000000
def rsR (fs:List FileD):ClusterD × Int:=if fileB fs stNm < 0 then (zeroC,11) else rdSt (txtB fs stNm)
structure Rs8 (fs:List FileD) (c:ClusterD) (code:Int):Prop where
  eq:rsR fs=(c,code)
theorem Rs8.same {fs:List FileD}{c c':ClusterD}{k k':Int} (h:Rs8 fs c k) (h':Rs8 fs c' k'):c' = c∧k' = k:=by
  have:=h.eq.symm.trans h'.eq
  injection this with e1 e2
  exact ⟨e1.symm,e2.symm⟩
theorem rs_no {fs:List FileD} (h:fileB fs stNm < 0):Rs8 fs zeroC 11:=⟨if_pos h⟩
theorem rs_yes {fs:List FileD} (h:0≤fileB fs stNm) {c:ClusterD}{k:Int} (hs:St8 (txtB fs stNm) c k):Rs8 fs c k:=⟨by rw [rsR,if_neg (by omega),hs.eq]⟩
def newC:ClusterD:=⟨[], [],1,2,1,3⟩
theorem new_fine:newC.fine:=fine_mk (by decide) (allF_nil host_def) (by decide) (allF_nil placed_def) (by decide)
def sdR (fs:List FileD):ClusterD × Int:=if (rsR fs).2=11 then (newC,0) else rsR fs
structure Sd8 (fs:List FileD) (c:ClusterD) (code:Int):Prop where
  eq:sdR fs=(c,code)
theorem Sd8.same {fs:List FileD}{c c':ClusterD}{k k':Int} (h:Sd8 fs c k) (h':Sd8 fs c' k'):c' = c∧k' = k:=by
  have:=h.eq.symm.trans h'.eq
  injection this with e1 e2
  exact ⟨e1.symm,e2.symm⟩
theorem sd_no {fs:List FileD}{c:ClusterD}{k:Int} (h:Rs8 fs c k) (hk:k=11):Sd8 fs newC 0:=⟨by rw [sdR,h.eq,if_pos hk]⟩
theorem sd_yes {fs:List FileD}{c:ClusterD}{k:Int} (h:Rs8 fs c k) (hk:¬ k=11):Sd8 fs c k:=⟨by rw [sdR,h.eq,if_neg hk]⟩
theorem txt_fit {fs:List FileD} (hf:DiskF fs) (nm:ByteArray):(txtB fs nm).size≤1048576:=by
  unfold txtB
  split
  · exact Nat.zero_le _
  · exact (hf.f _).t
theorem impl_RestoreFrom_D (fs:List FileD) (hf:DiskF fs):SpecH Tryz.prog 24 [.agg [.sl fs.length (filesD fs)]] [] 0 (fun d os' nb'=>∃ c code,Rs8 fs c code∧(c.fine∧c.hosts.length≤8∧c.pods.length≤12)∧d = .tup [.agg [.own 0 0 (c.hosts).length,.own 1 0 (c.pods).length,.sc (.int .i64 c.next),.sc (.int .i64 c.w1),.sc (.int .i64 c.w2),.sc (.int .i64 c.w3)],.sc (.int .i64 code)]∧os' = [(0,⟨119,6,(c.hosts).length,hostsT (c.hosts)⟩),(1,⟨125,9,(c.pods).length,placedsT (c.pods)⟩)]∧nb' = 2):=by
  have htx:=txt_fit hf stNm
  refine spJ_ (rs:= [.cell 2 43,.tmp 3]) (nt:=18) Tryz.func24 rfl fun X hX=>?_
  refine nm_ ?_
  repeat' ((first|contradiction|(with_reducible exact tt_)|(refine bk_ (fun h h'=>?_) (fun h h'=>?_))|(refine and_ ?_ ?_)|(refine pln_ ?_)|(refine cl_ rfl _ _ (impl_TextOf_D fs stNm hf.len) rfl rfl ?_;rintro _ rfl)|(refine awH_ rfl (impl_ReadStored_D (txtB fs stNm) (by omega)) [] ?_;rintro _ _ _ ⟨c,code,hS,⟨hc,h8,h12⟩,rfl,rfl,rfl⟩ _)|(refine rjj_ [.nil 1 0 119 6,.nil 1 1 125 9] [2,3] ?_)|(refine rjj_ [] [2,3] ?_)|fail)<;>(try refine nm_ ?_))
  all_goals (refine ⟨?_⟩)
  all_goals first|contradiction|(refine ⟨c,code,rs_yes (by omega) hS,⟨hc,h8,h12⟩,rfl,?_⟩;first|rfl|exact ⟨rfl,rfl⟩)|(refine ⟨zeroC,11,rs_no (by omega),⟨zero_fine,(by decide),(by decide)⟩,rfl,?_⟩;first|rfl|exact ⟨rfl,rfl⟩)
theorem impl_ClusterNew_D :Spec Tryz.prog 92 [] (fun d=>d = .agg [.sc (.slice none 0 0),.sc (.slice none 0 0),.sc (.int .i64 1),.sc (.int .i64 2),.sc (.int .i64 1),.sc (.int .i64 3)]):=by
  refine sp_ (rs:= [.cell 0 43]) (nt:=3) Tryz.func92 rfl fun X hX=>?_
  refine nm_ ?_
  repeat' ((first|contradiction|(with_reducible exact tt_)|(refine bk_ (fun h h'=>?_) (fun h h'=>?_))|(refine and_ ?_ ?_)|(refine pln_ ?_)|(refine cl_ rfl _ _ (impl_UsualWeights_D) rfl rfl ?_;rintro _ rfl)|fail)<;>(try refine nm_ ?_))
  all_goals (refine ⟨?_⟩)
  all_goals first|rfl
theorem impl_Standing_D (fs:List FileD) (hf:DiskF fs):SpecH Tryz.prog 27 [.agg [.sl fs.length (filesD fs)]] [] 0 (fun d os' nb'=>∃ c code,Sd8 fs c code∧(c.fine∧c.hosts.length≤8∧c.pods.length≤12)∧d = .tup [.agg [.own 0 0 (c.hosts).length,.own 1 0 (c.pods).length,.sc (.int .i64 c.next),.sc (.int .i64 c.w1),.sc (.int .i64 c.w2),.sc (.int .i64 c.w3)],.sc (.int .i64 code)]∧os' = [(0,⟨119,6,(c.hosts).length,hostsT (c.hosts)⟩),(1,⟨125,9,(c.pods).length,placedsT (c.pods)⟩)]∧nb' = 2):=by
  refine spJ_ (rs:= [.cell 2 43,.tmp 3]) (nt:=16) Tryz.func27 rfl fun X hX=>?_
  refine nm_ ?_
  repeat' ((first|contradiction|(with_reducible exact tt_)|(refine bk_ (fun h h'=>?_) (fun h h'=>?_))|(refine and_ ?_ ?_)|(refine pln_ ?_)|(refine cl_ rfl _ _ (impl_ClusterNew_D) rfl rfl ?_;rintro _ rfl)|(refine awH_ rfl (impl_RestoreFrom_D fs hf) [] ?_;rintro _ _ _ ⟨c,code,hS,⟨hc,h8,h12⟩,rfl,rfl,rfl⟩ _)|(refine rjj_ [.nil 1 0 119 6,.nil 1 1 125 9] [5,6] ?_)|(refine rjj_ [] [2,3] ?_)|fail)<;>(try refine nm_ ?_))
  all_goals (refine ⟨?_⟩)
  all_goals first|contradiction|(refine ⟨c,code,sd_yes hS (by omega),⟨hc,h8,h12⟩,rfl,?_⟩;first|rfl|exact ⟨rfl,rfl⟩)|(refine ⟨newC,0,sd_no hS (by omega),⟨new_fine,(by decide),(by decide)⟩,rfl,?_⟩;first|rfl|exact ⟨rfl,rfl⟩)
end Go.Proofs.YtgoeccemfgniiaaGreat
