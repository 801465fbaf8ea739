/- Rd5, Rd6, Rd9 (what is wanted of them). -/
import Derived.Test.YtgoeccemfgniiaaGreatURd1
import Derived.Test.YtgoeccemfgniiaaGreatURdm
import Derived.Test.YtgoeccemfgniiaaGreatUNn
import Derived.Test.YtgoeccemfgniiaaGreatURds
import Derived.Test.YtgoeccemfgniiaaGreatUCl4
import Derived.Test.YtgoeccemfgniiaaGreatUSn2
import Derived.Test.YtgoeccemfgniiaaGreatURd4
namespace Go.Proofs.YtgoeccemfgniiaaGreat
open Go.RowKit
set_option linter.unusedVariables false
set_option linter.unusedSimpArgs false
set_option maxRecDepth 100000
set_option maxHeartbeats 4000000
theorem spec_l26Num_D (s:ByteArray) (p:Int) (hs:s.size≤4611686018427387904) (hp:okP s p) (a:Int) (b:Bool) (hc:Cur a b p):SpecH Tryz.prog 230 [.ptr 0 0] [(0,⟨239,3,1, [.sc (.string s),.sc (.int .i64 (a)),.sc (.bool b)]⟩)] 1 (fun d os' nb'=>∃ x q a' b',Got (readV s p) x q∧(okP s q∧Cur a' b' q)∧(0≤x∧x≤9223372036854775807)∧d = .sc (.int .i64 x)∧os' = [(0,⟨239,3,1, [.sc (.string s),.sc (.int .i64 (a')),.sc (.bool b')]⟩)]∧nb' = 1):=by
  have ha:=hc.hi;have ha2:=hc.lo
  refine spH_ (rs:= [.tmp 2]) (nt:=33) Tryz.func230 rfl fun X hX=>?_
  refine nm_ ?_
  repeat' ((first|contradiction|(with_reducible exact tt_)|(refine bk_ (fun h h'=>?_) (fun h h'=>?_))|(refine and_ ?_ ?_)|(refine pln_ ?_)|(refine cl_ rfl _ _ (spec_ReadVar_D s a hs ha) rfl rfl ?_;rintro _ ⟨rfl,hv⟩)|(refine rh_ [] ?_)|(refine wo_ (id:=1) [] [(0,true),(1,true),(2,true),(3,true),(4,true),(5,true),(6,true),(7,true),(8,false),(9,true),(10,true),(11,true),(12,true),(13,true)] ?_)|fail)<;>(try refine nm_ ?_))
  all_goals (refine ⟨?_⟩)
  all_goals first|contradiction|(have e:=num_no (s:=s) hc (by first|(left;assumption)|(right;assumption));refine ⟨0,-1,_,true,e,⟨okP_got hp e,hc.bad⟩,(by decide),rfl,?_⟩;first|rfl|exact ⟨rfl,rfl⟩)|(have e:=num_yes (s:=s) hc hs (by assumption) (by assumption);have e5:b=false:=(by assumption);subst e5;refine ⟨_,_,_,false,e.1,⟨okP_got hp e.1,e.2.1⟩,e.2.2,rfl,?_⟩;first|rfl|exact ⟨rfl,rfl⟩)
theorem spec_l26Text_D (s:ByteArray) (p:Int) (hs:s.size≤4611686018427387904) (hp:okP s p) (a:Int) (b:Bool) (hc:Cur a b p):SpecH Tryz.prog 232 [.ptr 0 0] [(0,⟨239,3,1, [.sc (.string s),.sc (.int .i64 (a)),.sc (.bool b)]⟩)] 1 (fun d os' nb'=>∃ x q a' b',Got (txtR s p) x q∧(okP s q∧Cur a' b' q)∧(strOk x)∧d = .sc (.string x)∧os' = [(0,⟨239,3,1, [.sc (.string s),.sc (.int .i64 (a')),.sc (.bool b')]⟩)]∧nb' = 1):=by
  have ha:=hc.hi;have ha2:=hc.lo
  refine spH_ (rs:= [.tmp 2]) (nt:=33) Tryz.func232 rfl fun X hX=>?_
  refine nm_ ?_
  repeat' ((first|contradiction|(with_reducible exact tt_)|(refine bk_ (fun h h'=>?_) (fun h h'=>?_))|(refine and_ ?_ ?_)|(refine pln_ ?_)|(refine cl_ rfl _ _ (spec_ReadShort_D s a hs ha) rfl rfl ?_;rintro _ rfl)|(refine rh_ [] ?_)|(refine wo_ (id:=1) [] [(0,true),(1,true),(2,true),(3,true),(4,true),(5,true),(6,true),(7,true),(8,false),(9,true),(10,true),(11,true),(12,true),(13,true)] ?_)|fail)<;>(try refine nm_ ?_))
  all_goals (refine ⟨?_⟩)
  all_goals first|contradiction|(have e:=tx_no (s:=s) hc (by first|(left;assumption)|(right;assumption));refine ⟨_,-1,_,true,e,⟨(okP_gott hp e).1,hc.bad⟩,(okP_gott hp e).2,rfl,?_⟩;first|rfl|exact ⟨rfl,rfl⟩)|(have e:=tx_yes (s:=s) hc hs (by assumption) (by assumption);have e5:b=false:=(by assumption);subst e5;refine ⟨_,_,_,false,e.1,⟨(okP_gott hp e.1).1,e.2⟩,(okP_gott hp e.1).2,rfl,?_⟩;first|rfl|exact ⟨rfl,rfl⟩)
theorem spec_l26Many_D (s:ByteArray) (p:Int) (hs:s.size≤4611686018427387904) (hp:okP s p) (a:Int) (b:Bool) (hc:Cur a b p) (m:Int) (hm:0≤m):SpecH Tryz.prog 231 [.ptr 0 0,.sc (.int .i64 m)] [(0,⟨239,3,1, [.sc (.string s),.sc (.int .i64 (a)),.sc (.bool b)]⟩)] 1 (fun d os' nb'=>∃ x q a' b',Got (cntR s p m) x q∧(okP s q∧Cur a' b' q)∧(0≤x∧x≤m)∧d = .sc (.int .i64 x)∧os' = [(0,⟨239,3,1, [.sc (.string s),.sc (.int .i64 (a')),.sc (.bool b')]⟩)]∧nb' = 1):=by
  refine spH_ (rs:= [.tmp 4]) (nt:=15) Tryz.func231 rfl fun X hX=>?_
  refine nm_ ?_
  repeat' ((first|contradiction|(with_reducible exact tt_)|(refine bk_ (fun h h'=>?_) (fun h h'=>?_))|(refine and_ ?_ ?_)|(refine pln_ ?_)|(refine awH_ rfl (spec_l26Num_D s p hs hp a _ hc) [0] ?_;rintro _ _ _ ⟨x,q,a1,b1,g1,⟨o1,c1⟩,s1,rfl,rfl,rfl⟩ _)|(refine rh_ [] ?_)|fail)<;>(try refine nm_ ?_))
  all_goals (refine ⟨?_⟩)
  all_goals first|contradiction|(have e:=many_no (m:=m) g1 (by omega);refine ⟨0,-1,_,true,e,⟨(okP_gotc hp hm e).1,c1.bad⟩,(by omega),rfl,?_⟩;first|rfl|exact ⟨rfl,rfl⟩)|(have e:=many_yes (m:=m) hm g1 (by omega);refine ⟨_,_,_,_,e,⟨o1,c1⟩,(by omega),rfl,?_⟩;first|rfl|exact ⟨rfl,rfl⟩)
theorem spec_l26Labels_D (s:ByteArray) (p:Int) (hs:s.size≤4611686018427387904) (hp:okP s p) (a:Int) (b:Bool) (hc:Cur a b p):SpecH Tryz.prog 233 [.ptr 0 0] [(0,⟨239,3,1, [.sc (.string s),.sc (.int .i64 (a)),.sc (.bool b)]⟩)] 1 (fun d os' nb'=>∃ l q a' b',Got (labelsS s p) l q∧(okP s q∧Cur a' b' q)∧(labelsFine l∧l.length≤6)∧d = .sl l.length (labelsD l)∧os' = [(0,⟨239,3,1, [.sc (.string s),.sc (.int .i64 (a')),.sc (.bool b')]⟩)]∧nb' = 1):=by
  refine spJ_ (rs:= [.tmp 2]) (nt:=32) Tryz.func233 rfl fun X hX=>?_
  refine nm_ ?_
  repeat' ((first|contradiction|(with_reducible exact tt_)|(refine bk_ (fun h h'=>?_) (fun h h'=>?_))|(refine and_ ?_ ?_)|(refine pln_ ?_)|(refine app_ rfl ?_)|(refine awH_ rfl (spec_l26Many_D s p hs hp a _ hc 6 (by decide)) [0] ?_;rintro _ _ _ ⟨n,p1,a1,b1,g1,⟨o1,c1⟩,s1,rfl,rfl,rfl⟩ _)|(refine awH_ rfl (spec_l26Text_D s qA hs hqA aAL _ (hcA.fls (by assumption))) [0] ?_;rintro _ _ _ ⟨k,q1,a2,b2,g2,⟨o2,c2⟩,s2,rfl,rfl,rfl⟩ _)|(refine awH_ rfl (spec_l26Text_D s q1 hs o2 a2 _ c2) [0] ?_;rintro _ _ _ ⟨v,q2,a3,b3,g3,⟨o3,c3⟩,s3,rfl,rfl,rfl⟩ _)|(refine rjj_ [.frz 1] [] ?_)|(refine lpK_ (ι:=List LabelD × Int × Int × Int × Bool) [] [0,1] 0x39 (fun ⟨acc,iA,qA,aAL,bAL⟩=> [(5,.sc (.int .i64 iA)),(3,.own 1 0 acc.length)]) (fun ⟨acc,iA,qA,aAL,bAL⟩=> [(0,⟨239,3,1, [.sc (.string s),.sc (.int .i64 (aAL)),.sc (.bool bAL)]⟩),(1,⟨222,2,(acc).length,labelsD (acc)⟩)]) (fun ⟨acc,iA,qA,aAL,bAL⟩=>okP s qA∧Cur aAL bAL qA∧((acc.length:Int)=iA∧iA≤n)∧allF labelF acc∧repZ (labelR s) (n - iA).toNat acc qA=repZ (labelR s) n.toNat [] p1) (fun ⟨acc,iA,qA,aAL,bAL⟩=>(n - iA).toNat) ([],0,p1,a1,b1) ?_ ?_;(focus (exact ⟨o1,c1,⟨rfl,by omega⟩,allF_nil label_def,by rw [Int.sub_zero]⟩));rintro _ hN0 ⟨acc,iA,qA,aAL,bAL⟩ hinv;(try dsimp only at hinv);obtain ⟨hqA,hcA,hiA,hfA,hRA⟩:=hinv;replace hRA:=Lib.hid hRA;skip)|(refine hN0.run ((acc ++ [⟨k,v⟩],iA+1,q2,a3,b3)) [] [0,3] ?_ ?_;(focus (exact ⟨o3,c3,⟨by simp;omega,by omega⟩,allF_snoc label_def hfA ⟨s2,s3⟩,repZ_step (by omega) (hcA.pos (by assumption)) hRA.out (label_mk g2 g3)⟩));(focus (show (n - (iA+1)).toNat < (n - iA).toNat;omega)))|fail)<;>(try refine nm_ ?_))
  all_goals (refine ⟨?_⟩)
  all_goals first|contradiction|((try (have e5:bAL=true:=(by assumption);subst e5));refine ⟨_,_,_,_,labels_mk g1 (repZ_end (by first|(left;omega)|(right;exact hcA.neg (by assumption))) hRA.out),⟨hqA,hcA⟩,⟨labels_of hfA (by omega),(by omega)⟩,rfl,?_⟩;first|rfl|exact ⟨rfl,rfl⟩)
end Go.Proofs.YtgoeccemfgniiaaGreat
namespace Go.Proofs.YtgoeccemfgniiaaGreat
open Go.RowKit
set_option linter.unusedVariables false
set_option linter.unusedSimpArgs false
set_option maxRecDepth 100000
set_option maxHeartbeats 4000000
theorem spec_l26On_D (s:ByteArray) (p:Int) (hs:s.size≤4611686018427387904) (hp:okP s p) (a:Int) (b:Bool) (hc:Cur a b p) (L:List HostD) (M:List PlacedD) (hL:L.length≤8) (hLf:allF HostD.fine L) (nx w1 w2 w3:Int):SpecH Tryz.prog 234 [.ptr 0 0,.agg [.sl (L).length (hostsD (L)),.own 1 0 (M).length,.sc (.int .i64 nx),.sc (.int .i64 w1),.sc (.int .i64 w2),.sc (.int .i64 w3)]] [(0,⟨239,3,1, [.sc (.string s),.sc (.int .i64 (a)),.sc (.bool b)]⟩),(1,⟨125,9,(M).length,placedsD (M)⟩)] 2 (fun d os' nb'=>∃ o q a' b',Got (onR s L p) o q∧(okP s q∧Cur a' b' q)∧(strOk o)∧d = .sc (.string o)∧os' = [(0,⟨239,3,1, [.sc (.string s),.sc (.int .i64 (a')),.sc (.bool b')]⟩),(1,⟨125,9,(M).length,placedsD (M)⟩)]∧nb' = 2):=by
  refine spH_ (rs:= [.tmp 4]) (nt:=20) Tryz.func234 rfl fun X hX=>?_
  refine nm_ ?_
  repeat' ((first|contradiction|(with_reducible exact tt_)|(refine bk_ (fun h h'=>?_) (fun h h'=>?_))|(refine and_ ?_ ?_)|(refine pln_ ?_)|(refine awH_ rfl (spec_l26Many_D s p hs hp a _ hc (L.length:Int) (by omega)) [0] ?_;rintro _ _ _ ⟨k,p1,a1,b1,g1,⟨o1,c1⟩,s1,rfl,rfl,rfl⟩ _)|(refine rh_ [] ?_)|fail)<;>(try refine nm_ ?_))
  all_goals (refine ⟨?_⟩)
  all_goals first|contradiction|(refine ⟨_,_,_,_,on_no (by omega) g1,⟨o1,c1⟩,(by decide),rfl,?_⟩;first|rfl|exact ⟨rfl,rfl⟩)|(refine ⟨_,_,_,_,on_yes (by omega) g1,⟨o1,c1⟩,(hLf.out _).name,rfl,?_⟩;first|rfl|exact ⟨rfl,rfl⟩)
end Go.Proofs.YtgoeccemfgniiaaGreat
namespace Go.Proofs.YtgoeccemfgniiaaGreat
open Go.RowKit
set_option linter.unusedVariables false
set_option linter.unusedSimpArgs false
set_option maxRecDepth 100000
set_option maxHeartbeats 4000000
theorem impl_ReadSnap_C (s:ByteArray) (hz:s.size≤1048579):SpecH Tryz.prog 104 [.sc (.string s)] [] 0 (fun d os' nb'=>∃ c ok,Fin (rdC s) c ok∧(c.fine∧c.hosts.length≤8∧c.pods.length≤12∧(ok=true→clusterB c=true))∧d = .tup [.agg [.own 0 0 (c.hosts).length,.own 1 0 (c.pods).length,.sc (.int .i64 c.next),.sc (.int .i64 c.w1),.sc (.int .i64 c.w2),.sc (.int .i64 c.w3)],.sc (.bool ok)]∧os' = [(0,⟨119,6,(c.hosts).length,hostsT (c.hosts)⟩),(1,⟨125,9,(c.pods).length,placedsT (c.pods)⟩)]∧nb' = 2):=by
  have h:=impl_ReadSnap_D s hz
  rw [snap_ag] at h
  exact h
theorem cat_usual {s:ByteArray} (hz:s.size≤1048576):(usualT++s).size≤1048579:=by rw [ByteArray.size_append,usual_size];omega
theorem impl_ReadSnap2_D (s:ByteArray) (hz:s.size≤1048576):SpecH Tryz.prog 55 [.sc (.string s)] [] 0 (fun d os' nb'=>∃ c ok,Fin (rd2 s) c ok∧(c.fine∧c.hosts.length≤8∧c.pods.length≤12∧(ok=true→clusterB c=true))∧d = .tup [.agg [.own 0 0 (c.hosts).length,.own 1 0 (c.pods).length,.sc (.int .i64 c.next),.sc (.int .i64 c.w1),.sc (.int .i64 c.w2),.sc (.int .i64 c.w3)],.sc (.bool ok)]∧os' = [(0,⟨119,6,(c.hosts).length,hostsT (c.hosts)⟩),(1,⟨125,9,(c.pods).length,placedsT (c.pods)⟩)]∧nb' = 2):=by
  have hcat:=cat_usual hz;have hu:=usual_size
  have ex0:=@ByteArray.size_append
  refine spH_ (rs:= [.cell 2 43,.tmp 3]) (nt:=10) Tryz.func55 rfl fun X hX=>?_
  refine nm_ ?_
  repeat' ((first|contradiction|(with_reducible exact tt_)|(refine bk_ (fun h h'=>?_) (fun h h'=>?_))|(refine and_ ?_ ?_)|(refine pln_ ?_)|(refine cl_ rfl _ _ (impl_usualBytes_D) rfl rfl ?_;rintro _ ⟨rfl,hu⟩)|(refine awH_ rfl (impl_ReadSnap_C (usualT++s) hcat) [] ?_;rintro _ _ _ ⟨c,ok,hf,⟨hc,h8,h12,hk⟩,rfl,rfl,rfl⟩ _)|(refine rh_ [1,2] ?_)|fail)<;>(try refine nm_ ?_))
  all_goals clear ex0
  all_goals (refine ⟨?_⟩)
  all_goals first|contradiction|(refine ⟨c,ok,hf,⟨hc,h8,h12,hk⟩,rfl,?_⟩;first|rfl|exact ⟨rfl,rfl⟩)
theorem impl_Upgraded23_D (s:ByteArray) (hz:s.size≤1048576):Spec Tryz.prog 52 [.sc (.string s)] (fun d=>∃ t ok,Txt (up23 s) t ok∧t.size≤60000∧d = .tup [.sc (.string t),.sc (.bool ok)]):=by
  refine sp_ (rs:= [.tmp 2,.tmp 3]) (nt:=15) Tryz.func52 rfl fun X hX=>?_
  refine nm_ ?_
  repeat' ((first|contradiction|(with_reducible exact tt_)|(refine bk_ (fun h h'=>?_) (fun h h'=>?_))|(refine and_ ?_ ?_)|(refine pln_ ?_)|(refine awH_ rfl (impl_ReadSnap2_D s hz) [] ?_;rintro _ _ _ ⟨c,ok,hf,⟨hc,h8,h12,hk⟩,rfl,rfl,rfl⟩ _)|(refine bo_ rfl [.cool 0,.frz 0,.cool 1,.frz 1] (impl_SnapText_D c hc) ?_;rintro _ ⟨rfl,hs⟩;refine ⟨rfl,?_⟩)|fail)<;>(try refine nm_ ?_))
  all_goals (refine ⟨?_⟩)
  all_goals first|contradiction|(exact ⟨_,_,up23_no hf (by first|assumption|simp_all),(by decide),rfl⟩)|(exact ⟨_,_,up23_yes hf (by first|assumption|simp_all),snapT_le hc,rfl⟩)
end Go.Proofs.YtgoeccemfgniiaaGreat
