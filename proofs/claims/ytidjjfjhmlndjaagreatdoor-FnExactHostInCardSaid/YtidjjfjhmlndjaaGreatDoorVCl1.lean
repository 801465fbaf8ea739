/- Cl1 (what is wanted of them). -/
import Derived.Test.YtidjjfjhmlndjaaGreatDoorVNm
namespace Go.Proofs.YtidjjfjhmlndjaaGreatDoor
open Go.RowKit
set_option linter.unusedVariables false
set_option linter.unusedSimpArgs false
set_option maxRecDepth 100000
set_option maxHeartbeats 1000000
theorem l14Letter_D (x:Int):Spec Tryz.prog 226 [.sc (.int .u8 x)] (fun d=>d = .sc (.bool (letterB x))):=by
  refine sp_ (rs:= [.tmp 2]) (nt:=25) Tryz.func226 rfl fun X hX=>?_
  refine nm_ ?_
  repeat' ((first|contradiction|(with_reducible exact tt_)|((with_reducible show Wk (AwStep _ _ _ _ _));first|(refine pln_ ?_))|((with_reducible show Wk (boolK _ _ _ _));first|(refine bk_ (fun h h'=>?_) (fun h h'=>?_)))|((with_reducible show Wk (_∧_));first|(refine and_ ?_ ?_))|fail)<;>(try refine nm_ ?_))
  all_goals (refine ⟨?_⟩)
  all_goals first|rfl|(unfold letterB;(try simp_all)<;>(try omega))
theorem l01In_D (a b c:Int):Spec Tryz.prog 149 [.sc (.int .i64 a),.sc (.int .i64 b),.sc (.int .i64 c)] (fun d=>d = .sc (.bool (inB a b c))):=by
  refine sp_ (rs:= [.tmp 6]) (nt:=15) Tryz.func149 rfl fun X hX=>?_
  refine nm_ ?_
  repeat' ((first|contradiction|(with_reducible exact tt_)|((with_reducible show Wk (AwStep _ _ _ _ _));first|(refine pln_ ?_))|((with_reducible show Wk (boolK _ _ _ _));first|(refine bk_ (fun h h'=>?_) (fun h h'=>?_)))|((with_reducible show Wk (_∧_));first|(refine and_ ?_ ?_))|fail)<;>(try refine nm_ ?_))
  all_goals (refine ⟨?_⟩)
  all_goals first|rfl|(unfold inB;(try simp_all)<;>(try omega))
theorem within_D (a b c:Int):Spec Tryz.prog 213 [.sc (.int .i64 a),.sc (.int .i64 b),.sc (.int .i64 c)] (fun d=>d = .sc (.bool (inB a b c))):=by
  refine sp_ (rs:= [.tmp 6]) (nt:=15) Tryz.func213 rfl fun X hX=>?_
  refine nm_ ?_
  repeat' ((first|contradiction|(with_reducible exact tt_)|((with_reducible show Wk (AwStep _ _ _ _ _));first|(refine pln_ ?_))|((with_reducible show Wk (boolK _ _ _ _));first|(refine bk_ (fun h h'=>?_) (fun h h'=>?_)))|((with_reducible show Wk (_∧_));first|(refine and_ ?_ ?_))|fail)<;>(try refine nm_ ?_))
  all_goals (refine ⟨?_⟩)
  all_goals first|rfl|(unfold inB;(try simp_all)<;>(try omega))
theorem isLower_D (x:Int):Spec Tryz.prog 232 [.sc (.int .u8 x)] (fun d=>d = .sc (.bool (decide (97≤x)&&decide (x≤122)))):=by
  refine sp_ (rs:= [.tmp 2]) (nt:=9) Tryz.func232 rfl fun X hX=>?_
  refine nm_ ?_
  repeat' ((first|contradiction|(with_reducible exact tt_)|((with_reducible show Wk (AwStep _ _ _ _ _));first|(refine pln_ ?_))|((with_reducible show Wk (boolK _ _ _ _));first|(refine bk_ (fun h h'=>?_) (fun h h'=>?_)))|((with_reducible show Wk (_∧_));first|(refine and_ ?_ ?_))|fail)<;>(try refine nm_ ?_))
  all_goals (refine ⟨?_⟩)
  all_goals first|rfl|simp_all
theorem isDigit_D (x:Int):Spec Tryz.prog 233 [.sc (.int .u8 x)] (fun d=>d = .sc (.bool (decide (48≤x)&&decide (x≤57)))):=by
  refine sp_ (rs:= [.tmp 2]) (nt:=9) Tryz.func233 rfl fun X hX=>?_
  refine nm_ ?_
  repeat' ((first|contradiction|(with_reducible exact tt_)|((with_reducible show Wk (AwStep _ _ _ _ _));first|(refine pln_ ?_))|((with_reducible show Wk (boolK _ _ _ _));first|(refine bk_ (fun h h'=>?_) (fun h h'=>?_)))|((with_reducible show Wk (_∧_));first|(refine and_ ?_ ?_))|fail)<;>(try refine nm_ ?_))
  all_goals (refine ⟨?_⟩)
  all_goals first|rfl|simp_all
theorem isLetter_D (x:Int):Spec Tryz.prog 271 [.sc (.int .u8 x)] (fun d=>d = .sc (.bool ((decide (97≤x)&&decide (x≤122))||(decide (65≤x)&&decide (x≤90))))):=by
  refine sp_ (rs:= [.tmp 2]) (nt:=13) Tryz.func271 rfl fun X hX=>?_
  refine nm_ ?_
  repeat' ((first|contradiction|(with_reducible exact tt_)|((with_reducible show Wk (AwStepF _ _ _ _ _ _ _));first|(refine cl_ rfl _ _ (isLower_D x) rfl rfl ?_;rintro _ rfl))|((with_reducible show Wk (AwStep _ _ _ _ _));first|(refine pln_ ?_))|((with_reducible show Wk (boolK _ _ _ _));first|(refine bk_ (fun h h'=>?_) (fun h h'=>?_)))|((with_reducible show Wk (_∧_));first|(refine and_ ?_ ?_))|fail)<;>(try refine nm_ ?_))
  all_goals (refine ⟨?_⟩)
  all_goals first|rfl|simp_all
theorem plain_D (x:Int):Spec Tryz.prog 270 [.sc (.int .u8 x)] (fun d=>d = .sc (.bool (letterB x))):=by
  refine sp_ (rs:= [.tmp 2]) (nt:=9) Tryz.func270 rfl fun X hX=>?_
  refine nm_ ?_
  repeat' ((first|contradiction|(with_reducible exact tt_)|((with_reducible show Wk (AwStepF _ _ _ _ _ _ _));first|(refine cl_ rfl _ _ (isLetter_D x) rfl rfl ?_;rintro _ rfl)|(refine cl_ rfl _ _ (isDigit_D x) rfl rfl ?_;rintro _ rfl))|((with_reducible show Wk (AwStep _ _ _ _ _));first|(refine pln_ ?_))|((with_reducible show Wk (boolK _ _ _ _));first|(refine bk_ (fun h h'=>?_) (fun h h'=>?_)))|((with_reducible show Wk (_∧_));first|(refine and_ ?_ ?_))|fail)<;>(try refine nm_ ?_))
  all_goals (refine ⟨?_⟩)
  all_goals first|rfl|(unfold letterB;(try simp_all)<;>(try omega))
def nmAt (s:ByteArray) (k:Nat):Bool:=(letterB (bytB s k)&&!(decide (65≤bytB s k)&&decide (bytB s k≤90)))||decide (bytB s k=45)
theorem nmB_eq (s:ByteArray):nmB s=(inB s.size 1 20&&(decide (bytB s 0≠45)&&(decide (bytB s (s.size - 1)≠45)&&allB s.size (nmAt s)))):=rfl
theorem specName_F (s:ByteArray) (hb:inB s.size 1 20=false):Spec Tryz.prog 144 [.sc (.string s)] (fun d=>d = .sc (.bool false)):=by
  refine sp_ (rs:= [.tmp 2]) (nt:=51) Tryz.func144 rfl fun X hX=>?_
  refine nm_ ?_
  repeat' ((first|contradiction|(with_reducible exact tt_)|((with_reducible show Wk (AwStepF _ _ _ _ _ _ _));first|(refine cl_ rfl _ _ (l01In_D _ _ _) rfl rfl ?_;rintro _ rfl)|(refine cl_ rfl _ _ (l14Letter_D _) rfl rfl ?_;rintro _ rfl))|((with_reducible show Wk (AwStep _ _ _ _ _));first|(refine pln_ ?_))|((with_reducible show Wk (boolK _ _ _ _));first|(refine bk_ (fun h h'=>?_) (fun h h'=>?_)))|((with_reducible show Wk (_∧_));first|(refine and_ ?_ ?_))|fail)<;>(try refine nm_ ?_))
theorem specName_T (s:ByteArray) (hb:inB s.size 1 20=true) (hz:1≤s.size∧s.size≤20):Spec Tryz.prog 144 [.sc (.string s)] (fun d=>d = .sc (.bool (nmB s))):=by
  refine sp_ (rs:= [.tmp 2]) (nt:=51) Tryz.func144 rfl fun X hX=>?_
  refine nm_ ?_
  repeat' ((first|contradiction|(with_reducible exact tt_)|((with_reducible show Wk (AwStepF _ _ _ _ _ _ _));first|(refine cl_ rfl _ _ (l01In_D _ _ _) rfl rfl ?_;rintro _ rfl)|(refine cl_ rfl _ _ (l14Letter_D _) rfl rfl ?_;rintro _ rfl))|((with_reducible show Wk (AwStep _ _ _ _ _));first|(refine pln_ ?_))|((with_reducible show Wk (AwCode _ _ _ _ _));first|(refine lpU_ 0x9 (ι:=Int) (fun i=> [(3,.sc (.int .i64 i))]) (fun i=>(0≤i∧i≤s.size)∧∀ k:Nat,(k:Int) < i→nmAt s k=true) (fun i=>((s.size:Int) - i).toNat) 0 ?_ ?_;(focus (exact ⟨by omega,allB_zero⟩));rintro _ hN0 i hinv;(try dsimp only at hinv);obtain ⟨hi,hj⟩:=hinv;replace hj:=Lib.hid hj;skip))|((with_reducible show Wk (boolK _ _ _ _));first|(refine bk_ (fun h h'=>?_) (fun h h'=>?_)))|((with_reducible show Wk (_∧_));first|(refine and_ ?_ ?_))|(refine hN0.go (i+1) ?_ ?_;(focus (exact ⟨by show 0≤i+1∧i+1≤(s.size:Int);omega,allB_step hi.1 hj.out (by unfold nmAt;(try simp_all))⟩));(focus (show ((s.size:Int) - (i+1)).toNat < ((s.size:Int) - i).toNat;omega)))|fail)<;>(try refine nm_ ?_))
  all_goals (refine ⟨?_⟩)
  all_goals first|contradiction|(rw [nmB_eq,hb];(try simp_all);done)|(rw [nmB_eq,hb,allB_no hi.1 (by omega) (by unfold nmAt;(try simp_all))];(try simp_all);done)|(rw [nmB_eq,hb,allB_yes (by omega) hj.out];(try simp_all);done)
theorem inB_rng {n:Nat}{a b:Nat} (h:inB n a b=true):a≤n∧n≤b:=by
  simp [inB] at h
  omega
theorem specName_D (s:ByteArray):Spec Tryz.prog 144 [.sc (.string s)] (fun d=>d = .sc (.bool (nmB s))):=by
  cases hb:inB s.size 1 20 with
  |false=>
    have e:nmB s=false:=by rw [nmB_eq,hb];rfl
    rw [e]
    exact specName_F s hb
  |true=>exact specName_T s hb (inB_rng (a:=1) (b:=20) hb)
end Go.Proofs.YtidjjfjhmlndjaaGreatDoor
